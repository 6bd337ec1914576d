import Derived.Orders
import Derived.WalkKit
import Derived.ChangeKeysEq
import Derived.DeepKeys3
open Nat renaming beq→bj,ble→bm,eq_of_beq_eq_true→bx,blt→cf,lt_of_succ_lt_succ→ch,le_trans→cp,zero_lt_succ→c8,succ_lt_succ→c9,testBit→da,noConfusion→db,le_refl→dd
open List renaming getElem?_eq_getElem→de,replicate→df,getD_eq_getElem?_getD→di
open BitVec renaming ofInt→dk
open Bool renaming and_eq_true→dp
section
namespace Go.Am
inductive PV where
 |bk
 |sc (v:Value)
 |pp (off:Nat) (cells:List PV)
 |ps (len sz:Nat) (cells:List PV)
 |mD (t:TypeId) (v:PV)
 deriving Inhabited
inductive AV where
 |aT
 |p (v:PV)
 |os (tok:Option Nat) (len sz:Nat) (cells:List PV)
 |mp (b off:Nat)
 |ms (b off len sz:Nat) (cap:Option Nat)
 |fn (f:Fn) (first captured:List AV)
 |agg (cells:List AV)
 |aK (vs:List AV)
 |mD (t:TypeId) (v:AV)
 |vm (b:Nat)
 |vy (b:Nat)
 deriving Inhabited
inductive dV where
 |map (keys:List Value) (Rg:List Nat) (clock:Nat)
 |Hx
 |shut
 |loop (f:FuncId) (ps:Array Tmp) (assign body:Code) (state:LoopState) (pending:Option Code)
 |iter (s:ByteArray) (pos:Nat)
 |gr (t:TypeId) (q:Bool)
 |JS (keys:List Value)
 |Wq
 |N2 (s:ByteArray) (pos:Nat) (more:Bool)
 |stk (t:TypeId) (pre:List Value)
 |gb (t:TypeId)
 deriving Inhabited
inductive aN where
 |free
 |dead
 |pc (cells:List PV)
 |ac (cells:List AV)
 |tok
 |ob (k:dV) (vals:List AV)
 deriving Inhabited
abbrev Mem:=List aN
abbrev qK:=List (Nat×AV)
abbrev nF:=List (Nat×aN)
abbrev sI (k:IntKind) (n:Int):AV:= .p (.sc (.int k n))
abbrev sB (b:Bool):AV:= .p (.sc (.bool b))
def look:qK→Nat→AV
 |[],_=> .aT
 |(k,v)::r,i=>cond (bj k i) v (look r i)
def hG:Value→AV
 |.slice none 0 0=> .os none 0 0 []
 |v=> .p (.sc v)
def Rh:Value→AV
 |.agg cs=> .agg (cs.toList.map hG)
 |.tuple vs=> .aK (vs.toList.map hG)
 |v=>hG v
def JT:AV→Option Value
 |.p (.sc v)=>some v
 |_=>none
def um:List AV→Option (List Value)
 |[]=>some []
 |a::r=>match JT a,um r with
  |some v,some vs=>some (v::vs)
  |_,_=>none
def JA:AV→Option Value
 |.p (.sc v)=>some v
 |.agg l=>(um l).map fun vs=> .agg vs.toArray
 |.aK l=>(um l).map fun vs=> .tuple vs.toArray
 |_=>none
def lA:AV→Bool
 |.p .bk=>false
 |.p (.sc v)=>v.oneCell'
 |.p _ | .os .. | .mp .. | .ms .. | .fn .. | .mD .. | .vm _ | .vy _=>true
 |_=>false
def jv:List AV→Bool
 |[]=>true
 |a::r=>lA a&&jv r
def cellsOf:AV→List AV×Bool
 |.agg l=>(l,jv l)
 |v=>([v],lA v)
def BT:AV→Option PV
 |.p v=>some v
 |.os _ len sz cells=>some (.ps len sz cells)
 |_=>none
def jX:List AV→Option (List PV)
 |[]=>some []
 |a::r=>match BT a,jX r with
  |some v,some vs=>some (v::vs)
  |_,_=>none
def oG:List AV→Bool
 |[]=>true
 |.p _::r=>oG r
 |_::_=>false
def qW:AV→PV
 |.p v=>v
 |_=> .bk
def Hy (l:List AV):Option (List PV):=cond (oG l) (some (l.map qW)) none
def BU (l:List AV):aN:=
 match Hy l with
 |some vs=> .pc vs
 |none=> .ac l
def dy {α:Type} (l:List α) (off:Nat):List α→List α
 |[]=>l
 |v::r=>dy (l.set off v) (off+1) r
def mw {α:Type} (d:α) (l:List α) (off:Nat):Nat→List α
 |0=>[]
 |n+1=>l.getD off d::mw d l (off+1) n
def gJ {α:Type} (P:Program):Sem α→Option α
 |.pure a=>some a
 |.program k=>gJ P (k P)
 |.mark _ k=>gJ P k
 |_=>none
def sq (ρ:Operand→AV):List Operand→Bool
 |[]=>true
 |x::r=>(JA (ρ x)).isSome&&sq ρ r
def scalar (P:Program) (ρ:Operand→AV) (o:Oper):Option AV:=
 cond (sq ρ o.op.operands.toList)
  (match gJ P (execOp (fun x=>(JA (ρ x)).getD undef) o) with
    |some (.value v)=>some (Rh v)
    |_=>none)
  none
def fK (P:Program) (t:TypeId):Option Nat:=(P.info? t).map (·.size)
def N3 (P:Program) (t:TypeId):Option Bool:=
 match P.underlying t with
 |some (.struct _) | some (.array _ _)=>some true
 |some _=>some false
 |none=>none
def isInt (k:IntKind):PV→Bool
 |.sc (.int j _)=>j==k
 |_=>false
def aq:PV→Int
 |.sc (.int _ n)=>n
 |_=>0
def isBool:PV→Bool
 |.sc (.bool _)=>true
 |_=>false
def bg:PV→Bool
 |.sc (.bool b)=>b
 |_=>false
def isStr:PV→Bool
 |.sc (.string _)=>true
 |_=>false
def bh:PV→ByteArray
 |.sc (.string s)=>s
 |_=> .empty
def aQ:PV→Bool
 |.ps .. =>true
 |_=>false
def az:PV→Nat
 |.ps len _ _=>len
 |_=>0
def aR:PV→Nat
 |.ps _ sz _=>sz
 |_=>0
def an:PV→List PV
 |.ps _ _ cs=>cs
 |_=>[]
def isOk:PV→Bool
 |.bk=>false
 |_=>true
def yu (d:Option TypeDesc) (c:PV):PV×Bool:=
 match d with
 |some (.int k)=>(.sc (.int k (aq c)),isInt k c)
 |some .bool=>(.sc (.bool (bg c)),isBool c)
 |some .string=>(.sc (.string (bh c)),isStr c)
 |some (.slice _)=>(.ps (az c) (aR c) (an c),aQ c)
 |_=>(c,isOk c)
def gX (d:Option TypeDesc):AV→AV×Bool
 |.p c=>(.p (yu d c).1,(yu d c).2)
 |v=>(v,true)
def tO (P:Program):Nat→TypeId→List (Option TypeDesc)
 |0,_=>[]
 |n+1,t=>match P.underlying t with
  |some (.struct fs)=>fs.toList.flatMap fun f=>tO P n f.type
  |some (.array k e)=>(df k (tO P n e)).flatten
  |d=>[d]
def pF:List (Option TypeDesc)→List AV→List AV×Bool
 |d::ds,a::r=>((gX d a).1::(pF ds r).1,(gX d a).2&&(pF ds r).2)
 |[],[]=>([],true)
 |_,_=>([],false)
def lB (rd:Nat→aN) (a:AV) (n:Nat):Option (List AV×Bool):=
 match a with
 |.p (.pp off cs)=>some ((mw .bk cs off n).map .p,true)
 |.mp b off=>match rd b with
  |.pc l=>some ((mw .bk l off n).map .p,true)
  |.ac l=>some (mw .aT l off n,bm (off+n) l.length)
  |.ob (.gr _ _) l=>some (mw .aT l off n,bm (off+n) l.length)
  |.ob (.stk _ pre) l=>some (mw .aT l (off-pre.length) n,bm pre.length off&&bm (off-pre.length+n) l.length)
  |_=>none
 |_=>none
def kq (P:Program) (rd:Nat→aN) (t:TypeId) (a:AV):Option (AV×Bool):=
 match N3 P t,fK P t with
 |some true,some n=>(lB rd a n).map fun r=>(.agg (pF (tO P 20 t) r.1).1,r.2&&(pF (tO P 20 t) r.1).2)
 |some false,some _=>match lB rd a 1 with
  |some ([v],ok)=>some ((gX (P.underlying t) v).1,ok&&(gX (P.underlying t) v).2)
  |_=>none
 |_,_=>none
def BV:AV→AV
 |.os _ len sz cs=> .p (.ps len sz cs)
 |v=>v
def JU (q:Bool) (vs:List AV):List AV:=cond q (vs.map BV) vs
def pG (b:aN) (off:Nat) (vs:List AV):Option (aN×Bool):=
 match b with
 |.pc l=>match Hy vs with
  |some aJ=>some (.pc (dy l off aJ),bm (off+vs.length) l.length)
  |none=>some (.ac (dy (l.map .p) off vs),bm (off+vs.length) l.length)
 |.ac l=>some (.ac (dy l off vs),bm (off+vs.length) l.length)
 |.ob (.gr t q) l=>some (.ob (.gr t q) (dy l off (JU q vs)),bm (off+vs.length) l.length)
 |.ob (.stk t pre) l=>some (.ob (.stk t pre) (dy l (off-pre.length) vs),bm pre.length off&&bm (off-pre.length+vs.length) l.length)
 |_=>none
abbrev kH:=Option (AV×nF×Bool)
def pH (P:Program) (rd:Nat→aN) (t:TypeId) (a v:AV):kH:=
 match a,fK P t with
 |.mp b off,some n=>match pG (rd b) off (cellsOf v).1 with
  |some (b',ok)=>some (.aK [],[(b,b')],ok&&(cellsOf v).2&&bj (cellsOf v).1.length n)
  |none=>none
 |_,_=>none
def checked (l:List AV):Option (List AV):=cond (jv l) (some l) none
def zeroCells (P:Program) (t:TypeId):Option (List AV):=
 match(P.info? t).bind (·.zero) with
 |some (.agg cs)=>checked (cs.toList.map hG)
 |some v=>checked [hG v]
 |none=>none
def Ad (P:Program) (aV:Nat) (t:TypeId):kH:=
 (zeroCells P t).map fun l=>(.mp aV 0,[(aV,BU l)],true)
def uo (P:Program) (aV:Nat) (t:TypeId):kH:=
 (zeroCells P t).map fun l=>(.mp aV 0,[(aV,.ob (.gr t false) l)],true)
def JV (aV:Nat) (v:AV):kH:=some (.mp aV 0,[(aV,BU (cellsOf v).1)],(cellsOf v).2)
def sr (place:Nat→Option (Nat×Nat)) (cells:List AV):List (Nat×AV)→Option (List AV×Bool)
 |[]=>some (cells,true)
 |(i,v)::r=>match place i with
  |some (off,size)=>match sr place (dy cells off (cellsOf v).1) r with
   |some (cs,ok)=>some (cs,(cellsOf v).2&&bj (cellsOf v).1.length size&&bm (off+size) cells.length&&ok)
   |none=>none
  |none=>none
def placesOf (P:Program):List Field→Option (List (Nat×Nat))
 |[]=>some []
 |f::r=>match fK P f.type,placesOf P r with
  |some n,some l=>some ((f.offset,n)::l)
  |_,_=>none
def tP (P:Program) (t:TypeId) (parts:List (Nat×AV)):Option (AV×Bool):=
 match zeroCells P t,P.underlying t with
 |some z,some (.struct fields)=>match placesOf P fields.toList with
  |some pl=>(sr (fun i=>pl[i]?) z parts).map fun r=>(.agg r.1,r.2)
  |none=>none
 |some z,some (.array _ elem)=>match fK P elem with
  |some size=>(sr (fun i=>some (i*size,size)) z parts).map fun r=>(.agg r.1,r.2)
  |none=>none
 |_,_=>none
def cL {α:Type} (z:List α):Nat→List α
 |0=>[]
 |n+1=>z++cL z n
def zeros (P:Program) (elem:TypeId) (n:Nat):Option (List AV):=
 match fK P elem,zeroCells P elem with
 |some size,some z=>cond (bj z.length size&&bm 1 size) (match z with
  |[v]=>some (df n v)
  |z=>some (cL z n)) none
 |_,_=>none
def JW (P:Program) (elem:TypeId) (n:Nat):Option aN:=
 match fK P elem,zeroCells P elem with
 |some size,some z=>cond (bj z.length size&&bm 1 size) (match Hy z with
  |some [v]=>some (.pc (df n v))
  |some z=>some (.pc (cL z n))
  |none=>some (.ac (cL z n))) none
 |_,_=>none
def Et (P:Program) (elem:TypeId) (wr:Bool) (cells:List AV):Option (List PV):=
 match wr,P.underlying elem with
 |true,some (.int .u8)=>none
 |_,_=>jX cells
def lC (P:Program) (wr:Bool) (aV:Nat) (t:TypeId) (len:Nat) (parts:List (Nat×AV)):kH:=
 match P.underlying t with
 |some (.slice elem)=>match fK P elem,zeros P elem len with
  |some size,some z=>match sr (fun i=>some (i*size,size)) z parts with
   |some (cells,ok)=>match wr,Et P elem wr cells with
    |false,some aJ=>some (.os none len size aJ,[],ok&&bm (len*size) 16777216)
    |true,some aJ=>some (.ms aV 0 len size none,[(aV,.ob (.gr elem true) (aJ.map .p))],ok&&bm (len*size) 16777216)
    |_,none=>some (.ms aV 0 len size (some len),[(aV,BU cells)],ok&&bm (len*size) 16777216)
   |none=>none
  |_,_=>none
 |_=>none
def bH:Nat:=70368744177664
def mF (P:Program) (aV:Nat) (t:TypeId) (len cap:AV):kH:=
 match P.underlying t,len,cap with
 |some (.slice elem),.p (.sc (.int _ l)),.p (.sc (.int _ c))=>match P.info? elem,JW P elem c.toNat with
  |some info,some bL=>some (.ms aV 0 l.toNat info.size (some c.toNat),[(aV,bL)],
    decide (0≤l)&&decide (l≤c)&&bm c.toNat bH&&bm (info.bytes*c.toNat) bH)
  |_,_=>none
 |_,_,_=>none
def oH (P:Program) (t:TypeId) (len cap:AV):kH:=
 match P.underlying t,len,cap with
 |some (.slice elem),.p (.sc (.int _ l)),.p (.sc (.int _ c))=>match P.info? elem,zeroCells P elem with
  |some info,some [z]=>match BT z with
   |some pv=>some (.os none l.toNat 1 (df l.toNat pv),[],
     decide (0≤l)&&(decide (l=c)&&(bj info.size 1&&(bm c.toNat bH&&bm (info.bytes*c.toNat) bH))))
   |none=>none
  |_,_=>none
 |_,_,_=>none
def lD:AV→Nat→Option AV
 |.p (.pp off cs),n=>some (.p (.pp (off+n) cs))
 |.mp b off,n=>some (.mp b (off+n))
 |_,_=>none
def jY (P:Program) (t:TypeId) (x:AV) (f:Nat):Option AV:=
 match P.underlying t with
 |some (.struct fields)=>match fields[f]? with
  |some fd=>match fK P fd.type with
   |some n=>cond (bm 1 n) (lD x fd.offset) none
   |none=>none
  |none=>none
 |_=>none
def partOf (P:Program) (t:TypeId) (cs:List AV) (off:Nat):Option (AV×Bool):=
 match N3 P t,fK P t with
 |some true,some n=>some (.agg (mw .aT cs off n),bm (off+n) cs.length)
 |some false,some _=>some (cs.getD off .aT,cf off cs.length)
 |_,_=>none
def tQ (P:Program) (t:TypeId) (x:AV) (f:Nat):Option (AV×Bool):=
 match P.underlying t,x with
 |some (.struct fields),.agg cs=>match fields[f]? with
  |some fd=>partOf P fd.type cs fd.offset
  |none=>none
 |_,_=>none
def aM (i:Int) (len:Nat):Bool:=decide (0≤i)&&decide (i<len)
def jZ (P:Program) (t:TypeId) (x i:AV):Option (AV×Bool):=
 match i,P.underlying t with
 |.p (.sc (.int _ n)),some (.array len elem)=>match fK P elem with
  |some size=>(lD x (n.toNat*size)).map fun v=>(v,aM n len)
  |none=>none
 |.p (.sc (.int _ n)),some (.slice elem)=>match fK P elem,x with
  |some size,.p (.ps len sz cs)=>some (.p (.pp (n.toNat*size) cs),aM n len&&bj sz size)
  |some size,.os _ len sz cs=>some (.p (.pp (n.toNat*size) cs),aM n len&&bj sz size)
  |some size,.ms b off len sz _=>some (.mp b (off+n.toNat*size),aM n len&&bj sz size)
  |_,_=>none
 |_,_=>none
def tR (P:Program) (t:TypeId) (x i:AV):Option (AV×Bool):=
 match x,i with
 |.agg cs,.p (.sc (.int _ n))=>match P.underlying t with
  |some (.array len elem)=>match fK P elem,partOf P elem cs (n.toNat*(fK P elem).getD 0) with
   |some _,some (v,ok)=>some (v,aM n len&&ok)
   |_,_=>none
  |_=>none
 |.p (.sc (.string s)),.p (.sc (.int _ n))=>match P.underlying t with
  |some .string=>some (sI .u8 (s.data.toList.getD n.toNat 0).toNat,aM n s.data.toList.length)
  |_=>none
 |_,_=>none
def bound (ρ:Operand→AV) (x:Option Operand) (dflt:Nat):Option (Nat×Bool):=
 match x with
 |none=>some (dflt,true)
 |some x=>match ρ x with
  |.p (.sc (.int _ n))=>some (n.toNat,decide (0≤n))
  |_=>none
def cut {α:Type} (cs:List α) (lo hi:Option Nat):List α:=
 match lo,hi with
 |none,none=>cs
 |some l,none=>cs.drop l
 |none,some h=>cs.take h
 |some l,some h=>(cs.take h).drop l
def times (x:Option Operand) (n sz:Nat):Option Nat:=x.map fun _=>n*sz
def nG (P:Program) (ρ:Operand→AV) (t:TypeId) (x:AV) (low high mx:Option Operand):Option (AV×Bool):=
 match P.underlying t with
 |some (.array n elem)=>match fK P elem,bound ρ low 0,bound ρ high n,mx,x with
  |some size,some (l,a),some (h,b),none,.mp i off=>some (.ms i (cond (bj n l) off (off+l*size)) (h-l) size (some (n-l)),a&&b&&bm l h&&bm h n)
  |_,_,_,_,_=>none
 |some (.slice elem)=>match fK P elem,bound ρ low 0,x with
  |some size,some (l,a),.p (.ps len sz cs)=>match bound ρ high len,mx with
   |some (h,b),none=>some (.p (.ps (h-l) size (cut cs (times low l size) (times high h size))),a&&b&&bm l h&&bm h len&&bj sz size)
   |some (h,b),some m=>match bound ρ (some m) 0 with
    |some (m,c)=>some (.os none (h-l) size (cut cs (times low l size) (times high h size)),a&&b&&c&&bm l h&&bm h len&&bj m h&&(high.isSome&&bj sz size))
    |none=>none
   |_,_=>none
  |some size,some (l,a),.os tok len sz cs=>match bound ρ high len,mx with
   |some (h,b),none=>match high with
    |none=>some (.os tok (h-l) size (cut cs (times low l size) none),a&&b&&bm l h&&(bj sz size||(bj len 0&&(bm 1 size&&tok.isNone))))
    |some _=>match tok,bj h len with
     |none,true=>some (.os none (h-l) size (cut cs (times low l size) (some (h*size))),a&&b&&bm l h&&bm h len&&(bj sz size||(bj len 0&&bm 1 size)))
     |_,_=>some (.p (.ps (h-l) size (cut cs (times low l size) (some (h*size)))),a&&b&&bm l h&&bm h len&&(bj sz size||(bj len 0&&bm 1 size)))
   |some (h,b),some m=>match bound ρ (some m) 0 with
    |some (m,c)=>some (.os none (h-l) size (cut cs (times low l size) (times high h size)),a&&b&&c&&bm l h&&bm h len&&bj m h&&(high.isSome&&(bj sz size||(bj len 0&&bm 1 size))))
    |none=>none
   |_,_=>none
  |some size,some (l,a),.ms i off len sz none=>match bound ρ high len,mx with
   |some (h,b),none=>some (.ms i (off+l*size) (h-l) size none,a&&b&&bm l h&&bm h len&&bj sz size&&(bj l 0||cf l len))
   |some (h,b),some m=>match bound ρ (some m) 0 with
    |some (m,c)=>some (.ms i (cond (bj m l) off (off+l*size)) (h-l) size (some (m-l)),a&&b&&c&&bm l h&&bm h m&&bm m len&&(high.isSome&&bj sz size))
    |none=>none
   |_,_=>none
  |some size,some (l,a),.ms i off len sz (some cap)=>match bound ρ high len,mx with
   |some (h,b),none=>some (.ms i (cond (bj cap l) off (off+l*size)) (h-l) size (some (cap-l)),a&&b&&bm l h&&bm h cap&&bj sz size)
   |_,_=>none
  |_,_,_=>none
 |some .string=>match bound ρ low 0,x,mx with
  |some (l,a),.p (.sc (.string s)),none=>match bound ρ high s.data.toList.length with
   |some (h,b)=>some (.p (.sc (.string (s.extract l h))),a&&b&&bm l h&&bm h s.data.toList.length)
   |none=>none
  |_,_,_=>none
 |_=>none
def byteOf:PV→UInt8
 |.sc (.int .u8 n)=>UInt8.ofNat n.toNat
 |_=>0
def isByte:PV→Bool
 |.sc (.int .u8 _)=>true
 |_=>false
def hH (b:UInt8):PV:= .sc (.int .u8 b.toNat)
def contents (rd:Nat→aN) (sz:Nat):AV→Option (Nat×List PV×Bool)
 |.p (.ps len s cs)=>some (len,cs,bj s sz||(bj len 0&&bm 1 sz))
 |.os _ len s cs=>some (len,cs,bj s sz||(bj len 0&&bm 1 sz))
 |.ms b off len s (some _)=>match rd b with
  |.pc l=>some (len,(l.drop off).take (len*sz),bj s sz&&bm (off+len*sz) l.length)
  |.ac l=>(jX ((l.drop off).take (len*sz))).map fun aJ=>(len,aJ,bj s sz&&bm (off+len*sz) l.length)
  |.ob (.gr _ true) l=>some (len,((l.drop off).take (len*sz)).map qW,oG ((l.drop off).take (len*sz))&&(bj s sz&&bm (off+len*sz) l.length))
  |.ob (.gr _ false) l=>(jX ((l.drop off).take (len*sz))).map fun aJ=>(len,aJ,bj s sz&&bm (off+len*sz) l.length)
  |_=>none
 |.ms b off len s none=>match rd b with
  |.ob (.gr _ true) l=>some (len,((l.drop off).take (len*sz)).map qW,oG ((l.drop off).take (len*sz))&&(bj s sz&&bm (off+len*sz) l.length))
  |.ob (.gr _ false) l=>(jX ((l.drop off).take (len*sz))).map fun aJ=>(len,aJ,bj s sz&&bm (off+len*sz) l.length)
  |.ob (.gb _) l=>some (len,((l.drop off).take (len*sz)).map qW,oG ((l.drop off).take (len*sz))&&(bj s sz&&bm (off+len*sz) l.length))
  |_=>none
 |.p (.sc (.string s))=>some (s.data.toList.length,s.data.toList.map hH,bj sz 1)
 |_=>none
def convertOp (P:Program) (rd:Nat→aN) (aV:Nat) (ρ:Operand→AV) (o:Oper) (src dst:TypeId) (x:AV):kH:=
 match P.underlying dst,x with
 |some (.int k),.p (.sc (.int _ n))=>match P.underlying src with
  |some _=>some (sI k (k.wrap n),[],true)
  |none=>none
 |some .string,.p (.sc (.string s))=>match P.underlying src with
  |some .string=>some (.p (.sc (.string s)),[],true)
  |_=>none
 |some (.slice e),.p (.sc (.string s))=>match P.underlying src,P.underlying e with
  |some .string,some (.int .u8)=>some (.os (some aV) s.data.toList.length 1 (s.data.toList.map hH),[(aV,.tok)],true)
  |_,_=>none
 |some (.slice e),.ms b off len sz (some _)=>match P.underlying src,P.underlying e,rd b with
  |some (.slice _),some (.int .u8),.pc l=>some (.p (.ps len 1 ((l.drop off).take len)),[(b,.dead)],bj src dst&&(bj sz 1&&bm (off+len) l.length))
  |_,_,_=>none
 |some .unsafePointer,.mp b off=>match P.underlying src,rd b with
  |some (.pointer t),.ob (.gr _ _) l=>match P.info? t with
   |some j=>some (.mp b off,[],bm 1 j.size&&cf off l.length)
   |none=>none
  |_,_=>none
 |some (.pointer u),.mp b 0=>match P.underlying src,rd b with
  |some .unsafePointer,.ob (.gr t _) l=>match P.info? u with
   |some _=>some (.mp b 0,[],bj t u&&(bm 1 (P.cellsOf u)&&bm (P.cellsOf u) l.length))
   |none=>none
  |_,_=>none
 |some .string,x=>match P.underlying src with
  |some (.slice e)=>match P.underlying e with
   |some (.int .u8)=>match contents rd 1 x with
    |some (_,aJ,ok)=>some (.p (.sc (.string ⟨(aJ.map byteOf).toArray⟩)),[],ok&&aJ.all isByte)
    |none=>none
   |_=>none
  |_=>none
 |_,_=>(scalar P ρ o).map fun v=>(v,[],true)
def j3:AV→Bool
 |.p (.sc (.pointer none)) | .p (.sc .nilFunc) | .p (.sc .nilIface)=>true
 |_=>false
def j4:AV→Bool
 |.p (.pp ..) | .mp .. | .fn .. | .p (.mD ..) | .mD .. =>true
 |_=>false
def Eu (op:BinOp) (k:IntKind) (x:Int) (yk:IntKind) (y:Int):Option (Value×Bool):=
 match op with
 |.add=>some (.int k (k.wrap (x+y)),k==yk)
 |.sub=>some (.int k (k.wrap (x-y)),k==yk)
 |.mul=>some (.int k (k.wrap (x*y)),k==yk)
 |.quo=>some (.int k (k.wrap (x.tdiv y)),k==yk && !(y==0))
 |.rem=>some (.int k (x.tmod y),k==yk && !(y==0))
 |.and=>some (.int k (k.wrap (dk k.bits x&&&dk k.bits y).toNat),k==yk)
 |.or=>some (.int k (k.wrap (dk k.bits x|||dk k.bits y).toNat),k==yk)
 |.xor=>some (.int k (k.wrap (dk k.bits x ^^^ dk k.bits y).toNat),k==yk)
 |.andNot=>some (.int k (k.wrap (dk k.bits x &&& ~~~dk k.bits y).toNat),k==yk)
 |.shl=>some (.int k (k.wrap (x*2 ^ min y.toNat k.bits)),decide (0≤y))
 |.shr=>some (.int k (x.fdiv (2 ^ min y.toNat k.bits)),decide (0≤y))
 |.eql=>some (.bool (x==y),k==yk)
 |.neq=>some (.bool (x != y),k==yk)
 |.lss=>some (.bool (x<y),k==yk)
 |.leq=>some (.bool (x≤y),k==yk)
 |.gtr=>some (.bool (x>y),k==yk)
 |.geq=>some (.bool (x≥y),k==yk)
def Ew (op:BinOp) (x y:ByteArray):Option (Value×Bool):=
 match op with
 |.add=>some (.string (x++y),bm (x.data.toList.length+y.data.toList.length) bH)
 |.eql=>some (.bool (x.data.toList==y.data.toList),true)
 |.neq=>some (.bool (!(x.data.toList==y.data.toList)),true)
 |.lss=>some (.bool (Op.bytesLess x.data.toList y.data.toList),true)
 |_=>none
def gK (P:Program):Nat→List Field→List AV→List AV→Option Bool
 |_,[],[],[]=>some true
 |i,f::fs,x::xs,y::ys=>match P.underlying f.type,x,y with
  |some (.int _),.p (.sc (.int k a)),.p (.sc (.int k' b))=>cond (k==k'&&bj f.offset i&&f.name != "_" && P.plainKey f.type) ((gK P (i+1) fs xs ys).map fun r=>(a==b)&&r) none
  |some .bool,.p (.sc (.bool a)),.p (.sc (.bool b))=>cond (bj f.offset i&&f.name != "_" && P.plainKey f.type) ((gK P (i+1) fs xs ys).map fun r=>(a==b)&&r) none
  |some .string,.p (.sc (.string a)),.p (.sc (.string b))=>cond (bj f.offset i&&f.name != "_" && P.plainKey f.type) ((gK P (i+1) fs xs ys).map fun r=>(a.data.toList==b.data.toList)&&r) none
  |_,_,_=>none
 |_,_,_,_=>none
def BW (P:Program) (t:TypeId) (x y:AV):Option Bool:=match x,y with
 |.agg xs,.agg ys=>match P.underlying t with
  |some (.struct fs)=>cond (!P.stoodInHeld t && !P.eqGuardType P.depth t) (gK P 0 fs.toList xs ys) none
  |_=>none
 |_,_=>none
def FO (P:Program) (o:Oper) (x y:AV):Option Bool:=match o.op with
 |.binOp _ t _ _ _=>BW P t x y
 |_=>none
def pI (P:Program) (ρ:Operand→AV) (o:Oper) (op:BinOp) (x y:AV):Option (AV×Bool):=
 match x,y with
 |.p (.sc (.int k a)),.p (.sc (.int k' b))=>(Eu op k a k' b).map fun r=>(.p (.sc r.1),r.2)
 |.p (.sc (.string a)),.p (.sc (.string b))=>(Ew op a b).map fun r=>(.p (.sc r.1),r.2)
 |x,y=>match op with
  |.eql=>match FO P o x y with
   |some b=>some (sB b,true)
   |none=>cond ((j3 x&&j4 y)||(j4 x&&j3 y)) none ((scalar P ρ o).map fun v=>(v,true))
  |.neq=>match FO P o x y with
   |some b=>some (sB !b,true)
   |none=>cond ((j3 x&&j4 y)||(j4 x&&j3 y)) none ((scalar P ρ o).map fun v=>(v,true))
  |_=>none
def uq (P:Program) (ρ:Operand→AV) (o:Oper) (op:UnOp) (x:AV):Option (AV×Bool):=
 match op,x with
 |.not,.p (.sc (.bool b))=>some (sB !b,true)
 |.neg,.p (.sc (.int k n))=>some (sI k (k.wrap (0-n)),true)
 |_,_=>(scalar P ρ o).map fun v=>(v,true)
def nH (rd:Nat→aN) (aV:Nat):Option Nat→Option nF
 |none=>some [(aV,.tok)]
 |some t=>match rd t with
  |.tok=>some [(t,.dead),(aV,.tok)]
  |_=>none
def iH (P:Program) (rd:Nat→aN) (aV:Nat) (argTypes:Array TypeId) (s x:AV):kH:=
 match argTypes[0]?,argTypes[1]? with
 |some sType,some xType=>match P.underlying sType,P.underlying xType with
  |some (.slice _),some (.int _)=>none
  |some (.slice elem),some _=>match P.info? elem,zeroCells P elem with
   |some info,some z=>match contents rd info.size x,s with
    |some (n,aJ,ok),.os tok len sz cs=>(nH rd aV tok).map fun us=>(.os (some aV) (len+n) info.size (cs++aJ),us,
      ok&&(bj sz info.size||(bj len 0&&tok.isNone))&&bm 1 info.size&&bj z.length info.size&&bm ((len+n)*info.bytes) bH&&bm (len+n) bH)
    |_,_=>none
   |_,_=>none
  |_,_=>none
 |_,_=>none
def jr:aN→Option (List AV)
 |.pc l=>some (l.map .p)
 |.ac l=>some l
 |.ob (.gr _ _) l=>some l
 |_=>none
def cN (rd:Nat→aN) (sz:Nat) (x:AV):Option (Nat×List AV×Bool):=
 match contents rd sz x with
 |some (n,aJ,ok)=>some (n,aJ.map .p,ok)
 |none=>match x with
  |.ms b off len s (some _)=>match rd b with
   |.ac l=>some (len,((l.drop off).take (len*sz)).map BV,bj s sz&&bm (off+len*sz) l.length)
   |_=>none
  |_=>none
def jw (rd:Nat→aN) (sz:Nat) (x:AV):Bool:=(contents rd sz x).isSome
def WG:aN→Bool
 |.pc _=>true
 |.ob (.gr _ q) _=>q
 |_=>false
def WH:Option TypeDesc→Bool
 |some (.int .u8)=>true
 |_=>false
def Ri:AV→Bool
 |.p v=>isByte v
 |_=>false
def allBy:List AV→Bool
 |[]=>true
 |a::r=>Ri a&&allBy r
def fo (P:Program) (rd:Nat→aN) (aV:Nat) (argTypes:Array TypeId) (s x:AV):kH:=
 match argTypes[0]?,argTypes[1]? with
 |some sType,some xType=>match P.underlying sType,P.underlying xType with
  |some (.slice _),some (.int _)=>none
  |some (.slice elem),some _=>match P.info? elem,zeroCells P elem with
   |some info,some z=>match cN rd info.size x with
    |some (n,aJ,ok)=>
     let fits:=fun(len:Nat)=>ok&&(bm 1 info.size&&(bj z.length info.size&&(bm ((len+n)*info.bytes) bH&&bm (len+n) bH)))
     match s with
     |.ms b 0 len sz none=>match rd b with
      |.ob (.gr t q) l=>some (.ms aV 0 (len+n) sz none,[(b,.dead),(aV,.ob (.gr t (q&&jw rd info.size x)) (l.take (len*sz)++aJ))],fits len&&(bj sz info.size&&(bm (len*sz) l.length&&bj t elem)))
      |.ob (.gb t) l=>some (.ms aV 0 (len+n) sz none,[(b,.dead),(aV,.ob (.gb t) (l++aJ))],fits len&&(bj sz info.size&&(bj (len*sz) l.length&&(bj t elem&&(bj info.size 1&&(allBy z&&allBy aJ))))))
      |.ob (.stk t pre) l=>some (.ms aV 0 (len+n) sz none,[(b,.dead),(aV,.ob (.stk t pre) (l.take (len*sz-pre.length)++aJ))],fits len&&(bj sz info.size&&(bm (len*sz) (pre.length+l.length)&&(bj t elem&&bm pre.length (len*sz)))))
      |_=>none
     |.os none len sz cells=>match bj n 0 with
      |true=>some (.os none len sz cells,[],fits len)
      |false=>match WH (P.underlying elem) with
       |true=>some (.ms aV 0 (len+n) info.size none,[(aV,.ob (.gb elem) (cells.map .p++aJ))],fits len&&((bj sz info.size||(bj len 0&&bm 1 info.size))&&(allBy (cells.map .p)&&(bj info.size 1&&(allBy z&&allBy aJ)))))
       |false=>some (.ms aV 0 (len+n) info.size none,[(aV,.ob (.gr elem (jw rd info.size x)) (cells.map .p++aJ))],fits len&&(bj sz info.size||(bj len 0&&bm 1 info.size)))
     |.ms b 0 len sz (some cap)=>match jr (rd b) with
      |some l=>cond (bm (len+n) cap)
       (match pG (rd b) (len*sz) (aJ) with
         |some (b',ok')=>some (.ms b 0 (len+n) sz (some cap),[(b,b')],fits len&&(ok'&&bj sz info.size))
         |none=>none)
       (some (.ms aV 0 (len+n) sz none,[(aV,.ob (.gr elem (WG (rd b)&&jw rd info.size x)) (l.take (len*sz)++aJ))],fits len&&(bj sz info.size&&bm (len*sz) l.length)))
      |none=>none
     |_=>none
    |none=>none
   |_,_=>none
  |_,_=>none
 |_,_=>none
def mG:AV→AV
 |.p (.ps 0 0 _)=> .os none 0 0 []
 |v=>v
def RM:AV→Bool
 |.ms .. =>true
 |_=>false
set_option linter.unusedVariables false in
def qX (P:Program) (rd:Nat→aN) (argTypes:Array TypeId) (d s:AV):kH:=none
def JX (P:Program) (argTypes:Array TypeId) (x:AV):Option AV:=
 match argTypes[0]? with
 |some t=>match P.underlying t,x with
  |some (.slice _),.p (.ps len _ _)=>some (sI .i64 len)
  |some (.slice _),.os _ len _ _=>some (sI .i64 len)
  |some (.slice _),.ms _ _ len _ _=>some (sI .i64 len)
  |some .string,.p (.sc (.string s))=>some (sI .i64 s.data.toList.length)
  |some (.array n _),_=>some (sI .i64 n)
  |_,_=>none
 |none=>none
def JY (P:Program) (argTypes:Array TypeId) (x:AV):Option AV:=
 match argTypes[0]? with
 |some t=>match P.underlying t,x with
  |some (.slice _),.ms _ _ _ _ (some cap)=>some (sI .i64 cap)
  |some (.slice _),.os none len _ _=>some (sI .i64 len)
  |some (.slice _),.p (.ps 0 0 _)=>some (sI .i64 0)
  |_,_=>none
 |none=>none
set_option linter.unusedVariables false in
def mH (P:Program) (t:TypeId) (x:AV):Option AV:=none
def jx (P:Program) (ρ:Operand→AV) (o:Oper) (x:AV):Option AV:=
 match x with
 |.p (.pp off cs)=>some (.p (.pp off cs))
 |.mp b off=>some (.mp b off)
 |.fn (.func f) a b=>some (.fn (.func f) a b)
 |_=>scalar P ρ o
def jy (r:Option AV):kH:=r.map fun v=>(v,[],true)
def gL (r:Option (AV×Bool)):kH:=r.map fun v=>(v.1,[],v.2)
def JZ (j k:IntKind):Bool:=j==k
def tS:List UInt8→List UInt8→Bool
 |[],[]=>true
 |a::r,b::s=>bj a.toNat b.toNat&&tS r s
 |_,_=>false
def Ae:Bool→Bool→Bool
 |true,true=>true
 |false,false=>true
 |_,_=>false
def BX:Value→Value→Bool
 |.int j a,.int k b=>JZ j k&&decide (a=b)
 |.bool a,.bool b=>Ae a b
 |.string a,.string b=>tS a.data.toList b.data.toList
 |.pointer none,.pointer none=>true
 |.slice none 0 0,.slice none 0 0=>true
 |.map none,.map none=>true
 |.nilFunc,.nilFunc=>true
 |.nilIface,.nilIface=>true
 |_,_=>false
def J0:List Value→List Value→Bool
 |[],[]=>true
 |a::r,b::s=>BX a b&&J0 r s
 |_,_=>false
mutual
def kK:PV→PV→Bool
 |.bk,.bk=>true
 |.sc v,.sc u=>BX v u
 |.pp o l,.pp q m=>bj o q&&ur l m
 |.ps n z l,.ps k y m=>bj n k&&(bj z y&&ur l m)
 |.mD t v,.mD s u=>bj t s&&kK v u
 |_,_=>false
def ur:List PV→List PV→Bool
 |[],[]=>true
 |a::r,b::s=>kK a b&&ur r s
 |_,_=>false
end
def Z3:Option Nat→Option Nat→Bool
 |none,none=>true
 |some a,some b=>bj a b
 |_,_=>false
mutual
def gG:AV→AV→Bool
 |.aT,.aT=>true
 |.p v,.p u=>kK v u
 |.os t n z l,.os s k y m=>Z3 t s&&(bj n k&&(bj z y&&ur l m))
 |.mp b o,.mp c q=>bj b c&&bj o q
 |.ms b o n z k,.ms c q m y j=>bj b c&&(bj o q&&(bj n m&&(bj z y&&Z3 k j)))
 |.fn (.func f) l m,.fn (.func g) k n=>bj f g&&(j5 l k&&j5 m n)
 |.agg l,.agg m=>j5 l m
 |.aK l,.aK m=>j5 l m
 |.mD t v,.mD s u=>bj t s&&gG v u
 |.vm b,.vm c=>bj b c
 |.vy b,.vy c=>bj b c
 |_,_=>false
def j5:List AV→List AV→Bool
 |[],[]=>true
 |a::r,b::s=>gG a b&&j5 r s
 |_,_=>false
end
def J1 (a b:Value):Bool:=
 match a,b with
 |.agg x,.agg y=>J0 x.toList y.toList
 |_,_=>false
def Af:List Value→List Value→Bool
 |[],[]=>true
 |a::r,b::s=>J1 a b&&Af r s
 |_,_=>false
def Ag:List Nat→List Nat→Bool
 |[],[]=>true
 |a::r,b::s=>bj a b&&Ag r s
 |_,_=>false
def FP:aN→aN→Bool
 |.free,.free=>true
 |.dead,.dead=>true
 |.tok,.tok=>true
 |.pc l,.pc m=>ur l m
 |.ac l,.ac m=>j5 l m
 |.ob (.gr t q) l,.ob (.gr u r) m=>bj t u&&(Ae q r&&j5 l m)
 |.ob (.gb t) l,.ob (.gb u) m=>bj t u&&j5 l m
 |.ob .Wq [],.ob .Wq []=>true
 |.ob (.map ks bs c) l,.ob (.map js ds d) m=>J0 ks js&&(Ag bs ds&&(bj c d&&j5 l m))
 |.ob (.JS ks) l,.ob (.JS js) m=>Af ks js&&j5 l m
 |_,_=>false
def su:Mem→Mem→Bool
 |[],[]=>true
 |a::r,b::s=>FP a b&&su r s
 |_,_=>false
def plainKey:TypeDesc→Value→Bool
 |.int k,.int k' _=>k==k'
 |.string,.string _=>true
 |.bool,.bool _=>true
 |_,_=>false
def Rj (P:Program) (kt:TypeId):Bool:=
 (match P.underlying kt with | some (.array _ _) | some (.struct _)=>true | _=>false)&&(P.keyTypeAt 20 kt&&P.tiled 20 kt)
def yw (P:Program) (aV:Nat) (t:TypeId):kH:=
 match P.underlying t with
 |some (.map kt _)=>match Rj P kt with
  |true=>some (.vm aV,[(aV,.ob (.JS []) [])],true)
  |false=>some (.vm aV,[(aV,.ob (.map [] [] 0) [])],true)
 |_=>some (.vm aV,[(aV,.ob (.map [] [] 0) [])],true)
set_option linter.unusedVariables false in
def uu (P:Program) (rd:Nat→aN) (t:TypeId) (m k:AV) (ok:Bool):Option AV:=none
set_option linter.unusedVariables false in
def j6 (P:Program) (rd:Nat→aN) (t:TypeId) (m k v:AV):kH:=none
def isNil:AV→Bool
 |.p (.sc (.pointer none)) | .p (.sc (.map none)) | .p (.sc .nilFunc) | .p (.sc .nilIface)=>true
 |_=>false
def isRef:AV→Bool
 |.p (.pp ..) | .mp .. | .vm _ | .fn .. | .p (.mD ..) | .mD .. =>true
 |_=>false
def FQ (x y:AV):Bool:=(isNil x&&isRef y)||(isRef x&&isNil y)
set_option linter.unusedVariables false in
def FR (P:Program) (op:BinOp) (t:TypeId) (x y:AV):kH:=none
def Ah:AV→AV→Bool
 |.mp b o,.mp c q=>bj b c&&bj o q
 |_,_=>false
set_option linter.unusedVariables false in
def nJ (P:Program) (op:BinOp) (t:TypeId):kH:=none
def Ai:Operand→Bool
 |.const (.slice none _ _)=>true
 |_=>false
def FT:AV→Option Bool
 |.p (.ps len sz _)=>cond (bm 1 len) (some false) (cond (bj sz 0) (some true) none)
 |.os _ len sz _=>cond (bm 1 len) (some false) (cond (bj sz 0) (some true) none)
 |.ms .. =>some false
 |_=>none
def tT (P:Program) (op:BinOp) (t:TypeId) (x:AV):kH:=
 match P.underlying t with
 |some (.slice _)=>match FT x,op with
  |some b,.eql=>some (sB b,[],true)
  |some b,.neq=>some (sB (!b),[],true)
  |_,_=>none
 |_=>none
def Aj (P:Program) (aV:Nat) (t:TypeId) (x:AV):kH:=
 match P.underlying t,x with
 |some .string,.p (.sc (.string s))=>some (.mp aV 0,[(aV,.ob (.iter s 0) [])],true)
 |_,_=>none
def Ey (rd:Nat→aN) (it:AV):Bool→kH
 |true=>match it with
  |.mp b 0=>match rd b with
   |.ob (.iter s pos) _=>match cf pos s.size with
    |true=>match Utf8.decode s pos with
     |(c,width)=>some (.aK [sB true,sI .i64 pos,sI .i32 c],[(b,.ob (.iter s (pos+width)) [])],true)
    |false=>some (.aK [sB false],[],true)
   |.ob (.N2 s pos more) _=>match more with
    |true=>some (.aK [sB true,sI .i64 pos,sI .i32 (Utf8.decode s pos).1],[(b,.ob (.iter s (pos+(Utf8.decode s pos).2)) [])],true)
    |false=>some (.aK [sB false],[],true)
   |_=>none
  |_=>none
 |false=>none
set_option linter.unusedVariables false in
def mI (x:AV):kH:=none
def RN (rd:Nat→aN):AV→Option (Nat×TypeId×List AV)
 |.mp b 0=>match rd b with
  |.ob (.gr t _) l=>some (b,t,l)
  |_=>none
 |_=>none
set_option linter.unusedVariables false in
def eD (P:Program) (rd:Nat→aN) (argTypes:List TypeId) (x n:AV):kH:=none
def Hz (mn:Bool):List AV→Option AV
 |[.p (.sc (.int k a)),.p (.sc (.int _ b))]=>some (.p (.sc (.int k (cond mn (min a b) (max a b)))))
 |_=>none
def jz (P:Program) (ρ:Operand→AV) (o:Oper) (mn:Bool) (l:List Operand):Option AV:=
 match Hz mn (l.map ρ) with
 |some v=>some v
 |none=>scalar P ρ o
set_option linter.unusedVariables false in
def uw (P:Program) (t:TypeId) (x:AV) (ok:Bool):Option AV:=none
def sv (P:Program) (rd:Nat→aN) (wr:Bool) (aV:Nat) (ρ:Operand→AV) (o:Oper):kH:=
 match o.op with
 |.move x | .assign x=>some (ρ x,[],true)
 |.pick c a b=>match ρ c with
  |.p (.sc (.bool t))=>some (cond t (ρ a) (ρ b),[],true)
  |_=>none
 |.alloc t=>match wr with
  |true=>uo P aV t
  |false=>Ad P aV t
 |.box _ v=>JV aV (ρ v)
 |.build t parts=>gL (tP P t (parts.toList.map fun q=>(q.1,ρ q.2)))
 |.buildSlice t len parts=>lC P wr aV t len (parts.toList.map fun q=>(q.1,ρ q.2))
 |.load t a=>gL (kq P rd t (ρ a))
 |.store t a v=>pH P rd t (ρ a) (ρ v)
 |.nilCheck x=>jy (jx P ρ o (ρ x))
 |.binOp op t x y _=>match Ai y with
  |true=>tT P op t (ρ x)
  |false=>match FQ (ρ x) (ρ y) with
   |true=>FR P op t (ρ x) (ρ y)
   |false=>match Ah (ρ x) (ρ y) with
    |true=>nJ P op t
    |false=>gL (pI P ρ o op (ρ x) (ρ y))
 |.range t x=>Aj P aV t (ρ x)
 |.next x s=>Ey rd (ρ x) s
 |.makeMap t none=>yw P aV t
 |.lookup t x i ok=>jy (uu P rd t (ρ x) (ρ i) ok)
 |.mapUpdate t x k v=>j6 P rd t (ρ x) (ρ k) (ρ v)
 |.insert t x k v=>j6 P rd t (ρ x) (ρ k) (ρ v)
 |.unOp op _ x=>gL (uq P ρ o op (ρ x))
 |.convert src dst x=>convertOp P rd aV ρ o src dst (ρ x)
 |.makeInterface t x=>jy (mH P t (ρ x))
 |.makeFunc f first captured=>some (.fn f (first.toList.map ρ) (captured.toList.map ρ),[],true)
 |.makeSlice t l c=>match wr with
  |true=>oH P t (ρ l) (ρ c)
  |false=>mF P aV t (ρ l) (ρ c)
 |.slice t x lo hi mx=>gL (nG P ρ t (ρ x) lo hi mx)
 |.fieldAddr t x f=>jy (jY P t (ρ x) f)
 |.field t x f=>gL (tQ P t (ρ x) f)
 |.indexAddr t x i=>gL (jZ P t (ρ x) (ρ i))
 |.index t x i=>gL (tR P t (ρ x) (ρ i))
 |.extract x i=>match ρ x with
  |.aK vs=>jy vs[i]?
  |_=>none
 |.typeAssert x _ t ok=>jy (uw P t (ρ x) ok)
 |.call c=>match c.callee,c.args.toList with
  |.builtin .append,[s,x]=>match RM (ρ s)||wr with
   |true=>fo P rd aV c.argTypes (mG (ρ s)) (ρ x)
   |false=>iH P rd aV c.argTypes (mG (ρ s)) (ρ x)
  |.builtin .copy,[d,s]=>qX P rd c.argTypes (ρ d) (ρ s)
  |.builtin .len,[x]=>jy (JX P c.argTypes (ρ x))
  |.builtin .cap,[x]=>jy (JY P c.argTypes (ρ x))
  |.builtin .unsafeSliceData,[x]=>mI (ρ x)
  |.builtin .unsafeString,[x,n]=>eD P rd c.argTypes.toList (ρ x) (ρ n)
  |.builtin .min,l=>jy (jz P ρ o true l)
  |.builtin .max,l=>jy (jz P ρ o false l)
  |_,_=>none
 |_=>none
def makes (o:Oper):Bool:=
 match o.op with
 |.alloc _ | .box .. | .buildSlice .. | .makeSlice .. | .convert .. | .makeMap .. | .range .. =>true
 |.call c=>match c.callee with
  |.builtin .append=>true
  |_=>false
 |_=>false
def apply (m:Mem):nF→Mem
 |[]=>m
 |(i,b)::r=>apply (m.set i b) r
mutual
def refs:AV→List Nat
 |.os (some t) _ _ _=>[t]
 |.mp b _=>[b]
 |.ms b _ _ _ _=>[b]
 |.vm b=>[b]
 |.vy b=>[b]
 |.fn _ first captured=>gY first++gY captured
 |.agg l=>gY l
 |.aK l=>gY l
 |.mD _ v=>refs v
 |_=>[]
def gY:List AV→List Nat
 |[]=>[]
 |a::r=>refs a++gY r
end
def yx:aN→List Nat
 |.ac l=>gY l
 |.ob (.gr _ true) _=>[]
 |.ob (.gb _) _=>[]
 |.ob _ l=>gY l
 |_=>[]
def has (l:List Nat) (i:Nat):Bool:=
 match l with
 |[]=>false
 |j::r=>cond (bj j i) true (has r i)
def hJ (ord:List Nat):List Nat→List Nat
 |[]=>ord
 |i::r=>hJ (cond (has ord i) ord (ord++[i])) r
def reach (m:Mem):Nat→List Nat→Nat→List Nat
 |0,ord,_=>ord
 |f+1,ord,k=>match ord[k]? with
  |none=>ord
  |some i=>reach m f (hJ ord (yx (m.getD i .dead))) (k+1)
mutual
def iI (ρ:Nat→Option Nat):AV→AV
 |.os (some t) len sz cs=>match ρ t with
  |some t=> .os (some t) len sz cs
  |none=> .p (.ps len sz cs)
 |.mp b off=>match ρ b with
  |some b=> .mp b off
  |none=> .aT
 |.ms b off len sz cap=>match ρ b with
  |some b=> .ms b off len sz cap
  |none=> .aT
 |.vm b=>match ρ b with
  |some b=> .vm b
  |none=> .aT
 |.vy b=>match ρ b with
  |some b=> .vy b
  |none=> .aT
 |.fn f first captured=> .fn f (eE ρ first) (eE ρ captured)
 |.agg l=> .agg (eE ρ l)
 |.aK l=> .aK (eE ρ l)
 |.mD t v=> .mD t (iI ρ v)
 |v=>v
def eE (ρ:Nat→Option Nat):List AV→List AV
 |[]=>[]
 |a::r=>iI ρ a::eE ρ r
end
def aj:AV→AV
 |.p v=> .p v
 |_=> .aT
def fq (ρ:Nat→Option Nat):aN→aN
 |.ac l=> .ac (eE ρ l)
 |.ob (.gr t true) l=> .ob (.gr t true) (l.map aj)
 |.ob (.gb t) l=> .ob (.gb t) (l.map aj)
 |.ob k l=> .ob k (eE ρ l)
 |b=>b
def idx (ord:List Nat) (i:Nat):Option Nat:=
 match ord with
 |[]=>none
 |j::r=>cond (bj i j) (some 0) ((idx r i).map (· + 1))
def pack (m:Mem) (ord:List Nat):Mem:=ord.map fun i=>fq (idx ord) (m.getD i .dead)
def upTo:Nat→List Nat
 |0=>[]
 |n+1=>upTo n++[n]
def close (m:Mem) (fix:Nat) (vs:List AV):List Nat:=reach m (m.length+1) (hJ (upTo fix) (gY vs)) 0
inductive Mark where
 |range (b:Nat)
 |late (f:FuncId) (first caps:List (Nat×Nat))
inductive Rk where
 |call
 |round (i:Nat)
 |late
structure St where
 tm:qK
 nt:Nat
 mem:Mem
 fix:Nat
 cJ:List Mark:=[]
 bZ:Rk:= .call
inductive It where
 |code (i:Nat) (c:Code)
 |ops (bY:Nat) (ops:Array Oper) (k:Nat) (sure:Bool)
 |inBlock (id:Nat)
 |inLoop (i:Nat) (b:Code)
 |inScope (b:Code)
 |forget (k:List Nat)
 |fin
 |begin
 |xB (u:AV)
 |gM (u:AV)
 |leave
structure cg where
 f:FuncId
 todo:List It
 st:St
inductive Out where
 |ret (v:AV) (m:Mem)
 |xp (v:AV) (m:Mem)
inductive Ev where
 |next (c:cg)
 |must (b:Bool) (c:cg)
 |call (g:FuncId) (args:List AV) (m:Mem) (ord:List Nat) (dst:Option Tmp) (c:cg)
 |test (b:Bool) (yes no:cg)
 |round (args:List AV) (m:Mem) (ord:List Nat) (dst:Option Tmp) (c:cg)
 |range (g:FuncId) (args:List AV) (m:Mem) (ord:List Nat) (L:Nat) (c:cg)
 |draw (bY:Nat) (ops:Array Oper) (c:cg)
 |fork (l:List cg)
 |late (g:FuncId) (args:List AV) (m:Mem) (ord:List Nat) (pv:Option AV) (c:cg)
 |done (o:Out)
 |fail
structure Env where
 dS:Nat→Option (List PV)
 wr:FuncId→Nat→Bool
 keep:FuncId→Nat→Option (List Nat)
 told:FuncId→Nat→Option AV:=fun _ _=>none
def ev (E:Env) (tm:qK):Operand→AV
 |.tmp t=>look tm t
 |.const v=>Rh v
 |.global g=>match E.dS g with
  |some cs=> .p (.pp 0 cs)
  |none=> .p (.sc (.pointer (some ⟨g,0,none⟩)))
 |.func f=> .fn (.func f) [] []
def forget (keep:List Nat) (st:St):St:=
 match st.cJ,st.bZ with
 |[],.call=>
  let vs:=keep.map (look st.tm)
  let ord:=close st.mem st.fix vs
  {tm:=keep.zip (eE (idx ord) vs),nt:=st.nt,mem:=pack st.mem ord,fix:=st.fix,bZ:= .call}
 |_,_=>st
def iA (keep:Option (List Nat)) (st:St):St:=
 match keep with
 |some keep=>forget keep st
 |none=>st
def eO (keep:Option (List Nat)) (k:List It):List It:=
 match keep with
 |some keep=> .forget keep::k
 |none=>k
def put (st:St) (dst:Option Tmp) (v:AV):St:=
 match dst with
 |some d=>{st with tm:=(d,v)::st.tm}
 |none=>st
def fits (st:St) (dst:Option Tmp):Bool:=
 match dst with
 |some d=>cf d st.nt
 |none=>true
def bC (ord:List Nat) (n:Nat) (j:Nat):Option Nat:=
 match ord[j]? with
 |some i=>some i
 |none=>some (n+(j-ord.length))
def dj (ρ:Nat→Option Nat):List Nat→Mem→Mem→Mem
 |i::ord,b::m1,m=>dj ρ ord m1 (m.set i (fq ρ b))
 |_,m1,m=>m++m1.map (fq ρ)
def back (ord:List Nat) (dst:Option Tmp) (st:St) (v:AV) (m1:Mem):St:=
 put {st with mem:=dj (bC ord st.mem.length) ord m1 st.mem} dst (iI (bC ord st.mem.length) v)
def target (ρ:Operand→AV) (o:Oper):Option (FuncId×List AV):=
 match o.op with
 |.call c=>match c.callee with
  |.value f=>match ρ f with
   |.fn (.func f) first captured=>some (f,first++c.args.toList.map ρ++captured)
   |_=>none
  |_=>none
 |_=>none
def tU (ρ:Operand→AV) (o:Oper):Option (List AV):=
 match o.op with
 |.call c=>match c.callee with
  |.value f=>match ρ f with
   |.vy b=>some (.vy b::c.args.toList.map ρ)
   |_=>none
  |_=>none
 |_=>none
def dM (st:St) (f:FuncId) (ps:Array Tmp) (as bd:Code):Mem:=
 (st.mem++[.ob .Hx []])++[.ob (.loop f ps as bd .ready none) ((upTo st.nt).map (look st.tm))]
def fS (m:Mem) (L:Nat):Option (Mem×Option Code):=
 match m.getD L .dead with
 |.ob (.loop f ps as bd st pd) vals=>match st with
  |.busy=>none
  |_=>some (m.set L (.ob (.loop f ps as bd .exhausted pd) vals),pd)
 |_=>none
def behind (c:cg) (m:Mem) (pd:Option Code):cg:=
 {c with todo:=match pd with
    |some code=> .code 0 code::c.todo
    |none=>c.todo,st:={c.st with mem:=m}}
inductive Want where
 |yes | no | ask (d:Nat) (b want:Bool) | lost
def ec (ops:Array Oper) (tm:qK) (o:Oper):Want:=
 match o.guard with
 |none=> .yes
 |some (j,want)=>match ops[j]? with
  |some oj=>match oj.dst with
   |some d=>match look tm d with
    |.p (.sc (.bool b))=> .ask d b want
    |.aK _=> .no
    |_=> .lost
   |none=> .no
  |none=> .no
def reserve (o:Oper) (m:Mem):Mem:=cond (makes o) (m++[.free]) m
def nodes:Code→Nat
 |.seq a b=>nodes a+nodes b
 |.cond _ a b=>1+nodes a+nodes b
 |.block _ b=>nodes b
 |.scope b=>nodes b
 |.loop b=>1+nodes b
 |_=>0
def hU (P:Program) (st:St):List ResultVar→Option (List AV×Bool)
 |[]=>some ([],true)
 |.tmp t::r=>(hU P st r).map fun q=>(look st.tm t::q.1,q.2)
 |.cell a t::r=>match kq P (fun i=>st.mem.getD i .dead) t (look st.tm a),hU P st r with
  |some (v,ok),some (vs,oks)=>some (v::vs,ok&&oks)
  |_,_=>none
def one:List AV→AV
 |[v]=>v
 |vs=> .aK vs
def freeze (m:Mem) (kept:List Nat):AV→AV×Bool×List Nat
 |.ms b off len sz (some cap)=>cond (has kept b||bj len 0) (.ms b off len sz (some cap),true,[]) (match m.getD b .dead with
  |.pc l=>(.p (.ps len sz ((l.drop off).take (len*sz))),bm (off+len*sz) l.length&&bm 1 sz,[b])
  |_=>(.ms b off len sz (some cap),true,[]))
 |v=>(v,true,[])
def fZ (m:Mem) (kept:List Nat):List AV→List AV×Bool×List Nat
 |[]=>([],true,[])
 |v::r=>((freeze m kept v).1::(fZ m kept r).1,(freeze m kept v).2.1&&(fZ m kept r).2.1,(freeze m kept v).2.2++(fZ m kept r).2.2)
def iJ (l:List Nat) (n:Nat):Bool:=
 match l with
 |[]=>true
 |i::r=>cf i n&&iJ r n
def Ak (l ord:List Nat):Bool:=
 match l with
 |[]=>true
 |i::r=> !has ord i&&Ak r ord
def lE (P:Program) (c:cg):Ev:=
 match P.funcs[c.f]? with
 |some fn=>match hU P c.st fn.results.toList with
  |some (vs,ok)=>
   let fz:=fZ c.st.mem (close c.st.mem c.st.fix []) vs
   let v:=one fz.1
   let ord:=close c.st.mem c.st.fix [v]
   .must (ok&&fz.2.1&&Ak fz.2.2 ord) {c with todo:=[.fin],st:={c.st with tm:=[(0,iI (idx ord) v)],nt:=0,mem:=pack c.st.mem ord}}
  |none=> .fail
 |none=> .fail
def lF:List Mark→Mem→Option Mem
 |[],m=>some m
 |.late .. :: _,_=>none
 |.range b::r,m=>match m.getD b .dead with
  |.ob .Hx []=>lF r (m.set b (.ob .shut []))
  |_=>none
def mps (l:List (Nat×Nat)):List AV:=l.map fun q=> .mp q.1 q.2
def Al (c:cg) (pv:Option AV) (g:FuncId) (first caps:List (Nat×Nat)):Ev:=
 let args:=mps first++mps caps
 let ord:=close c.st.mem 0 (pv.toList++args)
 cond (iJ ord c.st.mem.length) (.late g (eE (idx ord) args) (pack c.st.mem ord) ord (pv.map (iI (idx ord))) {c with todo:=[.leave],st:={c.st with cJ:=[]}}) .fail
def ux (P:Program) (c:cg) (u:AV):Ev:=
 match c.st.bZ with
 |.round _=> .fail
 |_=>match c.st.cJ with
  |[]=>match P.funcs[c.f]? with
   |some _=>
    let ord:=close c.st.mem c.st.fix [u]
    .next {c with todo:=[.xB (iI (idx ord) u)],st:={c.st with tm:=[],nt:=0,mem:=pack c.st.mem ord}}
   |none=> .fail
  |[.late g first caps]=>Al c (some u) g first caps
  |_=> .fail
def ending (P:Program) (c:cg):Ev:=
 match c.st.cJ with
 |[]=>lE P c
 |[.late g first caps]=>Al c none g first caps
 |mk=>match lF mk c.st.mem with
  |some m=>lE P {c with st:={c.st with mem:=m,cJ:=[]}}
  |none=> .fail
def FU (P:Program) (f:FuncId):Bool:=
 match P.funcs[f]? with
 |some fn=>fn.body.isNone&&(decide (fn.name = "internal/abi.NoEscape")&&decide (fn.origin = ""))
 |none=>false
def J2 (P:Program) (ρ:Operand→AV) (o:Oper):Option AV:=
 match o.op with
 |.call c=>match c.callee,c.args.toList with
  |.value f,[x]=>match ρ f with
   |.fn (.func g) [] []=>cond (FU P g) (some (ρ x)) none
   |_=>none
  |_,_=>none
 |_=>none
def yy:List AV→Option (List (Nat×Nat))
 |[]=>some []
 |.mp b off::r=>match yy r with
  |some l=>some ((b,off)::l)
  |none=>none
 |_::_=>none
def yz:AV→Bool
 |.mD .. | .p (.mD ..)=>true
 |_=>false
def J3 (E:Env) (c:cg) (o:Oper) (k:List It):Ev:=
 match o.op with
 |.panic x=>cond (yz (ev E c.st.tm x)) (.next {c with todo:=[.gM (ev E c.st.tm x)]}) .fail
 |.call d=>match d.callee,d.args.toList with
  |.builtin .panic,[x]=>cond (yz (ev E c.st.tm x)) (.next {c with todo:=[.gM (ev E c.st.tm x)]}) .fail
  |_,_=> .fail
 |.defer d=>match c.st.bZ,c.st.cJ,d.callee with
  |.round _,_,_=> .fail
  |_,[],.value f=>match ev E c.st.tm f with
   |.fn (.func g) first captured=>match yy (first++d.args.toList.map (ev E c.st.tm)),yy captured with
    |some l,some m=> .must (fits c.st o.dst) {c with todo:=k,st:=put {c.st with cJ:=[.late g l m]} o.dst (.aK [])}
    |_,_=> .fail
   |_=> .fail
  |_,_,_=> .fail
 |_=> .fail
def J4 (P:Program) (E:Env) (c:cg) (_rid:Nat) (o:Oper) (k:List It):Ev:=
 match target (ev E c.st.tm) o with
 |some (g,args)=>
  match J2 P (ev E c.st.tm) o with
  |some v=> .must (fits c.st o.dst) {c with todo:=k,st:=put c.st o.dst v}
  |none=>
   let ord:=close c.st.mem 0 args
   cond (fits c.st o.dst&&iJ ord c.st.mem.length) (.call g (eE (idx ord) args) (pack c.st.mem ord) ord o.dst {c with todo:=k}) .fail
 |none=>match tU (ev E c.st.tm) o with
  |some args=>
   let ord:=close c.st.mem 0 args
   cond (fits c.st o.dst&&iJ ord c.st.mem.length) (.round (eE (idx ord) args) (pack c.st.mem ord) ord o.dst {c with todo:=k}) .fail
  |none=>
   let m:=reserve o c.st.mem
   match sv P (fun i=>m.getD i .dead) (E.wr c.f (o.dst.getD 0)) c.st.mem.length (ev E c.st.tm) o with
   |some (v,us,ok)=> .must (ok&&fits c.st o.dst) {c with todo:=k,st:=put {c.st with mem:=apply m us} o.dst v}
   |none=>J3 E c o k
def fy:Option Code→LoopState
 |none=> .ready
 |some _=> .done
def mJ (c:cg) (i:Nat) (jump:Option Code):Ev:=
 match c.st.mem.getD i .dead with
 |.ob (.loop f ps as bd _ _) vals=>
  let m:=c.st.mem.set i (.ob (.loop f ps as bd (fy jump) jump) vals)
  let ord:=close m c.st.fix []
  cond (cf i c.st.fix) (.next {c with todo:=[.fin],st:={c.st with tm:=[(0,sB jump.isNone)],nt:=0,mem:=pack m ord}}) .fail
 |_=> .fail
def uy (c:cg) (i:Nat) (k:List It):Ev:=
 match c.st.mem.getD i .dead with
 |.ob (.loop f ps as bd .ready pd) vals=> .next {c with todo:=k,st:={c.st with mem:=c.st.mem.set i (.ob (.loop f ps as bd .busy pd) vals)}}
 |_=> .fail
def FV (E:Env) (c:cg) (x:Operand) (ps:Array Tmp) (as bd:Code) (k:List It):Ev:=
 match ev E c.st.tm x with
 |.fn (.func g) first captured=>
  let m:=dM c.st c.f ps as bd
  let args:=first++[.vy (c.st.mem.length+1)]++captured
  let ord:=close m 0 args
  cond (iJ ord m.length) (.range g (eE (idx ord) args) (pack m ord) ord (c.st.mem.length+1) {c with todo:=k,st:={c.st with mem:=m,cJ:= .range c.st.mem.length::c.st.cJ}}) .fail
 |_=> .fail
def cm (id:Nat):List It→Option (List It)
 |[]=>none
 |.inBlock id'::k=>cond (bj id' id) (some k) (cm id k)
 |_::k=>cm id k
def eF (l:Nat):List It→Option (List It)
 |[]=>none
 |.inScope b::k=>match findLabel b l with
  |some rest=>some (.code 0 rest :: .inScope b::k)
  |none=>eF l k
 |_::k=>eF l k
def gd (o:Oper):Bool:=
 match o.op with
 |.move _ | .assign _ | .pick .. | .build .. | .load .. | .nilCheck _ | .binOp .. | .unOp .. | .convert .. | .makeInterface .. | .makeFunc .. | .slice .. | .fieldAddr .. | .field .. | .indexAddr .. | .index .. | .extract .. =>true
 |.call c=>match c.callee with
  |.builtin .len | .builtin .min | .builtin .max=>true
  |_=>false
 |_=>false
def oI (acc:List Nat) (o:Oper):Nat:=o.after.toList.foldl (fun s e=>cond (Region.binds .any e) (s|||(2 ^ e.on|||acc.getD e.on 0)) s) 0
def masks (acc:List Nat):List Oper→List Nat
 |[]=>acc
 |o::r=>masks (acc++[oI acc o]) r
def tV (x:Nat):Nat→Bool
 |0=>true
 |n+1=>da x n&&tV x n
def qY (ops:Array Oper):Bool:=
 (match ops[ops.size-1]? with
   |some o=>o.guard.isNone&&match o.op with
    |.call c=>match c.callee with
     |.value _=>true
     |_=>false
    |.panic _ | .defer _=>true
    |_=>false
   |none=>false)&&tV ((masks [] ops.toList).getD (ops.size-1) 0) (ops.size-1)
def gh (ops:Array Oper):Nat:=cond (qY ops) (ops.size-1) ops.size
def ia (bY:Nat) (ops:Array Oper) (k:List It):List It:=cond (qY ops) (.ops bY ops (ops.size-1) false::k) k
def slots (ops:Array Oper) (o:Oper):List Nat:=
 (match o.guard with
   |some (j,_)=>match ops[j]? with
    |some oj=>oj.dst.toList
    |none=>[]
   |none=>[])++o.op.operands.toList.filterMap fun
    |.tmp t=>some t
    |_=>none
def meet (a b:List Nat):Bool:=a.any fun i=>b.any fun j=>bj i j
def oJ (ops:Array Oper) (L:List Nat) (i:Nat) (o:Oper) (j:Nat) (p:Oper):Bool:=
 !meet o.dst.toList p.dst.toList&&(da (L.getD i 0) j||(!meet p.dst.toList (slots ops o) && !meet o.dst.toList (slots ops p)))
def tW (ops:Array Oper) (L:List Nat) (i:Nat) (o:Oper):Nat→List Oper→Bool
 |_,[]=>true
 |j,p::r=>oJ ops L i o j p&&tW ops L i o (j+1) r
def jA (q:Oper→Bool) (ops:Array Oper) (L:List Nat):Nat→List Oper→List Oper→Bool
 |_,_,[]=>true
 |i,mz,o::r=>q o&&(o.after.toList.all fun e=> !Region.binds .any e||cf e.on i)&&tW ops L i o 0 mz&&jA q ops L (i+1) (mz++[o]) r
def j7 (P:Program) (E:Env) (rd:Nat→aN) (wr:Bool) (aV:Nat) (ops:Array Oper):List Oper→St→Option (St×Bool)
 |[],st=>some (st,true)
 |o::r,st=>
  let skip:=match j7 P E rd wr aV ops r (put st o.dst (.aK [])) with
   |some (st',ok)=>some (st',fits st o.dst&&ok)
   |none=>none
  let pJ:=match sv P rd wr aV (ev E st.tm) o with
   |some (v,[],ok)=>match j7 P E rd wr aV ops r (put st o.dst v) with
    |some (st',ok')=>some (st',ok&&(fits st o.dst&&ok'))
    |none=>none
   |_=>none
  match ec ops st.tm o with
  |.yes=>pJ
  |.no=>skip
  |.ask _ b want=>match b==want with
   |true=>pJ
   |false=>skip
  |.lost=>none
def J5 (E:Env) (f:Nat) (ops:Array Oper):Bool:=ops.toList.all fun o=>(E.told f (o.dst.getD 0)).isNone
def uz (P:Program) (E:Env) (f _rid:Nat) (ops:Array Oper) (st:St):Option (St×Bool):=
 let m:=st.mem++[.free]
 match cond (ops.toList.all gd&&J5 E f ops) (j7 P E (fun i=>m.getD i .dead) false st.mem.length ops ops.toList {st with mem:=m}) none with
 |some (st',ok)=>some (st',ok&&(jA gd ops (masks [] ops.toList) 0 [] ops.toList&&(P.follows .mixedOrders || !Region.departs ops)))
 |none=>none
def FW (P:Program) (E:Env) (f:FuncId) (ops:Array Oper) (i:Nat) (st:St):Option St:=
 match ops[i]? with
 |none=>none
 |some o=>match ec ops st.tm o with
  |.yes=>
   let m:=reserve o st.mem
   match sv P (fun i=>m.getD i .dead) (E.wr f (o.dst.getD 0)) st.mem.length (ev E st.tm) o with
   |some (v,us,ok)=>cond (ok&&fits st o.dst) (some (put {st with mem:=apply m us} o.dst v)) none
   |none=>none
  |_=>none
def N4 (a b:qK):List Nat→Bool
 |[]=>true
 |k::r=>gG (look a k) (look b k)&&N4 a b r
def RO (s t:St):Bool:=bj s.nt t.nt&&(bj s.fix t.fix&&(FP (s.mem.getLastD .dead) (t.mem.getLastD .dead)&&(su s.mem t.mem&&N4 s.tm t.tm (s.tm.map (·.1)++t.tm.map (·.1)))))
def tX:List Bool→List Bool→Bool
 |[],[]=>true
 |a::r,b::s=>Ae a b&&tX r s
 |_,_=>false
abbrev Pt:=Array Bool×St
def WI (p q:Pt):Bool:=tX p.1.toList q.1.toList&&RO p.2 q.2
def BY (q:Pt):List Pt→Bool
 |[]=>false
 |p::r=>WI q p||BY q r
def BZ (q:Pt) (l:List Pt):List Pt:=cond (BY q l) l (q::l)
def pK (P:Program) (E:Env) (f:FuncId) (ops:Array Oper) (q:Pt):List Nat→List Pt→Option (List Pt)
 |[],l=>some l
 |i::r,l=>match FW P E f ops i q.2 with
  |some st=>pK P E f ops q r (BZ (q.1.setIfInBounds i true,st) l)
  |none=>none
def level (P:Program) (E:Env) (f:FuncId) (ops:Array Oper):List Pt→List Pt→Option (List Pt)
 |[],l=>some l
 |q::r,l=>match Region.ready .any ops q.1 with
  |[]=>level P E f ops r (BZ q l)
  |is=>match pK P E f ops q is l with
   |some l=>level P E f ops r l
   |none=>none
def levels (P:Program) (E:Env) (f:FuncId) (ops:Array Oper):Nat→List Pt→Option (List Pt)
 |0,l=>some l
 |n+1,l=>match level P E f ops l [] with
  |some l=>levels P E f ops n l
  |none=>none
def J6 (b:Bool) (o:Oper):Bool:=
 match o.op with
 |.store _ _ (.const (.bool c))=>c==b
 |_=>false
def J7 (ops:Array Oper):Bool:=
 match ops.toList with
 |[_,o,p,_]=>J6 true o&&J6 false p
 |_=>false
def J8 (P:Program) (ops:Array Oper):Bool:=
 bm ops.size 16&&ops.toList.any fun o=>match o.op with
  |.insert t _ _ _=>match P.underlying t with
   |some (.map kt _)=>Rj P kt
   |_=>false
  |_=>false
def An (P:Program) (E:Env) (f:FuncId) (ops:Array Oper) (st:St):Option (List St):=
 cond ((J7 ops||J8 P ops)&&(P.follows .mixedOrders || !Region.departs ops)) ((levels P E f ops ops.size [(Array.replicate ops.size false,st)]).map fun l=>l.map (·.2)) none
def step (P:Program) (E:Env) (c:cg):Ev:=
 match c.todo with
 |[]=>match c.st.bZ with
  |.round i=>mJ c i none
  |_=>ending P c
 |.fin::_=> .done (.ret (look c.st.tm 0) c.st.mem)
 |.xB u::_=> .done (.xp u c.st.mem)
 |.gM u::_=>ux P c u
 |.leave::_=>lE P c
 |.begin::k=>match c.st.bZ with
  |.round i=>uy c i k
  |_=> .fail
 |.code _ .ret::_=>match c.st.bZ with
  |.round i=>mJ c i (some .ret)
  |_=>ending P c
 |.code _ .skip::k=> .next {c with todo:=k}
 |.code _ (.region id ops false)::k=> .next {c with todo:= .ops id ops 0 false::k}
 |.code _ (.region id ops true)::k=>match uz P E c.f id ops c.st with
  |some (st,ok)=> .must ok {c with todo:=k,st:={st with cJ:=c.st.cJ,bZ:=c.st.bZ}}
  |none=>match An P E c.f ops c.st with
   |some l=> .fork (l.map fun st=>{c with todo:=k,st:={st with cJ:=c.st.cJ,bZ:=c.st.bZ}})
   |none=> .draw id ops {c with todo:=ia id ops k}
 |.code i (.seq a b)::k=> .next {c with todo:= .code i a :: .code (i+nodes a) b::k}
 |.code i (.cond x a b)::k=>match ev E c.st.tm x with
  |.p (.sc (.bool t))=> .test t {c with todo:= .code (i+1) a::eO (E.keep c.f (2*i)) k} {c with todo:= .code (i+1+nodes a) b::eO (E.keep c.f (2*i)) k}
  |_=> .fail
 |.code i (.block id b)::k=> .next {c with todo:= .code i b :: .inBlock id::k}
 |.code i (.loop b)::k=> .next {c with todo:= .code (i+1) b :: .inLoop i b::eO (E.keep c.f (2*i+1)) k,st:=iA (E.keep c.f (2*i)) c.st}
 |.code _ (.exit id)::k=>match cm id k with
  |some k=> .next {c with todo:=k}
  |none=>match c.st.bZ with
   |.round i=>mJ c i (some (.exit id))
   |_=> .fail
 |.code i (.scope b)::k=> .next {c with todo:= .code i b :: .inScope b::k}
 |.inScope _::k=> .next {c with todo:=k}
 |.code _ (.label _)::k=> .next {c with todo:=k}
 |.code _ (.goto l)::k=>match eF l k with
  |some k=> .next {c with todo:=k}
  |none=> .fail
 |.code _ (.rangeFunc x ps as bd)::k=>match c.st.bZ with
  |.call=>FV E c x ps as bd k
  |_=> .fail
 |.code _ _::_=> .fail
 |.inBlock _::k=> .next {c with todo:=k}
 |.inLoop i b::k=> .next {c with todo:= .code (i+1) b :: .inLoop i b::k,st:=iA (E.keep c.f (2*i)) c.st}
 |.forget keep::k=> .next {c with todo:=k,st:=forget keep c.st}
 |.ops bY ops i sure::k=>match ops[i]? with
  |none=> .next {c with todo:=k}
  |some o=>match ec ops c.st.tm o with
   |.yes=>J4 P E c bY o (.ops bY ops (i+1) false::k)
   |.no=>cond (fits c.st o.dst) (.next {c with todo:= .ops bY ops (i+1) false::k,st:=put c.st o.dst (.aK [])}) .fail
   |.ask d b want=>match sure with
    |false=> .test b {c with todo:= .ops bY ops i true::k,st:=put c.st (some d) (sB true)} {c with todo:= .ops bY ops i true::k,st:=put c.st (some d) (sB false)}
    |true=>match b==want with
     |true=>J4 P E c bY o (.ops bY ops (i+1) false::k)
     |false=>cond (fits c.st o.dst) (.next {c with todo:= .ops bY ops (i+1) false::k,st:=put c.st o.dst (.aK [])}) .fail
   |.lost=> .fail
end Go.Am
end
section
namespace Go.Am
structure dx where
 g:FuncId
 args:List AV
 m:Mem
 v:AV
 m':Mem
def same (b b':Bool):Bool:=match b' with
 |true=>b
 |false=> !b
structure gz where
 v:AV
 us:nF
 fp:List Nat
 ld:Nat→aN→Bool
def RP (P:Program) (ρ:Operand→AV) (o:Oper) (v:AV) (b:Nat) (x:aN):Bool:=
 match o.op with
 |.load t a=>match ρ a with
  |.mp c off=>bj c b&&(match kq P (fun _=>x) t (.mp c off) with
   |some (v',ok)=>ok&&gG v' v
   |none=>false)
  |_=>false
 |_=>false
def uA:nF→Nat→Option aN
 |[],_=>none
 |(i,x)::r,b=>match uA r b with
  |some y=>some y
  |none=>cond (bj i b) (some x) none
def Z4:nF→Bool
 |[]=>true
 |_=>false
def yG (o:Oper):Bool:=gd o||match o.op with
 |.alloc _ | .box .. | .buildSlice .. | .makeSlice .. | .store .. | .makeMap .. | .lookup .. | .mapUpdate .. | .insert .. =>true
 |.call c=>match c.callee with
  |.builtin .append | .builtin .copy | .builtin .unsafeSliceData | .builtin .unsafeString=>true
  |_=>false
 |_=>false
def HA (ρ:Operand→AV) (o:Oper):List Nat:=
 match o.op with
 |.load _ a=>refs (ρ a)
 |.store _ a _=>refs (ρ a)
 |.convert _ _ x=>refs (ρ x)
 |.lookup _ x _ _=>refs (ρ x)
 |.mapUpdate _ x _ _=>refs (ρ x)
 |.insert _ x _ _=>refs (ρ x)
 |.call c=>match c.callee with
  |.builtin .append | .builtin .copy | .builtin .unsafeString=>gY (c.args.toList.map ρ)
  |_=>[]
 |_=>[]
def cO (n:Nat):Mem:=df n .free
def nK (N nx:Nat) (ord:List Nat) (v:AV) (m1:Mem):gz:=
 let N5:=ord++List.range' nx (m1.length-ord.length)
 ⟨iI (bC N5 N) v,N5.zip (m1.map (fq (bC N5 N))),N5,fun _ _=>false⟩
def nL (P:Program) (E:Env) (f _rid:Nat) (O:FuncId→List AV→Mem→Option (AV×Mem)) (nx:Nat) (o:Oper) (st:St):Option (gz×Nat×Bool):=
 match target (ev E st.tm) o with
 |some (g,args)=>
  let ord:=close st.mem 0 args
  match O g (eE (idx ord) args) (pack st.mem ord) with
  |some (v,m1)=>some (nK st.mem.length nx ord v m1,nx+(m1.length-ord.length),bm ord.length m1.length&&(iJ ord nx&&bm (nx+(m1.length-ord.length)) st.mem.length))
  |none=>none
 |none=>match sv P (fun i=>st.mem.getD i .dead) (E.wr f (o.dst.getD 0)) nx (ev E st.tm) o with
  |some (v,us,ok)=>some (⟨v,us,us.map (·.1)++(HA (ev E st.tm) o++cond (makes o) [nx] []),RP P (ev E st.tm) o v⟩,cond (makes o) (nx+1) nx,
    ok&&(yG o&&(iJ (us.map (·.1)) (cond (makes o) (nx+1) nx)&&bm (cond (makes o) (nx+1) nx) st.mem.length)))
  |none=>none
def FX (t:Option AV) (r:Option (gz×Nat×Bool)):Option (gz×Nat×Bool):=
 match t with
 |none=>r
 |some v=>match r with
  |some (d,nx,ok)=>some (⟨v,d.us,d.fp,d.ld⟩,nx,ok&&gG d.v v)
  |none=>none
def iV (P:Program) (E:Env) (f bY:Nat) (O:FuncId→List AV→Mem→Option (AV×Mem)) (nx:Nat) (o:Oper) (st:St):Option (gz×Nat×Bool):=
 FX (E.told f (o.dst.getD 0)) (nL P E f bY O nx o st)
def gZ (P:Program) (E:Env) (f bY:Nat) (O:FuncId→List AV→Mem→Option (AV×Mem)) (ops:Array Oper):List Oper→Nat→St→Option (St×Nat×List gz×Bool)
 |[],nx,st=>some (st,nx,[],true)
 |o::r,nx,st=>
  let skip:=match gZ P E f bY O ops r nx (put st o.dst (.aK [])) with
   |some (st',oh,ds,ok)=>some (st',oh,⟨.aK [],[],[],fun _ _=>false⟩::ds,fits st o.dst&&ok)
   |none=>none
  let pJ:=match iV P E f bY O nx o st with
   |some (d,jB,ok)=>match gZ P E f bY O ops r jB (put {st with mem:=apply st.mem d.us} o.dst d.v) with
    |some (st',oh,ds,ok')=>some (st',oh,d::ds,ok&&(fits st o.dst&&ok'))
    |none=>none
   |none=>none
  match ec ops st.tm o with
  |.yes=>pJ
  |.no=>skip
  |.ask _ b want=>match b==want with
   |true=>pJ
   |false=>skip
  |.lost=>none
def Ao (d e:gz):Bool:=Z4 e.us&&(d.us.map (·.1)).all fun b=> !has e.fp b||(match uA d.us b with
 |some x=>e.ld b x
 |none=>false)
def Ap (L:List Nat) (i:Nat) (d:gz) (j:Nat) (e:gz):Bool:=da (L.getD i 0) j||(!meet (e.us.map (·.1)) d.fp&&(!meet (d.us.map (·.1)) e.fp||Ao d e))
def pM (L:List Nat) (i:Nat) (d:gz):Nat→List gz→Bool
 |_,[]=>true
 |j,e::r=>Ap L i d j e&&pM L i d (j+1) r
def uB (L:List Nat):Nat→List gz→List gz→Bool
 |_,_,[]=>true
 |i,mz,d::r=>pM L i d 0 mz&&uB L (i+1) (mz++[d]) r
def tY:Mem→Bool
 |[]=>true
 |.free::r=>tY r
 |_::_=>false
def jC (P:Program) (E:Env) (f bY:Nat) (O:FuncId→List AV→Mem→Option (AV×Mem)) (ops:Array Oper) (st:St):Option (St×Bool):=
 match gZ P E f bY O ops (ops.toList.take (gh ops)) st.mem.length {st with mem:=st.mem++cO (60+ops.size)} with
 |some (st',nx,ds,ok)=>some ({st' with mem:=st'.mem.take nx},ok&&(jA (fun _=>true) ops (masks [] ops.toList) 0 [] ops.toList&&(uB (masks [] ops.toList) 0 [] ds &&
   (tY (st'.mem.drop nx)&&(bm st.mem.length nx&&(P.follows .mixedOrders || !Region.departs ops))))))
 |none=>none
def init (P:Program) (g:FuncId) (args:List AV) (m:Mem):Option cg:=
 match P.funcs[g]? with
 |some fn=>match fn.body with
  |some c=>some {f:=g,todo:=[.code 0 c],st:={tm:=(upTo args.length).zip args,nt:=max fn.ntmps args.length,mem:=m,fix:=m.length}}
  |none=>none
 |none=>none
def Ez (tm:qK):List Nat→List AV→qK
 |d::ds,v::vs=>Ez ((d,v)::tm) ds vs
 |_,_=>tm
def B0 (args:List AV) (m:Mem):Option cg:=
 match args with
 |.vy i::xs=>match m.getD i .dead with
  |.ob (.loop f ps as bd _ _) vals=>cond (bj xs.length ps.toList.length&&iJ ps.toList vals.length)
   (some {f:=f,todo:=[.code 0 as,.begin,.code 0 bd],st:={tm:=Ez ((upTo vals.length).zip vals) ps.toList xs,nt:=vals.length,mem:=m,fix:=m.length,bZ:= .round i}}) none
  |_=>none
 |_=>none
def lG:List dx→FuncId→List AV→Mem→Option (AV×Mem)
 |[],_,_,_=>none
 |q::r,g,args,m=>cond (bj q.g g&&(j5 args q.args&&su m q.m)) (some (q.v,q.m')) (lG r g args m)
def B2:Out→Out→Bool
 |.ret v m,.ret u n=>gG v u&&su m n
 |.xp v m,.xp u n=>gG v u&&su m n
 |_,_=>false
def agree:List (Option Out)→Option Out
 |[]=>none
 |[o]=>o
 |o::r=>match o,agree r with
  |some o,some p=>cond (B2 o p) (some p) none
  |_,_=>none
def isRec (o:Oper):Bool:=
 match o.op,o.guard with
 |.call c,none=>match c.callee,c.args.toList with
  |.builtin .recover,[]=>true
  |_,_=>false
 |_,_=>false
def uC:Nat→List It→Option (List It)
 |0,_=>none
 |n+1,todo=>match todo with
  |.ops bY ops i sure::k=>some (.ops bY ops i sure::k)
  |.code i (.seq a b)::k=>uC n (.code i a :: .code (i+nodes a) b::k)
  |.code _ (.region id ops false)::k=>uC n (.ops id ops 0 false::k)
  |.code i (.scope b)::k=>uC n (.code i b :: .inScope b::k)
  |.code i (.block id b)::k=>uC n (.code i b :: .inBlock id::k)
  |_=>none
def Rl (pv:Option AV) (c:cg):Option cg:=
 match c.todo with
 |.ops bY ops i _::k=>match ops[i]? with
  |some o=>cond (isRec o&&fits c.st o.dst) (some {c with todo:= .ops bY ops (i+1) false::k,st:=put c.st o.dst (pv.getD (.p (.sc .nilIface)))}) none
  |none=>none
 |_=>none
def B3 (P:Program) (g:FuncId) (args:List AV) (m:Mem) (pv:Option AV):Option cg:=
 match init P g args m with
 |some c=>match uC 20 c.todo with
  |some t=>Rl pv {c with todo:=t,st:={c.st with bZ:= .late}}
  |none=>none
 |none=>none
def mK (ord:List Nat) (c:cg) (u:AV) (m1:Mem):cg:=
 {c with todo:=[.gM (iI (bC ord c.st.mem.length) u)],st:=back ord none c.st (.aK []) m1}
def exec (P:Program) (E:Env) (K:List dx):Nat→cg→Option Out
 |0,_=>none
 |n+1,c=>match step P E c with
  |.next c=>exec P E K n c
  |.must b c=>cond b (exec P E K n c) none
  |.test b y z=>match b with
   |true=>exec P E K n y
   |false=>exec P E K n z
  |.call g args m ord dst c=>match lG K g args m with
   |some (v,m1)=>exec P E K n {c with st:=back ord dst c.st v m1}
   |none=>match init P g args m with
    |some ci=>match exec P E K n ci with
     |some (.ret v m1)=>exec P E K n {c with st:=back ord dst c.st v m1}
     |some (.xp u m1)=>exec P E K n (mK ord c u m1)
     |none=>none
    |none=>none
  |.late g args m ord pv c=>match B3 P g args m pv with
   |some ci=>match exec P E K n ci with
    |some (.ret _ m1)=>exec P E K n {c with st:=back ord none c.st (.aK []) m1}
    |_=>none
   |none=>none
  |.round args m ord dst c=>match B0 args m with
   |some ci=>match exec P E K n ci with
    |some (.ret v m1)=>exec P E K n {c with st:=back ord dst c.st v m1}
    |_=>none
   |none=>none
  |.range g args m ord L c=>match init P g args m with
   |some ci=>match exec P E K n ci with
    |some (.ret v m1)=>match fS (back ord none c.st v m1).mem L with
     |some (m2,pd)=>exec P E K n (behind c m2 pd)
     |none=>none
    |_=>none
   |none=>none
  |.draw bY ops c=>match jC P E c.f bY (fun g args m=>match lG K g args m with
     |some r=>some r
     |none=>match init P g args m with
      |some ci=>match exec P E K n ci with
       |some (.ret v m1)=>some (v,m1)
       |_=>none
      |none=>none) ops c.st with
   |some (st,ok)=>cond ok (exec P E K n {c with st:={st with cJ:=c.st.cJ,bZ:=c.st.bZ}}) none
   |none=>none
  |.fork l=>agree (l.map (exec P E K n))
  |.done o=>some o
  |.fail=>none
def FY (P:Program) (E:Env) (K:List dx) (n:Nat) (g:FuncId) (args:List AV) (m:Mem):Option Out:=
 match init P g args m with
 |some c=>exec P E K n c
 |none=>none
inductive Ans where
 |test (b:Bool)
 |call (v:AV) (m:Mem)
 |go
 |stop
inductive Fin where
 |out (o:Out)
 |at(c:cg)
end Go.Am
end
section
namespace Go.Am
open Go.RowKit
structure Gh where
 bL:Nat→Option Nat
 lo:Nat→Nat
 hi:Nat→Nat
 pure:Nat→Nat→Prop
def bI {α β:Type} (r:α→β→Prop):List α→List β→Prop
 |[],[]=>True
 |a::l,b::m=>r a b∧bI r l m
 |_,_=>False
section all2
variable {α β γ:Type} {r:α→β→Prop}
theorem bI.len : ∀{l:List α} {m:List β},bI r l m→l.length=m.length
 |[],[],_=>rfl
 |_::_,_::_,h=>congrArg (· + 1) (bI.len h.2)
 |[],_::_,h=>h.elim
 |_::_,[],h=>h.elim
theorem bI.mono {s:α→β→Prop} (WJ : ∀a b,r a b→s a b) : ∀{l:List α} {m:List β},bI r l m→bI s l m
 |[],[],_=>trivial
 |_::_,_::_,h=>⟨WJ _ _ h.1,bI.mono WJ h.2⟩
 |[],_::_,h=>h.elim
 |_::_,[],h=>h.elim
theorem bI.mem {s:α→β→Prop} : ∀{l:List α} {m:List β},(∀a b,a∈l→r a b→s a b)→bI r l m→bI s l m
 |[],[],_,_=>trivial
 |_::_,_::_,WJ,h=>⟨WJ _ _ (.head _) h.1,bI.mem (fun a b ha=>WJ a b (.tail _ ha)) h.2⟩
 |[],_::_,_,h=>h.elim
 |_::_,[],_,h=>h.elim
theorem bI.get : ∀{l:List α} {m:List β},bI r l m → ∀i (h:i<l.length) (h':i<m.length),r l[i] m[i]
 |_::_,_::_,h,0,_,_=>h.1
 |_::_,_::_,h,i+1,hi,hj=>bI.get h.2 i (ch hi) (ch hj)
 |[],[],_,_,h,_=>absurd h (Nat.not_lt_zero _)
 |[],_::_,h,_,_,_=>h.elim
 |_::_,[],h,_,_,_=>h.elim
theorem bI.dz : ∀{l:List α} {m:List β},l.length=m.length→(∀i (h:i<l.length) (h':i<m.length),r l[i] m[i])→bI r l m
 |[],[],_,_=>trivial
 |_::_,_::_,hl,h=>⟨h 0 (c8 _) (c8 _),bI.dz (Nat.succ.inj hl) fun i hi hj=>h (i+1) (c9 hi) (c9 hj)⟩
 |[],_::_,hl,_=>db hl
 |_::_,[],hl,_=>db hl
theorem bI.append : ∀{l l':List α} {m m':List β},bI r l m→bI r l' m'→bI r (l++l') (m++m')
 |[],_,[],_,_,h=>h
 |_::_,_,_::_,_,h,h'=>⟨h.1,bI.append h.2 h'⟩
 |[],_,_::_,_,h,_=>h.elim
 |_::_,_,[],_,h,_=>h.elim
theorem bI.drop : ∀{l:List α} {m:List β} (n:Nat),bI r l m→bI r (l.drop n) (m.drop n)
 |_,_,0,h=>h
 |[],[],_+1,_=>trivial
 |_::_,_::_,n+1,h=>bI.drop n h.2
 |[],_::_,_+1,h=>h.elim
 |_::_,[],_+1,h=>h.elim
theorem bI.take : ∀{l:List α} {m:List β} (n:Nat),bI r l m→bI r (l.take n) (m.take n)
 |[],[],0,_=>trivial
 |_::_,_::_,0,_=>trivial
 |[],[],_+1,_=>trivial
 |_::_,_::_,n+1,h=>⟨h.1,bI.take n h.2⟩
 |[],_::_,_,h=>h.elim
 |_::_,[],_,h=>h.elim
theorem bI.set : ∀{l:List α} {m:List β} (n:Nat) {a:α} {b:β},bI r l m→r a b→bI r (l.set n a) (m.set n b)
 |[],[],_,_,_,_,_=>trivial
 |_::_,_::_,0,_,_,h,hab=>⟨hab,h.2⟩
 |_::_,_::_,n+1,_,_,h,hab=>⟨h.1,bI.set n h.2 hab⟩
 |[],_::_,_,_,_,h,_=>h.elim
 |_::_,[],_,_,_,h,_=>h.elim
theorem bI.get? {l:List α} {m:List β} (h:bI r l m) {i:Nat} {a:α} (ha:l[i]? = some a) : ∃b,m[i]? = some b∧r a b:=by
 obtain⟨hi,rfl⟩:=List.getElem?_eq_some_iff.1 ha
 have hm:=h.len
 exact⟨m[i],de (by omega),h.get i hi (by omega)⟩
theorem bI.getD {l:List α} {m:List β} (h:bI r l m) {i:Nat} (hi:i<l.length) (d:α) (e:β):r (l.getD i d) (m.getD i e):=by
 have hm:=h.len
 rw[di,di,de hi,de (by omega:i<m.length)]
 exact h.get i hi (by omega)
end all2
inductive VP (g:Gh) (w:World):PV→Value→Prop
 |sc (v:Value):VP g w (.sc v) v
 |pp (off:Nat) (cells:List PV) (b o:Nat) (f:Nat→Value) (hp : ∀k,k<cells.length→g.pure b (o+k)∧w.cell? ⟨b,o+k,none⟩=some (f k)∧(f k).oneCell'=true)
   (hv : ∀k (h:k<cells.length),VP g w cells[k] (f k)):VP g w (.pp off cells) (.pointer (some ⟨b,o+off,none⟩))
 |ps (len sz:Nat) (cells:List PV) (b o cap:Nat) (f:Nat→Value) (hl:cells.length=len*sz) (hc:len≤cap) (hz:1≤sz)
   (hp : ∀k,k<cells.length→g.pure b (o+k)∧w.cell? ⟨b,o+k,none⟩=some (f k)∧(f k).oneCell'=true)
   (hv : ∀k (h:k<cells.length),VP g w cells[k] (f k)):VP g w (.ps len sz cells) (.slice (some ⟨b,o,none⟩) len cap)
 |oK (sz:Nat) (a:Option Addr) (cap:Nat) (hz:1≤sz∨(a=none∧cap=0)):VP g w (.ps 0 sz []) (.slice a 0 cap)
 |mD (t:TypeId) (v:PV) (cv:Value) (h:VP g w v cv):VP g w (.mD t v) (.iface t cv)
inductive VA (g:Gh) (w:World):AV→Value→Prop
 |aT (v:Value):VA g w .aT v
 |p (v:PV) (cv:Value) (h:VP g w v cv):VA g w (.p v) cv
 |os (tok:Option Nat) (len sz:Nat) (cells:List PV) (a:Option Addr) (cap:Nat) (h:VP g w (.ps len sz cells) (.slice a len cap))
   (hr:cap=len ∨ ∃t b o,tok=some t∧a=some ⟨b,o,none⟩∧g.bL t=some b∧g.lo t=o+len*sz∧g.hi t=o+cap*sz∧len≤cap):VA g w (.os tok len sz cells) (.slice a len cap)
 |mp (b off c:Nat) (h:g.bL b=some c):VA g w (.mp b off) (.pointer (some ⟨c,off,none⟩))
 |ms (b off len sz cap c:Nat) (h:g.bL b=some c) (hc:len≤cap):VA g w (.ms b off len sz (some cap)) (.slice (some ⟨c,off,none⟩) len cap)
 |mg (b off len sz cap c:Nat) (h:g.bL b=some c) (hc:len≤cap) (hh:off+cap*sz≤g.hi b):VA g w (.ms b off len sz none) (.slice (some ⟨c,off,none⟩) len cap)
 |fn (f:Fn) (l k:List AV) (fa ca:Array Value) (hl:l.length=fa.toList.length) (hk:k.length=ca.toList.length)
   (h : ∀i (h:i<l.length) (h':i<fa.toList.length),VA g w l[i] fa.toList[i]) (h2 : ∀i (h:i<k.length) (h':i<ca.toList.length),VA g w k[i] ca.toList[i]):VA g w (.fn f l k) (.func f fa ca)
 |agg (l:List AV) (cs:Array Value) (hl:l.length=cs.toList.length) (h : ∀i (h:i<l.length) (h':i<cs.toList.length),VA g w l[i] cs.toList[i]):VA g w (.agg l) (.agg cs)
 |aK (l:List AV) (cs:Array Value) (hl:l.length=cs.toList.length) (h : ∀i (h:i<l.length) (h':i<cs.toList.length),VA g w l[i] cs.toList[i]):VA g w (.aK l) (.tuple cs)
 |mD (t:TypeId) (v:AV) (cv:Value) (h:VA g w v cv):VA g w (.mD t v) (.iface t cv)
 |vm (b c:Nat) (h:g.bL b=some c):VA g w (.vm b) (.map (some c))
 |vy (b c:Nat) (h:g.bL b=some c):VA g w (.vy b) (.func (.yield c) #[] #[])
abbrev cY (g:Gh) (w:World):List AV→List Value→Prop:=bI (VA g w)
abbrev F0 (g:Gh) (w:World):List PV→List Value→Prop:=bI (VP g w)
theorem VA.Aq {g:Gh} {w:World} {l:List AV} {cs:Array Value}:VA g w (.agg l) (.agg cs)↔cY g w l cs.toList:=
 ⟨fun h=>by cases h with | agg _ _ hl h=>exact bI.dz hl h,fun h=> .agg l cs h.len fun i a b=>h.get i a b⟩
theorem VA.mA {g:Gh} {w:World} {l:List AV} {cs:Array Value}:VA g w (.aK l) (.tuple cs)↔cY g w l cs.toList:=
 ⟨fun h=>by cases h with | aK _ _ hl h=>exact bI.dz hl h,fun h=> .aK l cs h.len fun i a b=>h.get i a b⟩
theorem VA.pv {g:Gh} {w:World} {v:PV} {cv:Value}:VA g w (.p v) cv↔VP g w v cv:=
 ⟨fun h=>by cases h with | p _ _ h=>exact h,.p v cv⟩
theorem VA.fns {g:Gh} {w:World} {f:Fn} {l k:List AV} {cv:Value}:VA g w (.fn f l k) cv ↔ ∃fa ca:Array Value,cv = .func f fa ca∧cY g w l fa.toList∧cY g w k ca.toList:=
 ⟨fun h=>by cases h with | fn _ _ _ fa ca hl hk h h2=>exact⟨fa,ca,rfl,bI.dz hl h,bI.dz hk h2⟩,
  fun⟨fa,ca,e,h,h2⟩=>e ▸ .fn f l k fa ca h.len h2.len (fun i a b=>h.get i a b) fun i a b=>h2.get i a b⟩
theorem VP.bk {g:Gh} {w:World} {cv:Value} (h:VP g w .bk cv):False:=by cases h
structure Ext (g:Gh) (w:World) (g':Gh) (w':World):Prop where
 bL : ∀i c,g.bL i=some c→g'.bL i=some c∧g'.lo i=g.lo i∧g'.hi i=g.hi i
 pure : ∀c o,g.pure c o→g'.pure c o∧w'.cell? ⟨c,o,none⟩=w.cell? ⟨c,o,none⟩
theorem Ext.refl (g:Gh) (w:World):Ext g w g w:=⟨fun _ _ h=>⟨h,rfl,rfl⟩,fun _ _ h=>⟨h,rfl⟩⟩
theorem Ext.trans {g g' g'':Gh} {w w' w'':World} (h:Ext g w g' w') (k:Ext g' w' g'' w''):Ext g w g'' w'':=
 ⟨fun i c e=>⟨(k.bL i c (h.bL i c e).1).1,(k.bL i c (h.bL i c e).1).2.1.trans (h.bL i c e).2.1,(k.bL i c (h.bL i c e).1).2.2.trans (h.bL i c e).2.2⟩,
  fun c o e=>⟨(k.pure c o (h.pure c o e).1).1,(k.pure c o (h.pure c o e).1).2.trans (h.pure c o e).2⟩⟩
theorem VP.mono {g g':Gh} {w w':World} (e : ∀c o,g.pure c o→g'.pure c o∧w'.cell? ⟨c,o,none⟩=w.cell? ⟨c,o,none⟩) {v:PV} {cv:Value} (h:VP g w v cv):VP g' w' v cv:=by
 induction h with
 |sc v=>exact .sc v
 |pp off cells b o f hp hv ih=>exact .pp off cells b o f (fun k hk=>⟨(e _ _ (hp k hk).1).1,(e _ _ (hp k hk).1).2.trans (hp k hk).2.1,(hp k hk).2.2⟩) ih
 |ps len sz cells b o cap f hl hc hz hp hv ih=>exact .ps len sz cells b o cap f hl hc hz (fun k hk=>⟨(e _ _ (hp k hk).1).1,(e _ _ (hp k hk).1).2.trans (hp k hk).2.1,(hp k hk).2.2⟩) ih
 |oK sz a cap hz=>exact .oK sz a cap hz
 |mD t v cv h ih=>exact .mD t v cv ih
theorem VA.mono {g g':Gh} {w w':World} (e:Ext g w g' w') {v:AV} {cv:Value} (h:VA g w v cv):VA g' w' v cv:=by
 induction h with
 |aT v=>exact .aT v
 |p v cv h=>exact .p v cv (h.mono e.pure)
 |os tok len sz cells a cap h hr=>
  refine .os tok len sz cells a cap (h.mono e.pure) (hr.imp id ?_)
  rintro ⟨t,b,o,rfl,rfl,hb,hlo,hhi,hc⟩
  exact⟨t,b,o,rfl,rfl,(e.bL t b hb).1,(e.bL t b hb).2.1.trans hlo,(e.bL t b hb).2.2.trans hhi,hc⟩
 |mp b off c h=>exact .mp b off c (e.bL b c h).1
 |ms b off len sz cap c h hc=>exact .ms b off len sz cap c (e.bL b c h).1 hc
 |mg b off len sz cap c h hc hh=>exact .mg b off len sz cap c (e.bL b c h).1 hc (by rw[(e.bL b c h).2.2];exact hh)
 |fn f l k fa ca hl hk h h2 ih ih2=>exact .fn f l k fa ca hl hk ih ih2
 |agg l cs hl h ih=>exact .agg l cs hl ih
 |aK l cs hl h ih=>exact .aK l cs hl ih
 |mD t v cv h ih=>exact .mD t v cv ih
 |vm b c h=>exact .vm b c (e.bL b c h).1
 |vy b c h=>exact .vy b c (e.bL b c h).1
theorem cY.mono {g g':Gh} {w w':World} (e:Ext g w g' w') {l:List AV} {cs:List Value} (h:cY g w l cs):cY g' w' l cs:=bI.mono (fun _ _=>VA.mono e) h
def Ej (g:Gh) (w:World) (l:List AV) (cs:List Value):Prop:=cY g w l cs ∧ ∀v∈cs,v.oneCell'=true
theorem Ej.mono {g g':Gh} {w w':World} (e:Ext g w g' w') {l:List AV} {cs:List Value} (h:Ej g w l cs):Ej g' w' l cs:=⟨h.1.mono e,h.2⟩
def aN.cells?:aN→Option (List AV)
 |.pc l=>some (l.map .p)
 |.ac l=>some l
 |_=>none
def aN.cP:aN→Bool
 |.pc _ | .ac _ | .tok | .ob .. =>true
 |_=>false
def fP (g:Gh) (m:Mem) (c:Nat):Prop:= ∃i b,m[i]? = some b∧b.cP=true∧g.bL i=some c
def entriesOf:List Value→List Value→List Nat→List MapEntry
 |k::ks,v::vs,b::bs=>{key:=k,val:=v,born:=b}::entriesOf ks vs bs
 |_,_,_=>[]
def dV.is:dV→Obj→List Value→Prop
 |.map keys Rg clock,ob,vs=>ob = .map (entriesOf keys vs Rg).toArray clock
 |.Hx,ob,vs=>ob = .deferred (some [])∧vs=[]
 |.shut,ob,vs=>ob = .deferred none∧vs=[]
 |.Wq,_,vs=>vs=[]
 |.gr t _,ob,vs=> ∃cs e n,ob = .cells cs e n∧e=t∧n.2≤n.1∧vs=cs.toList.take vs.length∧vs.length≤cs.size ∧ ∀v∈cs.toList,v.oneCell'=true
 |.stk t pre,ob,vs=> ∃cs e n,ob = .cells cs e n∧e=t∧n.2≤n.1∧pre++vs=cs.toList.take (pre.length+vs.length)∧pre.length+vs.length≤cs.size ∧ ∀v∈cs.toList,v.oneCell'=true
 |.gb t,ob,vs=> ∃cs e n,ob = .cells cs e n∧e=t∧n.2≤n.1∧vs=cs.toList.take vs.length∧vs.length≤cs.size∧(∀v∈cs.toList,∃k,v = .int .u8 k)∧cs.size≤9223372036854775807
 |.iter s pos,ob,vs=>ob = .stringIter s pos∧vs=[]
 |.N2 s pos more,ob,vs=>ob = .stringIter s pos∧vs=[]∧cf pos s.size=more
 |.JS keys,ob,vs=> ∃es clock bs,ob = .map es clock∧keys.length=vs.length∧bs.length=vs.length∧es.toList.Perm (entriesOf keys vs bs)
 |.loop f ps a b st pd,ob,vs=> ∃D,ob = .loop {state:=st,pending:=pd,fn:=f,tmps:=vs.toArray,params:=ps,assign:=a,body:=b,defers:=D}
def dV.room:dV→Obj→Nat→Prop
 |.gr _ _,.cells cs _ _,h=>cs.size=h
 |.stk _ _,.cells cs _ _,h=>cs.size=h
 |.gb _,.cells cs _ _,h=>cs.size=h
 |_,_,_=>True
structure Rel (g:Gh) (m:Mem) (w:World):Prop where
 sw : ∀i,m.length≤i→g.bL i=none
 free : ∀i,m[i]? = some .free→g.bL i=none
 cells : ∀i b l,m[i]? = some b→b.cells?=some l → ∃c cs e n,g.bL i=some c∧w.heap[c]? = some (.cells cs e n)∧n.2≤n.1∧Ej g w l cs.toList ∧ ∀o,¬g.pure c o
 tok : ∀i c,m[i]? = some .tok→g.bL i=some c → ∃cs e n,w.heap[c]? = some (.cells cs e n)∧g.hi i≤cs.size∧(n.2≤n.1∨g.hi i≤n.1) ∧ ∀o,g.lo i≤o→o<g.hi i → ¬g.pure c o
 inj : ∀i j b b' c,m[i]? = some b→m[j]? = some b'→b.cP=true→b'.cP=true→g.bL i=some c→g.bL j=some c→i=j
 there : ∀c o,g.pure c o → ∃v,w.cell? ⟨c,o,none⟩=some v
 obs : ∀i k l,m[i]? = some (.ob k l) → ∃c ob vs,g.bL i=some c∧w.heap[c]? = some ob∧cY g w l vs∧k.is ob vs∧(∀o,¬g.pure c o)∧k.room ob (g.hi i)
theorem Rel.kL {g:Gh} {m:Mem} {w:World} (h:Rel g m w) {c:Nat} (ho:fP g m c):c<w.heap.size:=by
 obtain⟨i,b,hi,hb,hc⟩:=ho
 have lt : ∀{o:Obj},w.heap[c]? = some o→c<w.heap.size:=fun e=>by
  rcases Nat.lt_or_ge c w.heap.size with h | h
  · exact h
  · simp[Array.getElem?_eq_none h] at e
 cases b with
 |free=>simp[aN.cP] at hb
 |dead=>simp[aN.cP] at hb
 |pc l=>obtain⟨c',cs,e,n,h1,h2,_⟩:=h.cells i _ _ hi rfl;rw[hc] at h1;cases h1;exact lt h2
 |ac l=>obtain⟨c',cs,e,n,h1,h2,_⟩:=h.cells i _ _ hi rfl;rw[hc] at h1;cases h1;exact lt h2
 |tok=>obtain⟨cs,e,n,h2,_⟩:=h.tok i c hi hc;exact lt h2
 |ob k l=>obtain⟨c',ob,vs,h1,h2,_⟩:=h.obs i _ _ hi;rw[hc] at h1;cases h1;exact lt h2
theorem Rel.lH {g:Gh} {m:Mem} {w:World} (h:Rel g m w) {c o:Nat} (hp:g.pure c o):c<w.heap.size:=by
 obtain⟨v,hv⟩:=h.there c o hp
 exact World.block_lt_of_cell? (h:=hv)
structure dm (g:Gh) (m:Mem) (w:World) (g':Gh) (m':Mem) (w':World):Prop where
 size:w.heap.size≤w'.heap.size
 keep : ∀c,c<w.heap.size → ¬fP g m c→w'.heap[c]? = w.heap[c]?
 pure : ∀c o,g.pure c o→g'.pure c o∧w'.cell? ⟨c,o,none⟩=w.cell? ⟨c,o,none⟩
 fresh : ∀c o,g'.pure c o→g.pure c o∨fP g m c∨w.heap.size≤c
 owned : ∀c,fP g' m' c→fP g m c∨w.heap.size≤c
 os:w'.os=w.os
 tape:w'.tape=w.tape
 output:w'.output=w.output
theorem dm.refl (g:Gh) (m:Mem) (w:World):dm g m w g m w:=⟨dd _,fun _ _ _=>rfl,fun _ _ h=>⟨h,rfl⟩,fun _ _ h=> .inl h,fun _ h=> .inl h,rfl,rfl,rfl⟩
theorem dm.trans {g g' g'':Gh} {m m' m'':Mem} {w w' w'':World} (h:dm g m w g' m' w') (k:dm g' m' w' g'' m'' w''):dm g m w g'' m'' w'' where
 size:=cp h.size k.size
 keep c hc hn:=(k.keep c (Nat.lt_of_lt_of_le hc h.size) fun ho=>(h.owned c ho).elim hn fun hh=>absurd hc (Nat.not_lt.2 hh)).trans (h.keep c hc hn)
 pure c o hp:=⟨(k.pure c o (h.pure c o hp).1).1,(k.pure c o (h.pure c o hp).1).2.trans (h.pure c o hp).2⟩
 fresh c o hp:=by
  rcases k.fresh c o hp with h1 | h1 | h1
  · exact h.fresh c o h1
  · exact .inr (h.owned c h1)
  · exact .inr (.inr (cp h.size h1))
 owned c ho:=by
  rcases k.owned c ho with h1 | h1
  · exact h.owned c h1
  · exact .inr (cp h.size h1)
 os:=k.os.trans h.os
 tape:=k.tape.trans h.tape
 output:=k.output.trans h.output
theorem dm.less {g:Gh} {m m':Mem} {w:World} (h : ∀c,fP g m' c→fP g m c):dm g m w g m' w:=
 ⟨dd _,fun _ _ _=>rfl,fun _ _ h=>⟨h,rfl⟩,fun _ _ h=> .inl h,fun c ho=> .inl (h c ho),rfl,rfl,rfl⟩
end Go.Am
end
section
namespace Go.Am
theorem uD : ∀{a b:List UInt8},tS a b=true→a=b
 |[],[],_=>rfl
 |x::r,y::s,h=>by
  simp only[tS,dp] at h
  rw[uD h.2,UInt8.toNat_inj.1 (bx h.1)]
 |[],_::_,h=>by cases h
 |_::_,[],h=>by cases h
theorem J9 {a b:Value} (h:BX a b=true):a=b:=by
 unfold BX at h
 split at h
 · simp only[dp,JZ,beq_iff_eq,decide_eq_true_eq] at h
   rw[h.1,h.2]
 · rename_i a b
   cases a<;>cases b<;>first
    |rfl
    |cases h
 · rename_i a b
   have:=uD h
   cases a with
   |mk a=>cases b with
    |mk b=>
     congr 1
     congr 1
     exact Array.toList_inj.1 this
 all_goals first
  |rfl
  |cases h
mutual
theorem Ar : ∀{a b:PV},kK a b=true→a=b
 |.bk,b,h=>by cases b<;>first | rfl | cases h
 |.sc v,b,h=>by
  cases b<;>first
   |cases h
   |exact congrArg _ (J9 h)
 |.pp o l,b,h=>by
  cases b with
  |pp q m=>
   simp only[kK,dp] at h
   rw[bx h.1,mL h.2]
  |_=>cases h
 |.ps n z l,b,h=>by
  cases b with
  |ps k y m=>
   simp only[kK,dp] at h
   rw[bx h.1,bx h.2.1,mL h.2.2]
  |_=>cases h
 |.mD t v,b,h=>by
  cases b with
  |mD s u=>
   simp only[kK,dp] at h
   rw[bx h.1,Ar h.2]
  |_=>cases h
theorem mL : ∀{a b:List PV},ur a b=true→a=b
 |[],b,h=>by cases b<;>first | rfl | cases h
 |x::r,b,h=>by
  cases b with
  |nil=>cases h
  |cons y s=>
   simp only[ur,dp] at h
   rw[Ar h.1,mL h.2]
end
theorem Ka {a b:Option Nat} (h:Z3 a b=true):a=b:=by
 cases a<;>cases b<;>first
  |rfl
  |cases h
  |exact congrArg _ (bx h)
mutual
theorem lI : ∀{a b:AV},gG a b=true→a=b
 |.aT,b,h=>by cases b<;>first | rfl | cases h
 |.p v,b,h=>by
  cases b<;>first
   |cases h
   |exact congrArg _ (Ar h)
 |.os t n z l,b,h=>by
  cases b with
  |os s k y m=>
   simp only[gG,dp] at h
   rw[Ka h.1,bx h.2.1,bx h.2.2.1,mL h.2.2.2]
  |_=>cases h
 |.mp x o,b,h=>by
  cases b with
  |mp c q=>
   simp only[gG,dp] at h
   rw[bx h.1,bx h.2]
  |_=>cases h
 |.ms x o n z k,b,h=>by
  cases b with
  |ms c q m y j=>
   simp only[gG,dp] at h
   rw[bx h.1,bx h.2.1,bx h.2.2.1,bx h.2.2.2.1,Ka h.2.2.2.2]
  |_=>cases h
 |.fn f l m,b,h=>by
  cases b with
  |fn g k n=>
   cases f<;>cases g<;>first
    |cases h
    |(simp only[gG,dp] at h
      rw[bx h.1,fA h.2.1,fA h.2.2])
  |_=>cases f<;>cases h
 |.agg l,b,h=>by
  cases b<;>first
   |cases h
   |exact congrArg _ (fA h)
 |.aK l,b,h=>by
  cases b<;>first
   |cases h
   |exact congrArg _ (fA h)
 |.mD t v,b,h=>by
  cases b with
  |mD s u=>
   simp only[gG,dp] at h
   rw[bx h.1,lI h.2]
  |_=>cases h
 |.vm x,b,h=>by
  cases b<;>first
   |cases h
   |exact congrArg _ (bx h)
 |.vy x,b,h=>by
  cases b<;>first
   |cases h
   |exact congrArg _ (bx h)
theorem fA : ∀{a b:List AV},j5 a b=true→a=b
 |[],b,h=>by cases b<;>first | rfl | cases h
 |x::r,b,h=>by
  cases b with
  |nil=>cases h
  |cons y s=>
   simp only[j5,dp] at h
   rw[lI h.1,fA h.2]
end
theorem As : ∀{a b:List Value},J0 a b=true→a=b
 |[],b,h=>by cases b<;>first | rfl | cases h
 |x::r,b,h=>by
  cases b with
  |nil=>cases h
  |cons y s=>
   simp only[J0,dp] at h
   rw[J9 h.1,As h.2]
theorem Kb {a b:Value} (h:J1 a b=true):a=b:=by
 unfold J1 at h
 split at h
 · rw[Array.toList_inj.1 (As h)]
 · cases h
theorem yH : ∀{a b:List Value},Af a b=true→a=b
 |[],b,h=>by cases b<;>first | rfl | cases h
 |x::r,b,h=>by
  cases b with
  |nil=>cases h
  |cons y s=>
   simp only[Af,dp] at h
   rw[Kb h.1,yH h.2]
theorem yI : ∀{a b:List Nat},Ag a b=true→a=b
 |[],b,h=>by cases b<;>first | rfl | cases h
 |x::r,b,h=>by
  cases b with
  |nil=>cases h
  |cons y s=>
   simp only[Ag,dp] at h
   rw[bx h.1,yI h.2]
theorem HB {a b:Bool} (h:Ae a b=true):a=b:=by cases a<;>cases b<;>first | rfl | cases h
theorem Kc {a b:aN} (h:FP a b=true):a=b:=by
 unfold FP at h
 split at h<;>first
  |rfl
  |cases h
  |exact congrArg _ (mL h)
  |exact congrArg _ (fA h)
  |(simp only[dp] at h;rw[yH h.1,fA h.2];done)
  |(simp only[dp] at h;rw[bx h.1,fA h.2];done)
  |(simp only[dp] at h;rw[bx h.1,HB h.2.1,fA h.2.2];done)
  |(simp only[dp] at h;rw[As h.1,yI h.2.1,bx h.2.2.1,fA h.2.2.2];done)
theorem mM : ∀{a b:Mem},su a b=true→a=b
 |[],b,h=>by cases b<;>first | rfl | cases h
 |x::r,b,h=>by
  cases b with
  |nil=>cases h
  |cons y s=>
   simp only[su,dp] at h
   rw[Kc h.1,mM h.2]
theorem uE : ∀{a b:List Bool},tX a b=true→a=b
 |[],b,h=>by cases b<;>first | rfl | cases h
 |x::r,b,h=>by
  cases b with
  |nil=>cases h
  |cons y s=>
   simp only[tX,dp] at h
   rw[uE h.2]
   have:=h.1
   cases x<;>cases y<;>first | rfl | cases this
end Go.Am
end
