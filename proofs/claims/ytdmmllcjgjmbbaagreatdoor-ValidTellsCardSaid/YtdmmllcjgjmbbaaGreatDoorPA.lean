import Derived.Orders
import Derived.WalkKit
import Derived.ChangeKeysEq
import Derived.DeepKeys3
open Nat renaming le_of_ble_eq_true→ae,eq_of_beq_eq_true→ag,beq→ai,ble→ar,le_refl→aw,lt_irrefl→a6,mul_le_mul_right→a8,le_trans→ba,beq_eq→bc,lt_or_ge→be,sub_mul→bj,add_assoc→bm,blt→bx,lt_of_succ_lt_succ→cb,zero_lt_succ→cf,succ_lt_succ→ch,mod_eq_of_lt→cp,testBit→c8,noConfusion→c9,not_lt→da,blt_eq→db
open List renaming getD_eq_getElem?_getD→de,getElem?_eq_getElem→df,getElem?_take→di,mem_of_mem_take→dk,mem_of_mem_drop→dp,getElem?_drop→dq,getElem?_eq_some_iff→dt,length_append→du,getElem_map→dv,replicate→dC,take_of_length_le→dE,getElem?_eq_none→dT,length_set→ed,length_drop→ee,length_take→eh,getElem_append→ei,getElem?_map→en,getElem_mem→eQ,drop_take→fb,mem_map→fg,range→fh
open BitVec renaming ofInt→fi
open Go.Instr renaming sliceAt→fl,sliceBounds→ft,indexAt→fv,slice→fw,sureAddr→fx,sliceBound→gg,index→gn,build→gv,sameNow→hX,fieldAt→hZ,field→h9,fill→ib
open Array renaming getElem?_eq_getElem→ic,length_toList→ie,getElem?_eq_none→il,getElem?_push→im,toList_range→iu,toList_inj→iv,toList_map→ja,range→jb
open Bool renaming and_eq_true→jn,or_eq_true→j1,eq_false_iff→j2,not_eq_true'→ka
open Option.some renaming injEq→kb,inj→kc
open Option renaming map_eq_some_iff→kd,map_none→kh,map_some→kl,getD_some→km
open Prod.mk renaming injEq→kp
open Go.Sem renaming run_bind→kv,run_pure→kx
open Go.Result renaming andThen_ok→ky
open Go.Op renaming eqFields→kz,intArith→la
open Go.Builtin renaming len_→lb,firstCells→lh,lenOf→lj,cap_→lk
open Go.Value renaming oneCell'→ln,cells→lr
section
namespace Go.Am
inductive PV where
 |aU
 |sc (v:Value)
 |pp (off:Nat) (cells:List PV)
 |ps (len sz:Nat) (cells:List PV)
 |qQ (t:TypeId) (v:PV)
 deriving Inhabited
inductive AV where
 |az
 |p (v:PV)
 |os (tok:Option Nat) (len sz:Nat) (cells:List PV)
 |mp (b off:Nat)
 |ms (b off len sz:Nat) (cap:Option Nat)
 |fn (f:Fn) (first captured:List AV)
 |agg (cells:List AV)
 |aD (vs:List AV)
 |qQ (t:TypeId) (v:AV)
 |vm (b:Nat)
 |vy (b:Nat)
 deriving Inhabited
inductive eG where
 |map (keys:List Value) (YV:List Nat) (clock:Nat)
 |MQ
 |shut
 |loop (f:FuncId) (ps:Array Tmp) (assign body:Code) (state:LoopState) (pending:Option Code)
 |iter (s:ByteArray) (pos:Nat)
 |gr (t:TypeId) (q:Bool)
 |MR (keys:List Value)
 |opq
 |Wd (s:ByteArray) (pos:Nat) (more:Bool)
 |stk (t:TypeId) (pre:List Value)
 |gb (t:TypeId)
 |smap (ns:List ByteArray)
 deriving Inhabited
inductive bf where
 |free
 |dead
 |pc (cells:List PV)
 |ac (cells:List AV)
 |tok
 |ob (k:eG) (vals:List AV)
 deriving Inhabited
abbrev Mem:=List bf
abbrev zV:=List (Nat×AV)
abbrev qR:=List (Nat×bf)
abbrev sI (k:IntKind) (n:Int):AV:= .p (.sc (.int k n))
abbrev sB (b:Bool):AV:= .p (.sc (.bool b))
def look:zV→Nat→AV
 |[],_=> .az
 |(k,v)::r,i=>cond (ai k i) v (look r i)
def kG:Value→AV
 |.slice none 0 0=> .os none 0 0 []
 |v=> .p (.sc v)
def VW:Value→AV
 |.agg cs=> .agg (cs.toList.map kG)
 |.tuple vs=> .aD (vs.toList.map kG)
 |v=>kG v
def PI:AV→Option Value
 |.p (.sc v)=>some v
 |_=>none
def At:List AV→Option (List Value)
 |[]=>some []
 |a::r=>match PI a,At r with
  |some v,some vs=>some (v::vs)
  |_,_=>none
def MS:AV→Option Value
 |.p (.sc v)=>some v
 |.agg l=>(At l).map fun vs=> .agg vs.toArray
 |.aD l=>(At l).map fun vs=> .tuple vs.toArray
 |_=>none
def pH:AV→Bool
 |.p .aU=>false
 |.p (.sc v)=>v.oneCell'
 |.p _ | .os .. | .mp .. | .ms .. | .fn .. | .qQ .. | .vm _ | .vy _=>true
 |_=>false
def mS:List AV→Bool
 |[]=>true
 |a::r=>pH a&&mS r
def cellsOf:AV→List AV×Bool
 |.agg l=>(l,mS l)
 |v=>([v],pH v)
def MT:AV→Option PV
 |.p v=>some v
 |.os _ len sz cells=>some (.ps len sz cells)
 |_=>none
def qB:List AV→Option (List PV)
 |[]=>some []
 |a::r=>match MT a,qB r with
  |some v,some vs=>some (v::vs)
  |_,_=>none
def vc:List AV→Bool
 |[]=>true
 |.p _::r=>vc r
 |_::_=>false
def Ct:AV→PV
 |.p v=>v
 |_=> .aU
def MU (l:List AV):Option (List PV):=cond (vc l) (some (l.map Ct)) none
def Gz (l:List AV):bf:=
 match MU l with
 |some vs=> .pc vs
 |none=> .ac l
def dJ {α:Type} (l:List α) (off:Nat):List α→List α
 |[]=>l
 |v::r=>dJ (l.set off v) (off+1) r
def qM {α:Type} (d:α) (l:List α) (off:Nat):Nat→List α
 |0=>[]
 |n+1=>l.getD off d::qM d l (off+1) n
def jQ {α:Type} (P:Program):Sem α→Option α
 |.pure a=>some a
 |.program k=>jQ P (k P)
 |.mark _ k=>jQ P k
 |_=>none
def yH (ρ:Operand→AV):List Operand→Bool
 |[]=>true
 |x::r=>(MS (ρ x)).isSome&&yH ρ r
def scalar (P:Program) (ρ:Operand→AV) (o:Oper):Option AV:=
 cond (yH ρ o.op.operands.toList)
  (match jQ P (execOp (fun x=>(MS (ρ x)).getD undef) o) with
    |some (.value v)=>some (VW v)
    |_=>none)
  none
def iU (P:Program) (t:TypeId):Option Nat:=(P.info? t).map (·.size)
def We (P:Program) (t:TypeId):Option Bool:=
 match P.underlying t with
 |some (.struct _) | some (.array _ _)=>some true
 |some _=>some false
 |none=>none
def isInt (k:IntKind):PV→Bool
 |.sc (.int j _)=>j==k
 |_=>false
def au:PV→Int
 |.sc (.int _ n)=>n
 |_=>0
def isBool:PV→Bool
 |.sc (.bool _)=>true
 |_=>false
def aW:PV→Bool
 |.sc (.bool b)=>b
 |_=>false
def isStr:PV→Bool
 |.sc (.string _)=>true
 |_=>false
def aY:PV→ByteArray
 |.sc (.string s)=>s
 |_=> .empty
def aX:PV→Bool
 |.ps .. =>true
 |_=>false
def aq:PV→Nat
 |.ps len _ _=>len
 |_=>0
def aK:PV→Nat
 |.ps _ sz _=>sz
 |_=>0
def aj:PV→List PV
 |.ps _ _ cs=>cs
 |_=>[]
def isOk:PV→Bool
 |.aU=>false
 |_=>true
def ko (d:Option TypeDesc) (c:PV):PV×Bool:=
 match d with
 |some (.int k)=>(.sc (.int k (au c)),isInt k c)
 |some .bool=>(.sc (.bool (aW c)),isBool c)
 |some .string=>(.sc (.string (aY c)),isStr c)
 |some (.slice _)=>(.ps (aq c) (aK c) (aj c),aX c)
 |_=>(c,isOk c)
def cg (d:Option TypeDesc):AV→AV×Bool
 |.p c=>(.p (ko d c).1,(ko d c).2)
 |v=>(v,true)
def zW (P:Program):Nat→TypeId→List (Option TypeDesc)
 |0,_=>[]
 |n+1,t=>match P.underlying t with
  |some (.struct fs)=>fs.toList.flatMap fun f=>zW P n f.type
  |some (.array k e)=>(dC k (zW P n e)).flatten
  |d=>[d]
def ve:List (Option TypeDesc)→List AV→List AV×Bool
 |d::ds,a::r=>((cg d a).1::(ve ds r).1,(cg d a).2&&(ve ds r).2)
 |[],[]=>([],true)
 |_,_=>([],false)
def pI (rd:Nat→bf) (a:AV) (n:Nat):Option (List AV×Bool):=
 match a with
 |.p (.pp off cs)=>some ((qM .aU cs off n).map .p,true)
 |.mp b off=>match rd b with
  |.pc l=>some ((qM .aU l off n).map .p,true)
  |.ac l=>some (qM .az l off n,ar (off+n) l.length)
  |.ob (.gr _ _) l=>some (qM .az l off n,ar (off+n) l.length)
  |.ob (.stk _ pre) l=>some (qM .az l (off-pre.length) n,ar pre.length off&&ar (off-pre.length+n) l.length)
  |_=>none
 |_=>none
def oo (P:Program) (rd:Nat→bf) (t:TypeId) (a:AV):Option (AV×Bool):=
 match We P t,iU P t with
 |some true,some n=>(pI rd a n).map fun r=>(.agg (ve (zW P 20 t) r.1).1,r.2&&(ve (zW P 20 t) r.1).2)
 |some false,some _=>match pI rd a 1 with
  |some ([v],ok)=>some ((cg (P.underlying t) v).1,ok&&(cg (P.underlying t) v).2)
  |_=>none
 |_,_=>none
def GA:AV→AV
 |.os _ len sz cs=> .p (.ps len sz cs)
 |v=>v
def PJ (q:Bool) (vs:List AV):List AV:=cond q (vs.map GA) vs
def vf (b:bf) (off:Nat) (vs:List AV):Option (bf×Bool):=
 match b with
 |.pc l=>match MU vs with
  |some aH=>some (.pc (dJ l off aH),ar (off+vs.length) l.length)
  |none=>some (.ac (dJ (l.map .p) off vs),ar (off+vs.length) l.length)
 |.ac l=>some (.ac (dJ l off vs),ar (off+vs.length) l.length)
 |.ob (.gr t q) l=>some (.ob (.gr t q) (dJ l off (PJ q vs)),ar (off+vs.length) l.length)
 |.ob (.stk t pre) l=>some (.ob (.stk t pre) (dJ l (off-pre.length) vs),ar pre.length off&&ar (off-pre.length+vs.length) l.length)
 |_=>none
abbrev nN:=Option (AV×qR×Bool)
def vg (P:Program) (rd:Nat→bf) (t:TypeId) (a v:AV):nN:=
 match a,iU P t with
 |.mp b off,some n=>match vf (rd b) off (cellsOf v).1 with
  |some (b',ok)=>some (.aD [],[(b,b')],ok&&(cellsOf v).2&&ai (cellsOf v).1.length n)
  |none=>none
 |_,_=>none
def checked (l:List AV):Option (List AV):=cond (mS l) (some l) none
def zeroCells (P:Program) (t:TypeId):Option (List AV):=
 match(P.info? t).bind (·.zero) with
 |some (.agg cs)=>checked (cs.toList.map kG)
 |some v=>checked [kG v]
 |none=>none
def Fg (P:Program) (bM:Nat) (t:TypeId):nN:=
 (zeroCells P t).map fun l=>(.mp bM 0,[(bM,Gz l)],true)
def Au (P:Program) (bM:Nat) (t:TypeId):nN:=
 (zeroCells P t).map fun l=>(.mp bM 0,[(bM,.ob (.gr t false) l)],true)
def PK (bM:Nat) (v:AV):nN:=some (.mp bM 0,[(bM,Gz (cellsOf v).1)],(cellsOf v).2)
def yI (place:Nat→Option (Nat×Nat)) (cells:List AV):List (Nat×AV)→Option (List AV×Bool)
 |[]=>some (cells,true)
 |(i,v)::r=>match place i with
  |some (off,size)=>match yI place (dJ cells off (cellsOf v).1) r with
   |some (cs,ok)=>some (cs,(cellsOf v).2&&ai (cellsOf v).1.length size&&ar (off+size) cells.length&&ok)
   |none=>none
  |none=>none
def placesOf (P:Program):List Field→Option (List (Nat×Nat))
 |[]=>some []
 |f::r=>match iU P f.type,placesOf P r with
  |some n,some l=>some ((f.offset,n)::l)
  |_,_=>none
def zX (P:Program) (t:TypeId) (parts:List (Nat×AV)):Option (AV×Bool):=
 match zeroCells P t,P.underlying t with
 |some z,some (.struct fields)=>match placesOf P fields.toList with
  |some pl=>(yI (fun i=>pl[i]?) z parts).map fun r=>(.agg r.1,r.2)
  |none=>none
 |some z,some (.array _ elem)=>match iU P elem with
  |some size=>(yI (fun i=>some (i*size,size)) z parts).map fun r=>(.agg r.1,r.2)
  |none=>none
 |_,_=>none
def dQ {α:Type} (z:List α):Nat→List α
 |0=>[]
 |n+1=>z++dQ z n
def zeros (P:Program) (elem:TypeId) (n:Nat):Option (List AV):=
 match iU P elem,zeroCells P elem with
 |some size,some z=>cond (ai z.length size&&ar 1 size) (match z with
  |[v]=>some (dC n v)
  |z=>some (dQ z n)) none
 |_,_=>none
def PL (P:Program) (elem:TypeId) (n:Nat):Option bf:=
 match iU P elem,zeroCells P elem with
 |some size,some z=>cond (ai z.length size&&ar 1 size) (match MU z with
  |some [v]=>some (.pc (dC n v))
  |some z=>some (.pc (dQ z n))
  |none=>some (.ac (dQ z n))) none
 |_,_=>none
def Jz (P:Program) (elem:TypeId) (wr:Bool) (cells:List AV):Option (List PV):=
 match wr,P.underlying elem with
 |true,some (.int .u8)=>none
 |_,_=>qB cells
def pJ (P:Program) (wr:Bool) (bM:Nat) (t:TypeId) (len:Nat) (parts:List (Nat×AV)):nN:=
 match P.underlying t with
 |some (.slice elem)=>match iU P elem,zeros P elem len with
  |some size,some z=>match yI (fun i=>some (i*size,size)) z parts with
   |some (cells,ok)=>match wr,Jz P elem wr cells with
    |false,some aH=>some (.os none len size aH,[],ok&&ar (len*size) 16777216)
    |true,some aH=>some (.ms bM 0 len size none,[(bM,.ob (.gr elem true) (aH.map .p))],ok&&ar (len*size) 16777216)
    |_,none=>some (.ms bM 0 len size (some len),[(bM,Gz cells)],ok&&ar (len*size) 16777216)
   |none=>none
  |_,_=>none
 |_=>none
def eY:Nat:=70368744177664
def qT (P:Program) (bM:Nat) (t:TypeId) (len cap:AV):nN:=
 match P.underlying t,len,cap with
 |some (.slice elem),.p (.sc (.int _ l)),.p (.sc (.int _ c))=>match P.info? elem,PL P elem c.toNat with
  |some info,some cm=>some (.ms bM 0 l.toNat info.size (some c.toNat),[(bM,cm)],
    decide (0≤l)&&decide (l≤c)&&ar c.toNat eY&&ar (info.bytes*c.toNat) eY)
  |_,_=>none
 |_,_,_=>none
set_option linter.unusedVariables false in
def uu (P:Program) (t:TypeId) (len cap:AV):nN:=none
def pK:AV→Nat→Option AV
 |.p (.pp off cs),n=>some (.p (.pp (off+n) cs))
 |.mp b off,n=>some (.mp b (off+n))
 |_,_=>none
def nQ (P:Program) (t:TypeId) (x:AV) (f:Nat):Option AV:=
 match P.underlying t with
 |some (.struct fields)=>match fields[f]? with
  |some fd=>match iU P fd.type with
   |some n=>cond (ar 1 n) (pK x fd.offset) none
   |none=>none
  |none=>none
 |_=>none
def partOf (P:Program) (t:TypeId) (cs:List AV) (off:Nat):Option (AV×Bool):=
 match We P t,iU P t with
 |some true,some n=>some (.agg (qM .az cs off n),ar (off+n) cs.length)
 |some false,some _=>some (cs.getD off .az,bx off cs.length)
 |_,_=>none
def zY (P:Program) (t:TypeId) (x:AV) (f:Nat):Option (AV×Bool):=
 match P.underlying t,x with
 |some (.struct fields),.agg cs=>match fields[f]? with
  |some fd=>partOf P fd.type cs fd.offset
  |none=>none
 |_,_=>none
def bE (i:Int) (len:Nat):Bool:=decide (0≤i)&&decide (i<len)
def nR (P:Program) (t:TypeId) (x i:AV):Option (AV×Bool):=
 match i,P.underlying t with
 |.p (.sc (.int _ n)),some (.array len elem)=>match iU P elem with
  |some size=>(pK x (n.toNat*size)).map fun v=>(v,bE n len)
  |none=>none
 |.p (.sc (.int _ n)),some (.slice elem)=>match iU P elem,x with
  |some size,.p (.ps len sz cs)=>some (.p (.pp (n.toNat*size) cs),bE n len&&ai sz size)
  |some size,.os _ len sz cs=>some (.p (.pp (n.toNat*size) cs),bE n len&&ai sz size)
  |some size,.ms b off len sz _=>some (.mp b (off+n.toNat*size),bE n len&&ai sz size)
  |_,_=>none
 |_,_=>none
def zZ (P:Program) (t:TypeId) (x i:AV):Option (AV×Bool):=
 match x,i with
 |.agg cs,.p (.sc (.int _ n))=>match P.underlying t with
  |some (.array len elem)=>match iU P elem,partOf P elem cs (n.toNat*(iU P elem).getD 0) with
   |some _,some (v,ok)=>some (v,bE n len&&ok)
   |_,_=>none
  |_=>none
 |.p (.sc (.string s)),.p (.sc (.int _ n))=>match P.underlying t with
  |some .string=>some (sI .u8 (s.data.toList.getD n.toNat 0).toNat,bE n s.data.toList.length)
  |_=>none
 |_,_=>none
def bound (ρ:Operand→AV) (x:Option Operand) (dflt:Nat):Option (Nat×Bool):=
 match x with
 |none=>some (dflt,true)
 |some x=>match ρ x with
  |.p (.sc (.int _ n))=>some (n.toNat,decide (0≤n))
  |_=>none
def cut {α:Type} (cs:List α) (lo hi:Option Nat):List α:=
 match lo,hi with
 |none,none=>cs
 |some l,none=>cs.drop l
 |none,some h=>cs.take h
 |some l,some h=>(cs.take h).drop l
def times (x:Option Operand) (n sz:Nat):Option Nat:=x.map fun _=>n*sz
def sN (P:Program) (ρ:Operand→AV) (t:TypeId) (x:AV) (low high mx:Option Operand):Option (AV×Bool):=
 match P.underlying t with
 |some (.array n elem)=>match iU P elem,bound ρ low 0,bound ρ high n,mx,x with
  |some size,some (l,a),some (h,b),none,.mp i off=>some (.ms i (cond (ai n l) off (off+l*size)) (h-l) size (some (n-l)),a&&b&&ar l h&&ar h n)
  |_,_,_,_,_=>none
 |some (.slice elem)=>match iU P elem,bound ρ low 0,x with
  |some size,some (l,a),.p (.ps len sz cs)=>match bound ρ high len,mx with
   |some (h,b),none=>some (.p (.ps (h-l) size (cut cs (times low l size) (times high h size))),a&&b&&ar l h&&ar h len&&ai sz size)
   |_,_=>none
  |some size,some (l,a),.os tok len sz cs=>match bound ρ high len,mx with
   |some (h,b),none=>match high with
    |none=>some (.os tok (h-l) size (cut cs (times low l size) none),a&&b&&ar l h&&(ai sz size||(ai len 0&&(ar 1 size&&tok.isNone))))
    |some _=>match tok,ai h len with
     |none,true=>some (.os none (h-l) size (cut cs (times low l size) (some (h*size))),a&&b&&ar l h&&ar h len&&(ai sz size||(ai len 0&&ar 1 size)))
     |_,_=>some (.p (.ps (h-l) size (cut cs (times low l size) (some (h*size)))),a&&b&&ar l h&&ar h len&&(ai sz size||(ai len 0&&ar 1 size)))
   |_,_=>none
  |some size,some (l,a),.ms i off len sz none=>match bound ρ high len,mx with
   |some (h,b),none=>some (.ms i (off+l*size) (h-l) size none,a&&b&&ar l h&&ar h len&&ai sz size&&(ai l 0||bx l len))
   |_,_=>none
  |some size,some (l,a),.ms i off len sz (some cap)=>match bound ρ high len,mx with
   |some (h,b),none=>some (.ms i (cond (ai cap l) off (off+l*size)) (h-l) size (some (cap-l)),a&&b&&ar l h&&ar h cap&&ai sz size)
   |_,_=>none
  |_,_,_=>none
 |some .string=>match bound ρ low 0,x,mx with
  |some (l,a),.p (.sc (.string s)),none=>match bound ρ high s.data.toList.length with
   |some (h,b)=>some (.p (.sc (.string (s.extract l h))),a&&b&&ar l h&&ar h s.data.toList.length)
   |none=>none
  |_,_,_=>none
 |_=>none
def byteOf:PV→UInt8
 |.sc (.int .u8 n)=>UInt8.ofNat n.toNat
 |_=>0
def isByte:PV→Bool
 |.sc (.int .u8 _)=>true
 |_=>false
def jx (b:UInt8):PV:= .sc (.int .u8 b.toNat)
def contents (rd:Nat→bf) (sz:Nat):AV→Option (Nat×List PV×Bool)
 |.p (.ps len s cs)=>some (len,cs,ai s sz||(ai len 0&&ar 1 sz))
 |.os _ len s cs=>some (len,cs,ai s sz||(ai len 0&&ar 1 sz))
 |.ms b off len s (some _)=>match rd b with
  |.pc l=>some (len,(l.drop off).take (len*sz),ai s sz&&ar (off+len*sz) l.length)
  |.ac l=>(qB ((l.drop off).take (len*sz))).map fun aH=>(len,aH,ai s sz&&ar (off+len*sz) l.length)
  |.ob (.gr _ true) l=>some (len,((l.drop off).take (len*sz)).map Ct,vc ((l.drop off).take (len*sz))&&(ai s sz&&ar (off+len*sz) l.length))
  |.ob (.gr _ false) l=>(qB ((l.drop off).take (len*sz))).map fun aH=>(len,aH,ai s sz&&ar (off+len*sz) l.length)
  |_=>none
 |.ms b off len s none=>match rd b with
  |.ob (.gr _ true) l=>some (len,((l.drop off).take (len*sz)).map Ct,vc ((l.drop off).take (len*sz))&&(ai s sz&&ar (off+len*sz) l.length))
  |.ob (.gr _ false) l=>(qB ((l.drop off).take (len*sz))).map fun aH=>(len,aH,ai s sz&&ar (off+len*sz) l.length)
  |.ob (.gb _) l=>some (len,((l.drop off).take (len*sz)).map Ct,vc ((l.drop off).take (len*sz))&&(ai s sz&&ar (off+len*sz) l.length))
  |_=>none
 |.p (.sc (.string s))=>some (s.data.toList.length,s.data.toList.map jx,ai sz 1)
 |_=>none
def convertOp (P:Program) (rd:Nat→bf) (bM:Nat) (ρ:Operand→AV) (o:Oper) (src dst:TypeId) (x:AV):nN:=
 match P.underlying dst,x with
 |some (.int k),.p (.sc (.int _ n))=>match P.underlying src with
  |some _=>some (sI k (k.wrap n),[],true)
  |none=>none
 |some .string,.p (.sc (.string s))=>match P.underlying src with
  |some .string=>some (.p (.sc (.string s)),[],true)
  |_=>none
 |some (.slice e),.p (.sc (.string s))=>match P.underlying src,P.underlying e with
  |some .string,some (.int .u8)=>some (.os (some bM) s.data.toList.length 1 (s.data.toList.map jx),[(bM,.tok)],true)
  |_,_=>none
 |some .string,x=>match P.underlying src with
  |some (.slice e)=>match P.underlying e with
   |some (.int .u8)=>match contents rd 1 x with
    |some (_,aH,ok)=>some (.p (.sc (.string ⟨(aH.map byteOf).toArray⟩)),[],ok&&aH.all isByte)
    |none=>none
   |_=>none
  |_=>none
 |_,_=>(scalar P ρ o).map fun v=>(v,[],true)
def nS:AV→Bool
 |.p (.sc (.pointer none)) | .p (.sc .nilFunc) | .p (.sc .nilIface)=>true
 |_=>false
def nT:AV→Bool
 |.p (.pp ..) | .mp .. | .fn .. | .p (.qQ ..) | .qQ .. =>true
 |_=>false
def JA (op:BinOp) (k:IntKind) (x:Int) (yk:IntKind) (y:Int):Option (Value×Bool):=
 match op with
 |.add=>some (.int k (k.wrap (x+y)),k==yk)
 |.sub=>some (.int k (k.wrap (x-y)),k==yk)
 |.mul=>some (.int k (k.wrap (x*y)),k==yk)
 |.quo=>some (.int k (k.wrap (x.tdiv y)),k==yk && !(y==0))
 |.rem=>some (.int k (x.tmod y),k==yk && !(y==0))
 |.and=>some (.int k (k.wrap (fi k.bits x&&&fi k.bits y).toNat),k==yk)
 |.or=>some (.int k (k.wrap (fi k.bits x|||fi k.bits y).toNat),k==yk)
 |.xor=>some (.int k (k.wrap (fi k.bits x ^^^ fi k.bits y).toNat),k==yk)
 |.andNot=>some (.int k (k.wrap (fi k.bits x &&& ~~~fi k.bits y).toNat),k==yk)
 |.shl=>some (.int k (k.wrap (x*2 ^ min y.toNat k.bits)),decide (0≤y))
 |.shr=>some (.int k (x.fdiv (2 ^ min y.toNat k.bits)),decide (0≤y))
 |.eql=>some (.bool (x==y),k==yk)
 |.neq=>some (.bool (x != y),k==yk)
 |.lss=>some (.bool (x<y),k==yk)
 |.leq=>some (.bool (x≤y),k==yk)
 |.gtr=>some (.bool (x>y),k==yk)
 |.geq=>some (.bool (x≥y),k==yk)
def JB (op:BinOp) (x y:ByteArray):Option (Value×Bool):=
 match op with
 |.add=>some (.string (x++y),ar (x.data.toList.length+y.data.toList.length) eY)
 |.eql=>some (.bool (x.data.toList==y.data.toList),true)
 |.neq=>some (.bool (!(x.data.toList==y.data.toList)),true)
 |.lss=>some (.bool (Op.bytesLess x.data.toList y.data.toList),true)
 |_=>none
def jR (P:Program):Nat→List Field→List AV→List AV→Option Bool
 |_,[],[],[]=>some true
 |i,f::fs,x::xs,y::ys=>match P.underlying f.type,x,y with
  |some (.int _),.p (.sc (.int k a)),.p (.sc (.int k' b))=>cond (k==k'&&ai f.offset i&&f.name != "_" && P.plainKey f.type) ((jR P (i+1) fs xs ys).map fun r=>(a==b)&&r) none
  |some .bool,.p (.sc (.bool a)),.p (.sc (.bool b))=>cond (ai f.offset i&&f.name != "_" && P.plainKey f.type) ((jR P (i+1) fs xs ys).map fun r=>(a==b)&&r) none
  |some .string,.p (.sc (.string a)),.p (.sc (.string b))=>cond (ai f.offset i&&f.name != "_" && P.plainKey f.type) ((jR P (i+1) fs xs ys).map fun r=>(a.data.toList==b.data.toList)&&r) none
  |_,_,_=>none
 |_,_,_,_=>none
def GB (P:Program) (t:TypeId) (x y:AV):Option Bool:=match x,y with
 |.agg xs,.agg ys=>match P.underlying t with
  |some (.struct fs)=>cond (!P.stoodInHeld t && !P.eqGuardType P.depth t) (jR P 0 fs.toList xs ys) none
  |_=>none
 |_,_=>none
def LD (P:Program) (o:Oper) (x y:AV):Option Bool:=match o.op with
 |.binOp _ t _ _ _=>GB P t x y
 |_=>none
def vh (P:Program) (ρ:Operand→AV) (o:Oper) (op:BinOp) (x y:AV):Option (AV×Bool):=
 match x,y with
 |.p (.sc (.int k a)),.p (.sc (.int k' b))=>(JA op k a k' b).map fun r=>(.p (.sc r.1),r.2)
 |.p (.sc (.string a)),.p (.sc (.string b))=>(JB op a b).map fun r=>(.p (.sc r.1),r.2)
 |x,y=>match op with
  |.eql=>match LD P o x y with
   |some b=>some (sB b,true)
   |none=>cond ((nS x&&nT y)||(nT x&&nS y)) none ((scalar P ρ o).map fun v=>(v,true))
  |.neq=>match LD P o x y with
   |some b=>some (sB !b,true)
   |none=>cond ((nS x&&nT y)||(nT x&&nS y)) none ((scalar P ρ o).map fun v=>(v,true))
  |_=>none
def Av (P:Program) (ρ:Operand→AV) (o:Oper) (op:UnOp) (x:AV):Option (AV×Bool):=
 match op,x with
 |.not,.p (.sc (.bool b))=>some (sB !b,true)
 |.neg,.p (.sc (.int k n))=>some (sI k (k.wrap (0-n)),true)
 |_,_=>(scalar P ρ o).map fun v=>(v,true)
def sO (rd:Nat→bf) (bM:Nat):Option Nat→Option qR
 |none=>some [(bM,.tok)]
 |some t=>match rd t with
  |.tok=>some [(t,.dead),(bM,.tok)]
  |_=>none
def lB (P:Program) (rd:Nat→bf) (bM:Nat) (argTypes:Array TypeId) (s x:AV):nN:=
 match argTypes[0]?,argTypes[1]? with
 |some sType,some xType=>match P.underlying sType,P.underlying xType with
  |some (.slice _),some (.int _)=>none
  |some (.slice elem),some _=>match P.info? elem,zeroCells P elem with
   |some info,some z=>match contents rd info.size x,s with
    |some (n,aH,ok),.os tok len sz cs=>(sO rd bM tok).map fun us=>(.os (some bM) (len+n) info.size (cs++aH),us,
      ok&&(ai sz info.size||(ai len 0&&tok.isNone))&&ar 1 info.size&&ai z.length info.size&&ar ((len+n)*info.bytes) eY&&ar (len+n) eY)
    |_,_=>none
   |_,_=>none
  |_,_=>none
 |_,_=>none
def mN:bf→Option (List AV)
 |.pc l=>some (l.map .p)
 |.ac l=>some l
 |.ob (.gr _ _) l=>some l
 |_=>none
def fU (rd:Nat→bf) (sz:Nat) (x:AV):Option (Nat×List AV×Bool):=
 match contents rd sz x with
 |some (n,aH,ok)=>some (n,aH.map .p,ok)
 |none=>match x with
  |.ms b off len s (some _)=>match rd b with
   |.ac l=>some (len,((l.drop off).take (len*sz)).map GA,ai s sz&&ar (off+len*sz) l.length)
   |_=>none
  |_=>none
def mT (rd:Nat→bf) (sz:Nat) (x:AV):Bool:=(contents rd sz x).isSome
def acG:bf→Bool
 |.pc _=>true
 |.ob (.gr _ q) _=>q
 |_=>false
def acH:Option TypeDesc→Bool
 |some (.int .u8)=>true
 |_=>false
def gW (P:Program) (rd:Nat→bf) (bM:Nat) (argTypes:Array TypeId) (s x:AV):nN:=
 match argTypes[0]?,argTypes[1]? with
 |some sType,some xType=>match P.underlying sType,P.underlying xType with
  |some (.slice _),some (.int _)=>none
  |some (.slice elem),some _=>match P.info? elem,zeroCells P elem with
   |some info,some z=>match fU rd info.size x with
    |some (n,aH,ok)=>
     let fits:=fun(len:Nat)=>ok&&(ar 1 info.size&&(ai z.length info.size&&(ar ((len+n)*info.bytes) eY&&ar (len+n) eY)))
     match s with
     |.ms b 0 len sz none=>match rd b with
      |.ob (.gr t q) l=>some (.ms bM 0 (len+n) sz none,[(b,.dead),(bM,.ob (.gr t (q&&mT rd info.size x)) (l.take (len*sz)++aH))],fits len&&(ai sz info.size&&(ar (len*sz) l.length&&ai t elem)))
      |_=>none
     |.os none len sz cells=>match ai n 0 with
      |true=>some (.os none len sz cells,[],fits len)
      |false=>match acH (P.underlying elem) with
       |true=>none
       |false=>some (.ms bM 0 (len+n) info.size none,[(bM,.ob (.gr elem (mT rd info.size x)) (cells.map .p++aH))],fits len&&(ai sz info.size||(ai len 0&&ar 1 info.size)))
     |.ms b 0 len sz (some cap)=>match mN (rd b) with
      |some l=>cond (ar (len+n) cap)
       (match vf (rd b) (len*sz) (aH) with
         |some (b',ok')=>some (.ms b 0 (len+n) sz (some cap),[(b,b')],fits len&&(ok'&&ai sz info.size))
         |none=>none)
       (some (.ms bM 0 (len+n) sz none,[(bM,.ob (.gr elem (acG (rd b)&&mT rd info.size x)) (l.take (len*sz)++aH))],fits len&&(ai sz info.size&&ar (len*sz) l.length)))
      |none=>none
     |_=>none
    |none=>none
   |_,_=>none
  |_,_=>none
 |_,_=>none
def qU:AV→AV
 |.p (.ps 0 0 _)=> .os none 0 0 []
 |v=>v
def ZA:AV→Bool
 |.ms .. =>true
 |_=>false
set_option linter.unusedVariables false in
def xy (P:Program) (rd:Nat→bf) (argTypes:Array TypeId) (d s:AV):nN:=none
def PM (P:Program) (argTypes:Array TypeId) (x:AV):Option AV:=
 match argTypes[0]? with
 |some t=>match P.underlying t,x with
  |some (.slice _),.p (.ps len _ _)=>some (sI .i64 len)
  |some (.slice _),.os _ len _ _=>some (sI .i64 len)
  |some (.slice _),.ms _ _ len _ _=>some (sI .i64 len)
  |some .string,.p (.sc (.string s))=>some (sI .i64 s.data.toList.length)
  |some (.array n _),_=>some (sI .i64 n)
  |_,_=>none
 |none=>none
def PN (P:Program) (argTypes:Array TypeId) (x:AV):Option AV:=
 match argTypes[0]? with
 |some t=>match P.underlying t,x with
  |some (.slice _),.ms _ _ _ _ (some cap)=>some (sI .i64 cap)
  |some (.slice _),.os none len _ _=>some (sI .i64 len)
  |some (.slice _),.p (.ps 0 0 _)=>some (sI .i64 0)
  |_,_=>none
 |none=>none
set_option linter.unusedVariables false in
def qV (P:Program) (t:TypeId) (x:AV):Option AV:=none
def mU (P:Program) (ρ:Operand→AV) (o:Oper) (x:AV):Option AV:=
 match x with
 |.p (.pp off cs)=>some (.p (.pp off cs))
 |.mp b off=>some (.mp b off)
 |.fn (.func f) a b=>some (.fn (.func f) a b)
 |_=>scalar P ρ o
def mw (r:Option AV):nN:=r.map fun v=>(v,[],true)
def jS (r:Option (AV×Bool)):nN:=r.map fun v=>(v.1,[],v.2)
def Fh (j k:IntKind):Bool:=j==k
def z6:List UInt8→List UInt8→Bool
 |[],[]=>true
 |a::r,b::s=>ai a.toNat b.toNat&&z6 r s
 |_,_=>false
def fV:Bool→Bool→Bool
 |true,true=>true
 |false,false=>true
 |_,_=>false
def GC:Value→Value→Bool
 |.int j a,.int k b=>Fh j k&&decide (a=b)
 |.bool a,.bool b=>fV a b
 |.string a,.string b=>z6 a.data.toList b.data.toList
 |.pointer none,.pointer none=>true
 |.slice none 0 0,.slice none 0 0=>true
 |.map none,.map none=>true
 |.nilFunc,.nilFunc=>true
 |.nilIface,.nilIface=>true
 |_,_=>false
def PO:List Value→List Value→Bool
 |[],[]=>true
 |a::r,b::s=>GC a b&&PO r s
 |_,_=>false
mutual
def oF:PV→PV→Bool
 |.aU,.aU=>true
 |.sc v,.sc u=>GC v u
 |.pp o l,.pp q m=>ai o q&&Aw l m
 |.ps n z l,.ps k y m=>ai n k&&(ai z y&&Aw l m)
 |.qQ t v,.qQ s u=>ai t s&&oF v u
 |_,_=>false
def Aw:List PV→List PV→Bool
 |[],[]=>true
 |a::r,b::s=>oF a b&&Aw r s
 |_,_=>false
end
def eqO:Option Nat→Option Nat→Bool
 |none,none=>true
 |some a,some b=>ai a b
 |_,_=>false
mutual
def dy:AV→AV→Bool
 |.az,.az=>true
 |.p v,.p u=>oF v u
 |.os t n z l,.os s k y m=>eqO t s&&(ai n k&&(ai z y&&Aw l m))
 |.mp b o,.mp c q=>ai b c&&ai o q
 |.ms b o n z k,.ms c q m y j=>ai b c&&(ai o q&&(ai n m&&(ai z y&&eqO k j)))
 |.fn (.func f) l m,.fn (.func g) k n=>ai f g&&(mV l k&&mV m n)
 |.agg l,.agg m=>mV l m
 |.aD l,.aD m=>mV l m
 |.qQ t v,.qQ s u=>ai t s&&dy v u
 |.vm b,.vm c=>ai b c
 |.vy b,.vy c=>ai b c
 |_,_=>false
def mV:List AV→List AV→Bool
 |[],[]=>true
 |a::r,b::s=>dy a b&&mV r s
 |_,_=>false
end
def PR (a b:Value):Bool:=
 match a,b with
 |.agg x,.agg y=>PO x.toList y.toList
 |_,_=>false
def Fi:List Value→List Value→Bool
 |[],[]=>true
 |a::r,b::s=>PR a b&&Fi r s
 |_,_=>false
def Fj:List Nat→List Nat→Bool
 |[],[]=>true
 |a::r,b::s=>ai a b&&Fj r s
 |_,_=>false
def LF:bf→bf→Bool
 |.free,.free=>true
 |.dead,.dead=>true
 |.tok,.tok=>true
 |.pc l,.pc m=>Aw l m
 |.ac l,.ac m=>mV l m
 |.ob (.gr t q) l,.ob (.gr u r) m=>ai t u&&(fV q r&&mV l m)
 |.ob (.gb t) l,.ob (.gb u) m=>ai t u&&mV l m
 |.ob .opq [],.ob .opq []=>true
 |.ob (.map ks bs c) l,.ob (.map js ds d) m=>PO ks js&&(Fj bs ds&&(ai c d&&mV l m))
 |.ob (.MR ks) l,.ob (.MR js) m=>Fi ks js&&mV l m
 |_,_=>false
def qW:Mem→Mem→Bool
 |[],[]=>true
 |a::r,b::s=>LF a b&&qW r s
 |_,_=>false
def LG (P:Program) (t:TypeId):Option AV:=match P.info? t with
 |some i=>i.zero.map VW
 |none=>none
def plainKey:TypeDesc→Value→Bool
 |.int k,.int k' _=>k==k'
 |.string,.string _=>true
 |.bool,.bool _=>true
 |_,_=>false
def tT (d:TypeDesc) (k:Value):List Value→List AV→List Nat→Option (Option AV)
 |[],[],[]=>some none
 |k'::ks,v::vs,_::bs=>match hX d k k' with
  |some true=>some (some v)
  |some false=>tT d k ks vs bs
  |none=>none
 |_,_,_=>none
def mapOf (rd:Nat→bf):AV→Option (List Value×List AV×List Nat)
 |.p (.sc (.map none))=>some ([],[],[])
 |.vm b=>match rd b with
  |.ob (.map ks bs _) vs=>some (ks,vs,bs)
  |_=>none
 |_=>none
def YW (P:Program) (kt:TypeId):Bool:=
 (match P.underlying kt with | some (.array _ _) | some (.struct _)=>true | _=>false)&&(P.keyTypeAt 20 kt&&P.tiled 20 kt)
def JC (rd:Nat→bf):AV→Option (List Value×List AV)
 |.vm b=>match rd b with
  |.ob (.MR ks) vs=>some (ks,vs)
  |_=>none
 |_=>none
set_option linter.unusedVariables false in
def z7 (P:Program) (rd:Nat→bf) (t:TypeId) (m k:AV) (ok:Bool):Option AV:=none
set_option linter.unusedVariables false in
def kH (P:Program) (rd:Nat→bf) (t:TypeId) (m k v:AV):nN:=none
def C8 (P:Program) (bM:Nat) (t:TypeId):nN:=
 match P.underlying t with
 |some (.map kt _)=>match YW P kt with
  |true=>some (.vm bM,[(bM,.ob (.MR []) [])],true)
  |false=>some (.vm bM,[(bM,.ob (.map [] [] 0) [])],true)
 |_=>some (.vm bM,[(bM,.ob (.map [] [] 0) [])],true)
def oG (P:Program) (rd:Nat→bf) (t:TypeId) (m k:AV) (ok:Bool):Option AV:=
 match k with
 |.p (.sc key)=>match P.underlying t with
  |some (.map kt et)=>match P.underlying kt,LG P et,mapOf rd m with
   |some d,some z,some (ks,vs,bs)=>cond (plainKey d key) (match tT d key ks vs bs with
    |some (some v)=>some (cond ok (.aD [v,sB true]) v)
    |some none=>some (cond ok (.aD [z,sB false]) z)
    |none=>none) none
   |_,_,_=>none
  |_=>none
 |.agg _=>z7 P rd t m k ok
 |_=>none
def Ax (d:TypeDesc) (k:Value) (v:AV):List Value→List AV→List Nat→Option (Option (List AV))
 |[],[],[]=>some none
 |k'::ks,u::vs,_::bs=>match hX d k k' with
  |some true=>some (some (v::vs))
  |some false=>match Ax d k v ks vs bs with
   |some (some l)=>some (some (u::l))
   |some none=>some none
   |none=>none
  |none=>none
 |_,_,_=>none
def jE (P:Program) (rd:Nat→bf) (t:TypeId) (m k v:AV):nN:=
 match m,k with
 |.vm b,.p (.sc key)=>match P.underlying t,rd b with
  |some (.map kt _),.ob (.map ks bs clock) vs=>match P.underlying kt with
   |some d=>cond (plainKey d key) (match Ax d key v ks vs bs with
    |some (some l)=>some (.aD [],[(b,.ob (.map ks bs clock) l)],true)
    |some none=>some (.aD [],[(b,.ob (.map (ks++[key]) (bs++[clock]) (clock+1)) (vs++[v]))],true)
    |none=>none) none
   |none=>none
  |_,_=>none
 |.vm _,.agg _=>kH P rd t m k v
 |_,_=>none
def fy (ns:List ByteArray) (s:ByteArray):Bool:=ns.any fun x=>x.data.toList==s.data.toList
def xz (ns:List ByteArray) (s:ByteArray):List ByteArray:=cond (fy ns s) ns (ns++[s])
def uw (rd:Nat→bf):AV→Option (List ByteArray)
 |.vm b=>match rd b with
  |.ob (.smap ns) _=>some ns
  |_=>none
 |_=>none
def vi (P:Program) (t:TypeId):Bool:=match P.underlying t with
 |some (.map kt et)=>match P.underlying kt,LG P et with
  |some .string,some (.p (.sc (.bool false)))=>true
  |_,_=>false
 |_=>false
def Ay (P:Program) (bM:Nat) (t:TypeId):nN:=
 match vi P t with
 |true=>some (.vm bM,[(bM,.ob (.smap []) [])],true)
 |false=>none
def xA (P:Program) (rd:Nat→bf) (t:TypeId) (m k:AV) (ok:Bool):Option AV:=
 match uw rd m with
 |some ns=>match k with
  |.p (.sc (.string s))=>match vi P t with
   |true=>some (cond ok (.aD [sB (fy ns s),sB (fy ns s)]) (sB (fy ns s)))
   |false=>none
  |_=>none
 |none=>oG P rd t m k ok
def Az (P:Program) (rd:Nat→bf) (t:TypeId) (m k v:AV):nN:=
 match uw rd m with
 |some ns=>match m,k,v with
  |.vm b,.p (.sc (.string s)),.p (.sc (.bool true))=>match vi P t with
   |true=>some (.aD [],[(b,.ob (.smap (xz ns s)) [])],true)
   |false=>none
  |_,_,_=>none
 |none=>jE P rd t m k v
def isNil:AV→Bool
 |.p (.sc (.pointer none)) | .p (.sc (.map none)) | .p (.sc .nilFunc) | .p (.sc .nilIface)=>true
 |_=>false
def isRef:AV→Bool
 |.p (.pp ..) | .mp .. | .vm _ | .fn .. | .p (.qQ ..) | .qQ .. =>true
 |_=>false
def LH (x y:AV):Bool:=(isNil x&&isRef y)||(isRef x&&isNil y)
set_option linter.unusedVariables false in
def LI (P:Program) (op:BinOp) (t:TypeId) (x y:AV):nN:=none
def Fk:AV→AV→Bool
 |.mp b o,.mp c q=>ai b c&&ai o q
 |_,_=>false
set_option linter.unusedVariables false in
def sQ (P:Program) (op:BinOp) (t:TypeId):nN:=none
def Fl:Operand→Bool
 |.const (.slice none _ _)=>true
 |_=>false
def LJ:AV→Option Bool
 |.p (.ps len sz _)=>cond (ar 1 len) (some false) (cond (ai sz 0) (some true) none)
 |.os _ len sz _=>cond (ar 1 len) (some false) (cond (ai sz 0) (some true) none)
 |.ms .. =>some false
 |_=>none
def z8 (P:Program) (op:BinOp) (t:TypeId) (x:AV):nN:=
 match P.underlying t with
 |some (.slice _)=>match LJ x,op with
  |some b,.eql=>some (sB b,[],true)
  |some b,.neq=>some (sB (!b),[],true)
  |_,_=>none
 |_=>none
def Fm (P:Program) (bM:Nat) (t:TypeId) (x:AV):nN:=
 match P.underlying t,x with
 |some .string,.p (.sc (.string s))=>some (.mp bM 0,[(bM,.ob (.iter s 0) [])],true)
 |_,_=>none
def JD (rd:Nat→bf) (it:AV):Bool→nN
 |true=>match it with
  |.mp b 0=>match rd b with
   |.ob (.iter s pos) _=>match bx pos s.size with
    |true=>match Utf8.decode s pos with
     |(c,width)=>some (.aD [sB true,sI .i64 pos,sI .i32 c],[(b,.ob (.iter s (pos+width)) [])],true)
    |false=>some (.aD [sB false],[],true)
   |.ob (.Wd s pos more) _=>match more with
    |true=>some (.aD [sB true,sI .i64 pos,sI .i32 (Utf8.decode s pos).1],[(b,.ob (.iter s (pos+(Utf8.decode s pos).2)) [])],true)
    |false=>some (.aD [sB false],[],true)
   |_=>none
  |_=>none
 |false=>none
set_option linter.unusedVariables false in
def qX (x:AV):nN:=none
def ZB (rd:Nat→bf):AV→Option (Nat×TypeId×List AV)
 |.mp b 0=>match rd b with
  |.ob (.gr t _) l=>some (b,t,l)
  |_=>none
 |_=>none
set_option linter.unusedVariables false in
def fW (P:Program) (rd:Nat→bf) (argTypes:List TypeId) (x n:AV):nN:=none
def MV (mn:Bool):List AV→Option AV
 |[.p (.sc (.int k a)),.p (.sc (.int _ b))]=>some (.p (.sc (.int k (cond mn (min a b) (max a b)))))
 |_=>none
def mW (P:Program) (ρ:Operand→AV) (o:Oper) (mn:Bool) (l:List Operand):Option AV:=
 match MV mn (l.map ρ) with
 |some v=>some v
 |none=>scalar P ρ o
set_option linter.unusedVariables false in
def AA (P:Program) (t:TypeId) (x:AV) (ok:Bool):Option AV:=none
def yJ (P:Program) (rd:Nat→bf) (wr:Bool) (bM:Nat) (ρ:Operand→AV) (o:Oper):nN:=
 match o.op with
 |.move x | .assign x=>some (ρ x,[],true)
 |.pick c a b=>match ρ c with
  |.p (.sc (.bool t))=>some (cond t (ρ a) (ρ b),[],true)
  |_=>none
 |.alloc t=>match wr with
  |true=>Au P bM t
  |false=>Fg P bM t
 |.box _ v=>PK bM (ρ v)
 |.build t parts=>jS (zX P t (parts.toList.map fun q=>(q.1,ρ q.2)))
 |.buildSlice t len parts=>pJ P wr bM t len (parts.toList.map fun q=>(q.1,ρ q.2))
 |.load t a=>jS (oo P rd t (ρ a))
 |.store t a v=>vg P rd t (ρ a) (ρ v)
 |.nilCheck x=>mw (mU P ρ o (ρ x))
 |.binOp op t x y _=>match Fl y with
  |true=>z8 P op t (ρ x)
  |false=>match LH (ρ x) (ρ y) with
   |true=>LI P op t (ρ x) (ρ y)
   |false=>match Fk (ρ x) (ρ y) with
    |true=>sQ P op t
    |false=>jS (vh P ρ o op (ρ x) (ρ y))
 |.range t x=>Fm P bM t (ρ x)
 |.next x s=>JD rd (ρ x) s
 |.makeMap t none=>match wr with
  |true=>Ay P bM t
  |false=>C8 P bM t
 |.lookup t x i ok=>mw (xA P rd t (ρ x) (ρ i) ok)
 |.mapUpdate t x k v=>Az P rd t (ρ x) (ρ k) (ρ v)
 |.insert t x k v=>Az P rd t (ρ x) (ρ k) (ρ v)
 |.unOp op _ x=>jS (Av P ρ o op (ρ x))
 |.convert src dst x=>convertOp P rd bM ρ o src dst (ρ x)
 |.makeInterface t x=>mw (qV P t (ρ x))
 |.makeFunc f first captured=>some (.fn f (first.toList.map ρ) (captured.toList.map ρ),[],true)
 |.makeSlice t l c=>match wr with
  |true=>uu P t (ρ l) (ρ c)
  |false=>qT P bM t (ρ l) (ρ c)
 |.slice t x lo hi mx=>jS (sN P ρ t (ρ x) lo hi mx)
 |.fieldAddr t x f=>mw (nQ P t (ρ x) f)
 |.field t x f=>jS (zY P t (ρ x) f)
 |.indexAddr t x i=>jS (nR P t (ρ x) (ρ i))
 |.index t x i=>jS (zZ P t (ρ x) (ρ i))
 |.extract x i=>match ρ x with
  |.aD vs=>mw vs[i]?
  |_=>none
 |.typeAssert x _ t ok=>mw (AA P t (ρ x) ok)
 |.call c=>match c.callee,c.args.toList with
  |.builtin .append,[s,x]=>match ZA (ρ s)||wr with
   |true=>gW P rd bM c.argTypes (qU (ρ s)) (ρ x)
   |false=>lB P rd bM c.argTypes (qU (ρ s)) (ρ x)
  |.builtin .copy,[d,s]=>xy P rd c.argTypes (ρ d) (ρ s)
  |.builtin .len,[x]=>mw (PM P c.argTypes (ρ x))
  |.builtin .cap,[x]=>mw (PN P c.argTypes (ρ x))
  |.builtin .unsafeSliceData,[x]=>qX (ρ x)
  |.builtin .unsafeString,[x,n]=>fW P rd c.argTypes.toList (ρ x) (ρ n)
  |.builtin .min,l=>mw (mW P ρ o true l)
  |.builtin .max,l=>mw (mW P ρ o false l)
  |_,_=>none
 |_=>none
def makes (o:Oper):Bool:=
 match o.op with
 |.alloc _ | .box .. | .buildSlice .. | .makeSlice .. | .convert .. | .makeMap .. | .range .. =>true
 |.call c=>match c.callee with
  |.builtin .append=>true
  |_=>false
 |_=>false
def apply (m:Mem):qR→Mem
 |[]=>m
 |(i,b)::r=>apply (m.set i b) r
mutual
def refs:AV→List Nat
 |.os (some t) _ _ _=>[t]
 |.mp b _=>[b]
 |.ms b _ _ _ _=>[b]
 |.vm b=>[b]
 |.vy b=>[b]
 |.fn _ first captured=>kq first++kq captured
 |.agg l=>kq l
 |.aD l=>kq l
 |.qQ _ v=>refs v
 |_=>[]
def kq:List AV→List Nat
 |[]=>[]
 |a::r=>refs a++kq r
end
def C9:bf→List Nat
 |.ac l=>kq l
 |.ob (.gr _ true) _=>[]
 |.ob (.gb _) _=>[]
 |.ob _ l=>kq l
 |_=>[]
def has (l:List Nat) (i:Nat):Bool:=
 match l with
 |[]=>false
 |j::r=>cond (ai j i) true (has r i)
def kI (ord:List Nat):List Nat→List Nat
 |[]=>ord
 |i::r=>kI (cond (has ord i) ord (ord++[i])) r
def reach (m:Mem):Nat→List Nat→Nat→List Nat
 |0,ord,_=>ord
 |f+1,ord,k=>match ord[k]? with
  |none=>ord
  |some i=>reach m f (kI ord (C9 (m.getD i .dead))) (k+1)
mutual
def kr (ρ:Nat→Option Nat):AV→AV
 |.os (some t) len sz cs=>match ρ t with
  |some t=> .os (some t) len sz cs
  |none=> .p (.ps len sz cs)
 |.mp b off=>match ρ b with
  |some b=> .mp b off
  |none=> .az
 |.ms b off len sz cap=>match ρ b with
  |some b=> .ms b off len sz cap
  |none=> .az
 |.vm b=>match ρ b with
  |some b=> .vm b
  |none=> .az
 |.vy b=>match ρ b with
  |some b=> .vy b
  |none=> .az
 |.fn f first captured=> .fn f (fL ρ first) (fL ρ captured)
 |.agg l=> .agg (fL ρ l)
 |.aD l=> .aD (fL ρ l)
 |.qQ t v=> .qQ t (kr ρ v)
 |v=>v
def fL (ρ:Nat→Option Nat):List AV→List AV
 |[]=>[]
 |a::r=>kr ρ a::fL ρ r
end
def aC:AV→AV
 |.p v=> .p v
 |_=> .az
def gX (ρ:Nat→Option Nat):bf→bf
 |.ac l=> .ac (fL ρ l)
 |.ob (.gr t true) l=> .ob (.gr t true) (l.map aC)
 |.ob (.gb t) l=> .ob (.gb t) (l.map aC)
 |.ob k l=> .ob k (fL ρ l)
 |b=>b
def idx (ord:List Nat) (i:Nat):Option Nat:=
 match ord with
 |[]=>none
 |j::r=>cond (ai i j) (some 0) ((idx r i).map (· + 1))
def pack (m:Mem) (ord:List Nat):Mem:=ord.map fun i=>gX (idx ord) (m.getD i .dead)
def upTo:Nat→List Nat
 |0=>[]
 |n+1=>upTo n++[n]
def close (m:Mem) (fix:Nat) (vs:List AV):List Nat:=reach m (m.length+1) (kI (upTo fix) (kq vs)) 0
inductive Mark where
 |range (b:Nat)
 |late (f:FuncId) (first caps:List (Nat×Nat))
inductive YX where
 |call
 |round (i:Nat)
 |late
structure St where
 tm:zV
 nt:Nat
 mem:Mem
 fix:Nat
 dj:List Mark:=[]
 cR:YX:= .call
inductive It where
 |code (i:Nat) (c:Code)
 |ops (cO:Nat) (ops:Array Oper) (k:Nat) (sure:Bool)
 |inBlock (id:Nat)
 |inLoop (i:Nat) (b:Code)
 |inScope (b:Code)
 |forget (k:List Nat)
 |fin
 |begin
 |Cu (u:AV)
 |jT (u:AV)
 |leave
structure cw where
 f:FuncId
 todo:List It
 st:St
inductive Out where
 |ret (v:AV) (m:Mem)
 |Co (v:AV) (m:Mem)
inductive Ev where
 |next (c:cw)
 |must (b:Bool) (c:cw)
 |call (g:FuncId) (args:List AV) (m:Mem) (ord:List Nat) (dst:Option Tmp) (c:cw)
 |test (b:Bool) (yes no:cw)
 |round (args:List AV) (m:Mem) (ord:List Nat) (dst:Option Tmp) (c:cw)
 |range (g:FuncId) (args:List AV) (m:Mem) (ord:List Nat) (L:Nat) (c:cw)
 |draw (cO:Nat) (ops:Array Oper) (c:cw)
 |fork (l:List cw)
 |late (g:FuncId) (args:List AV) (m:Mem) (ord:List Nat) (pv:Option AV) (c:cw)
 |done (o:Out)
 |fail
structure Env where
 cX:Nat→Option (List PV)
 wr:FuncId→Nat→Bool
 keep:FuncId→Nat→Option (List Nat)
 told:FuncId→Nat→Option AV:=fun _ _=>none
def ev (E:Env) (tm:zV):Operand→AV
 |.tmp t=>look tm t
 |.const v=>VW v
 |.global g=>match E.cX g with
  |some cs=> .p (.pp 0 cs)
  |none=> .p (.sc (.pointer (some ⟨g,0,none⟩)))
 |.func f=> .fn (.func f) [] []
def forget (keep:List Nat) (st:St):St:=
 match st.dj,st.cR with
 |[],.call=>
  let vs:=keep.map (look st.tm)
  let ord:=close st.mem st.fix vs
  {tm:=keep.zip (fL (idx ord) vs),nt:=st.nt,mem:=pack st.mem ord,fix:=st.fix,cR:= .call}
 |_,_=>st
def kY (keep:Option (List Nat)) (st:St):St:=
 match keep with
 |some keep=>forget keep st
 |none=>st
def fT (keep:Option (List Nat)) (k:List It):List It:=
 match keep with
 |some keep=> .forget keep::k
 |none=>k
def put (st:St) (dst:Option Tmp) (v:AV):St:=
 match dst with
 |some d=>{st with tm:=(d,v)::st.tm}
 |none=>st
def fits (st:St) (dst:Option Tmp):Bool:=
 match dst with
 |some d=>bx d st.nt
 |none=>true
def bI (ord:List Nat) (n:Nat) (j:Nat):Option Nat:=
 match ord[j]? with
 |some i=>some i
 |none=>some (n+(j-ord.length))
def dR (ρ:Nat→Option Nat):List Nat→Mem→Mem→Mem
 |i::ord,b::m1,m=>dR ρ ord m1 (m.set i (gX ρ b))
 |_,m1,m=>m++m1.map (gX ρ)
def back (ord:List Nat) (dst:Option Tmp) (st:St) (v:AV) (m1:Mem):St:=
 put {st with mem:=dR (bI ord st.mem.length) ord m1 st.mem} dst (kr (bI ord st.mem.length) v)
def target (ρ:Operand→AV) (o:Oper):Option (FuncId×List AV):=
 match o.op with
 |.call c=>match c.callee with
  |.value f=>match ρ f with
   |.fn (.func f) first captured=>some (f,first++c.args.toList.map ρ++captured)
   |_=>none
  |_=>none
 |_=>none
def Aa (ρ:Operand→AV) (o:Oper):Option (List AV):=
 match o.op with
 |.call c=>match c.callee with
  |.value f=>match ρ f with
   |.vy b=>some (.vy b::c.args.toList.map ρ)
   |_=>none
  |_=>none
 |_=>none
def eH (st:St) (f:FuncId) (ps:Array Tmp) (as bd:Code):Mem:=
 (st.mem++[.ob .MQ []])++[.ob (.loop f ps as bd .ready none) ((upTo st.nt).map (look st.tm))]
def iV (m:Mem) (L:Nat):Option (Mem×Option Code):=
 match m.getD L .dead with
 |.ob (.loop f ps as bd st pd) vals=>match st with
  |.busy=>none
  |_=>some (m.set L (.ob (.loop f ps as bd .exhausted pd) vals),pd)
 |_=>none
def behind (c:cw) (m:Mem) (pd:Option Code):cw:=
 {c with todo:=match pd with
    |some code=> .code 0 code::c.todo
    |none=>c.todo,st:={c.st with mem:=m}}
inductive Want where
 |yes | no | ask (d:Nat) (b want:Bool) | lost
def fA (ops:Array Oper) (tm:zV) (o:Oper):Want:=
 match o.guard with
 |none=> .yes
 |some (j,want)=>match ops[j]? with
  |some oj=>match oj.dst with
   |some d=>match look tm d with
    |.p (.sc (.bool b))=> .ask d b want
    |.aD _=> .no
    |_=> .lost
   |none=> .no
  |none=> .no
def reserve (o:Oper) (m:Mem):Mem:=cond (makes o) (m++[.free]) m
def nodes:Code→Nat
 |.seq a b=>nodes a+nodes b
 |.cond _ a b=>1+nodes a+nodes b
 |.block _ b=>nodes b
 |.scope b=>nodes b
 |.loop b=>1+nodes b
 |_=>0
def kJ (P:Program) (st:St):List ResultVar→Option (List AV×Bool)
 |[]=>some ([],true)
 |.tmp t::r=>(kJ P st r).map fun q=>(look st.tm t::q.1,q.2)
 |.cell a t::r=>match oo P (fun i=>st.mem.getD i .dead) t (look st.tm a),kJ P st r with
  |some (v,ok),some (vs,oks)=>some (v::vs,ok&&oks)
  |_,_=>none
def one:List AV→AV
 |[v]=>v
 |vs=> .aD vs
def freeze (m:Mem) (kept:List Nat):AV→AV×Bool×List Nat
 |.ms b off len sz (some cap)=>cond (has kept b||ai len 0) (.ms b off len sz (some cap),true,[]) (match m.getD b .dead with
  |.pc l=>(.p (.ps len sz ((l.drop off).take (len*sz))),ar (off+len*sz) l.length&&ar 1 sz,[b])
  |_=>(.ms b off len sz (some cap),true,[]))
 |v=>(v,true,[])
def jm (m:Mem) (kept:List Nat):List AV→List AV×Bool×List Nat
 |[]=>([],true,[])
 |v::r=>((freeze m kept v).1::(jm m kept r).1,(freeze m kept v).2.1&&(jm m kept r).2.1,(freeze m kept v).2.2++(jm m kept r).2.2)
def lC (l:List Nat) (n:Nat):Bool:=
 match l with
 |[]=>true
 |i::r=>bx i n&&lC r n
def Fo (l ord:List Nat):Bool:=
 match l with
 |[]=>true
 |i::r=> !has ord i&&Fo r ord
def pM (P:Program) (c:cw):Ev:=
 match P.funcs[c.f]? with
 |some fn=>match kJ P c.st fn.results.toList with
  |some (vs,ok)=>
   let fz:=jm c.st.mem (close c.st.mem c.st.fix []) vs
   let v:=one fz.1
   let ord:=close c.st.mem c.st.fix [v]
   .must (ok&&fz.2.1&&Fo fz.2.2 ord) {c with todo:=[.fin],st:={c.st with tm:=[(0,kr (idx ord) v)],nt:=0,mem:=pack c.st.mem ord}}
  |none=> .fail
 |none=> .fail
def pN:List Mark→Mem→Option Mem
 |[],m=>some m
 |.late .. :: _,_=>none
 |.range b::r,m=>match m.getD b .dead with
  |.ob .MQ []=>pN r (m.set b (.ob .shut []))
  |_=>none
def mps (l:List (Nat×Nat)):List AV:=l.map fun q=> .mp q.1 q.2
def Fp (c:cw) (pv:Option AV) (g:FuncId) (first caps:List (Nat×Nat)):Ev:=
 let args:=mps first++mps caps
 let ord:=close c.st.mem 0 (pv.toList++args)
 cond (lC ord c.st.mem.length) (.late g (fL (idx ord) args) (pack c.st.mem ord) ord (pv.map (kr (idx ord))) {c with todo:=[.leave],st:={c.st with dj:=[]}}) .fail
def AB (P:Program) (c:cw) (u:AV):Ev:=
 match c.st.cR with
 |.round _=> .fail
 |_=>match c.st.dj with
  |[]=>match P.funcs[c.f]? with
   |some _=>
    let ord:=close c.st.mem c.st.fix [u]
    .next {c with todo:=[.Cu (kr (idx ord) u)],st:={c.st with tm:=[],nt:=0,mem:=pack c.st.mem ord}}
   |none=> .fail
  |[.late g first caps]=>Fp c (some u) g first caps
  |_=> .fail
def ending (P:Program) (c:cw):Ev:=
 match c.st.dj with
 |[]=>pM P c
 |[.late g first caps]=>Fp c none g first caps
 |mk=>match pN mk c.st.mem with
  |some m=>pM P {c with st:={c.st with mem:=m,dj:=[]}}
  |none=> .fail
def LK (P:Program) (f:FuncId):Bool:=
 match P.funcs[f]? with
 |some fn=>fn.body.isNone&&(decide (fn.name = "internal/abi.NoEscape")&&decide (fn.origin = ""))
 |none=>false
def PS (P:Program) (ρ:Operand→AV) (o:Oper):Option AV:=
 match o.op with
 |.call c=>match c.callee,c.args.toList with
  |.value f,[x]=>match ρ f with
   |.fn (.func g) [] []=>cond (LK P g) (some (ρ x)) none
   |_=>none
  |_,_=>none
 |_=>none
def Db:List AV→Option (List (Nat×Nat))
 |[]=>some []
 |.mp b off::r=>match Db r with
  |some l=>some ((b,off)::l)
  |none=>none
 |_::_=>none
def Dc:AV→Bool
 |.qQ .. | .p (.qQ ..)=>true
 |_=>false
def PT (E:Env) (c:cw) (o:Oper) (k:List It):Ev:=
 match o.op with
 |.panic x=>cond (Dc (ev E c.st.tm x)) (.next {c with todo:=[.jT (ev E c.st.tm x)]}) .fail
 |.call d=>match d.callee,d.args.toList with
  |.builtin .panic,[x]=>cond (Dc (ev E c.st.tm x)) (.next {c with todo:=[.jT (ev E c.st.tm x)]}) .fail
  |_,_=> .fail
 |.defer d=>match c.st.cR,c.st.dj,d.callee with
  |.round _,_,_=> .fail
  |_,[],.value f=>match ev E c.st.tm f with
   |.fn (.func g) first captured=>match Db (first++d.args.toList.map (ev E c.st.tm)),Db captured with
    |some l,some m=> .must (fits c.st o.dst) {c with todo:=k,st:=put {c.st with dj:=[.late g l m]} o.dst (.aD [])}
    |_,_=> .fail
   |_=> .fail
  |_,_,_=> .fail
 |_=> .fail
def PU (P:Program) (E:Env) (c:cw) (_rid:Nat) (o:Oper) (k:List It):Ev:=
 match target (ev E c.st.tm) o with
 |some (g,args)=>
  match PS P (ev E c.st.tm) o with
  |some v=> .must (fits c.st o.dst) {c with todo:=k,st:=put c.st o.dst v}
  |none=>
   let ord:=close c.st.mem 0 args
   cond (fits c.st o.dst&&lC ord c.st.mem.length) (.call g (fL (idx ord) args) (pack c.st.mem ord) ord o.dst {c with todo:=k}) .fail
 |none=>match Aa (ev E c.st.tm) o with
  |some args=>
   let ord:=close c.st.mem 0 args
   cond (fits c.st o.dst&&lC ord c.st.mem.length) (.round (fL (idx ord) args) (pack c.st.mem ord) ord o.dst {c with todo:=k}) .fail
  |none=>
   let m:=reserve o c.st.mem
   match yJ P (fun i=>m.getD i .dead) (E.wr c.f (o.dst.getD 0)) c.st.mem.length (ev E c.st.tm) o with
   |some (v,us,ok)=> .must (ok&&fits c.st o.dst) {c with todo:=k,st:=put {c.st with mem:=apply m us} o.dst v}
   |none=>PT E c o k
def iW:Option Code→LoopState
 |none=> .ready
 |some _=> .done
def qY (c:cw) (i:Nat) (jump:Option Code):Ev:=
 match c.st.mem.getD i .dead with
 |.ob (.loop f ps as bd _ _) vals=>
  let m:=c.st.mem.set i (.ob (.loop f ps as bd (iW jump) jump) vals)
  let ord:=close m c.st.fix []
  cond (bx i c.st.fix) (.next {c with todo:=[.fin],st:={c.st with tm:=[(0,sB jump.isNone)],nt:=0,mem:=pack m ord}}) .fail
 |_=> .fail
def AD (c:cw) (i:Nat) (k:List It):Ev:=
 match c.st.mem.getD i .dead with
 |.ob (.loop f ps as bd .ready pd) vals=> .next {c with todo:=k,st:={c.st with mem:=c.st.mem.set i (.ob (.loop f ps as bd .busy pd) vals)}}
 |_=> .fail
def LM (E:Env) (c:cw) (x:Operand) (ps:Array Tmp) (as bd:Code) (k:List It):Ev:=
 match ev E c.st.tm x with
 |.fn (.func g) first captured=>
  let m:=eH c.st c.f ps as bd
  let args:=first++[.vy (c.st.mem.length+1)]++captured
  let ord:=close m 0 args
  cond (lC ord m.length) (.range g (fL (idx ord) args) (pack m ord) ord (c.st.mem.length+1) {c with todo:=k,st:={c.st with mem:=m,dj:= .range c.st.mem.length::c.st.dj}}) .fail
 |_=> .fail
def cS (id:Nat):List It→Option (List It)
 |[]=>none
 |.inBlock id'::k=>cond (ai id' id) (some k) (cS id k)
 |_::k=>cS id k
def fX (l:Nat):List It→Option (List It)
 |[]=>none
 |.inScope b::k=>match findLabel b l with
  |some rest=>some (.code 0 rest :: .inScope b::k)
  |none=>fX l k
 |_::k=>fX l k
def jo (o:Oper):Bool:=
 match o.op with
 |.move _ | .assign _ | .pick .. | .build .. | .load .. | .nilCheck _ | .binOp .. | .unOp .. | .convert .. | .makeInterface .. | .makeFunc .. | .slice .. | .fieldAddr .. | .field .. | .indexAddr .. | .index .. | .extract .. =>true
 |.call c=>match c.callee with
  |.builtin .len | .builtin .min | .builtin .max=>true
  |_=>false
 |_=>false
def ux (acc:List Nat) (o:Oper):Nat:=o.after.toList.foldl (fun s e=>cond (Region.binds .any e) (s|||(2 ^ e.on|||acc.getD e.on 0)) s) 0
def masks (acc:List Nat):List Oper→List Nat
 |[]=>acc
 |o::r=>masks (acc++[ux acc o]) r
def Ab (x:Nat):Nat→Bool
 |0=>true
 |n+1=>c8 x n&&Ab x n
def xB (ops:Array Oper):Bool:=
 (match ops[ops.size-1]? with
   |some o=>o.guard.isNone&&match o.op with
    |.call c=>match c.callee with
     |.value _=>true
     |_=>false
    |.panic _ | .defer _=>true
    |_=>false
   |none=>false)&&Ab ((masks [] ops.toList).getD (ops.size-1) 0) (ops.size-1)
def jq (ops:Array Oper):Nat:=cond (xB ops) (ops.size-1) ops.size
def kK (cO:Nat) (ops:Array Oper) (k:List It):List It:=cond (xB ops) (.ops cO ops (ops.size-1) false::k) k
def slots (ops:Array Oper) (o:Oper):List Nat:=
 (match o.guard with
   |some (j,_)=>match ops[j]? with
    |some oj=>oj.dst.toList
    |none=>[]
   |none=>[])++o.op.operands.toList.filterMap fun
    |.tmp t=>some t
    |_=>none
def meet (a b:List Nat):Bool:=a.any fun i=>b.any fun j=>ai i j
def uy (ops:Array Oper) (L:List Nat) (i:Nat) (o:Oper) (j:Nat) (p:Oper):Bool:=
 !meet o.dst.toList p.dst.toList&&(c8 (L.getD i 0) j||(!meet p.dst.toList (slots ops o) && !meet o.dst.toList (slots ops p)))
def Ac (ops:Array Oper) (L:List Nat) (i:Nat) (o:Oper):Nat→List Oper→Bool
 |_,[]=>true
 |j,p::r=>uy ops L i o j p&&Ac ops L i o (j+1) r
def mX (q:Oper→Bool) (ops:Array Oper) (L:List Nat):Nat→List Oper→List Oper→Bool
 |_,_,[]=>true
 |i,qN,o::r=>q o&&(o.after.toList.all fun e=> !Region.binds .any e||bx e.on i)&&Ac ops L i o 0 qN&&mX q ops L (i+1) (qN++[o]) r
def nU (P:Program) (E:Env) (rd:Nat→bf) (wr:Bool) (bM:Nat) (ops:Array Oper):List Oper→St→Option (St×Bool)
 |[],st=>some (st,true)
 |o::r,st=>
  let skip:=match nU P E rd wr bM ops r (put st o.dst (.aD [])) with
   |some (st',ok)=>some (st',fits st o.dst&&ok)
   |none=>none
  let vk:=match yJ P rd wr bM (ev E st.tm) o with
   |some (v,[],ok)=>match nU P E rd wr bM ops r (put st o.dst v) with
    |some (st',ok')=>some (st',ok&&(fits st o.dst&&ok'))
    |none=>none
   |_=>none
  match fA ops st.tm o with
  |.yes=>vk
  |.no=>skip
  |.ask _ b want=>match b==want with
   |true=>vk
   |false=>skip
  |.lost=>none
def PW (E:Env) (f:Nat) (ops:Array Oper):Bool:=ops.toList.all fun o=>(E.told f (o.dst.getD 0)).isNone
def AE (P:Program) (E:Env) (f _rid:Nat) (ops:Array Oper) (st:St):Option (St×Bool):=
 let m:=st.mem++[.free]
 match cond (ops.toList.all jo&&PW E f ops) (nU P E (fun i=>m.getD i .dead) false st.mem.length ops ops.toList {st with mem:=m}) none with
 |some (st',ok)=>some (st',ok&&(mX jo ops (masks [] ops.toList) 0 [] ops.toList&&(P.follows .mixedOrders || !Region.departs ops)))
 |none=>none
def LN (P:Program) (E:Env) (f:FuncId) (ops:Array Oper) (i:Nat) (st:St):Option St:=
 match ops[i]? with
 |none=>none
 |some o=>match fA ops st.tm o with
  |.yes=>
   let m:=reserve o st.mem
   match yJ P (fun i=>m.getD i .dead) (E.wr f (o.dst.getD 0)) st.mem.length (ev E st.tm) o with
   |some (v,us,ok)=>cond (ok&&fits st o.dst) (some (put {st with mem:=apply m us} o.dst v)) none
   |none=>none
  |_=>none
def Wf (a b:zV):List Nat→Bool
 |[]=>true
 |k::r=>dy (look a k) (look b k)&&Wf a b r
def ZC (s t:St):Bool:=ai s.nt t.nt&&(ai s.fix t.fix&&(LF (s.mem.getLastD .dead) (t.mem.getLastD .dead)&&(qW s.mem t.mem&&Wf s.tm t.tm (s.tm.map (·.1)++t.tm.map (·.1)))))
def Ad:List Bool→List Bool→Bool
 |[],[]=>true
 |a::r,b::s=>fV a b&&Ad r s
 |_,_=>false
abbrev Pt:=Array Bool×St
def acI (p q:Pt):Bool:=Ad p.1.toList q.1.toList&&ZC p.2 q.2
def GD (q:Pt):List Pt→Bool
 |[]=>false
 |p::r=>acI q p||GD q r
def GF (q:Pt) (l:List Pt):List Pt:=cond (GD q l) l (q::l)
def vl (P:Program) (E:Env) (f:FuncId) (ops:Array Oper) (q:Pt):List Nat→List Pt→Option (List Pt)
 |[],l=>some l
 |i::r,l=>match LN P E f ops i q.2 with
  |some st=>vl P E f ops q r (GF (q.1.setIfInBounds i true,st) l)
  |none=>none
def level (P:Program) (E:Env) (f:FuncId) (ops:Array Oper):List Pt→List Pt→Option (List Pt)
 |[],l=>some l
 |q::r,l=>match Region.ready .any ops q.1 with
  |[]=>level P E f ops r (GF q l)
  |is=>match vl P E f ops q is l with
   |some l=>level P E f ops r l
   |none=>none
def levels (P:Program) (E:Env) (f:FuncId) (ops:Array Oper):Nat→List Pt→Option (List Pt)
 |0,l=>some l
 |n+1,l=>match level P E f ops l [] with
  |some l=>levels P E f ops n l
  |none=>none
def PX (b:Bool) (o:Oper):Bool:=
 match o.op with
 |.store _ _ (.const (.bool c))=>c==b
 |_=>false
def PY (ops:Array Oper):Bool:=
 match ops.toList with
 |[_,o,p,_]=>PX true o&&PX false p
 |_=>false
def PZ (P:Program) (ops:Array Oper):Bool:=
 ar ops.size 16&&ops.toList.any fun o=>match o.op with
  |.insert t _ _ _=>match P.underlying t with
   |some (.map kt _)=>YW P kt
   |_=>false
  |_=>false
def Fq (P:Program) (E:Env) (f:FuncId) (ops:Array Oper) (st:St):Option (List St):=
 cond ((PY ops||PZ P ops)&&(P.follows .mixedOrders || !Region.departs ops)) ((levels P E f ops ops.size [(Array.replicate ops.size false,st)]).map fun l=>l.map (·.2)) none
def step (P:Program) (E:Env) (c:cw):Ev:=
 match c.todo with
 |[]=>match c.st.cR with
  |.round i=>qY c i none
  |_=>ending P c
 |.fin::_=> .done (.ret (look c.st.tm 0) c.st.mem)
 |.Cu u::_=> .done (.Co u c.st.mem)
 |.jT u::_=>AB P c u
 |.leave::_=>pM P c
 |.begin::k=>match c.st.cR with
  |.round i=>AD c i k
  |_=> .fail
 |.code _ .ret::_=>match c.st.cR with
  |.round i=>qY c i (some .ret)
  |_=>ending P c
 |.code _ .skip::k=> .next {c with todo:=k}
 |.code _ (.region id ops false)::k=> .next {c with todo:= .ops id ops 0 false::k}
 |.code _ (.region id ops true)::k=>match AE P E c.f id ops c.st with
  |some (st,ok)=> .must ok {c with todo:=k,st:={st with dj:=c.st.dj,cR:=c.st.cR}}
  |none=>match Fq P E c.f ops c.st with
   |some l=> .fork (l.map fun st=>{c with todo:=k,st:={st with dj:=c.st.dj,cR:=c.st.cR}})
   |none=> .draw id ops {c with todo:=kK id ops k}
 |.code i (.seq a b)::k=> .next {c with todo:= .code i a :: .code (i+nodes a) b::k}
 |.code i (.cond x a b)::k=>match ev E c.st.tm x with
  |.p (.sc (.bool t))=> .test t {c with todo:= .code (i+1) a::fT (E.keep c.f (2*i)) k} {c with todo:= .code (i+1+nodes a) b::fT (E.keep c.f (2*i)) k}
  |_=> .fail
 |.code i (.block id b)::k=> .next {c with todo:= .code i b :: .inBlock id::k}
 |.code i (.loop b)::k=> .next {c with todo:= .code (i+1) b :: .inLoop i b::fT (E.keep c.f (2*i+1)) k,st:=kY (E.keep c.f (2*i)) c.st}
 |.code _ (.exit id)::k=>match cS id k with
  |some k=> .next {c with todo:=k}
  |none=>match c.st.cR with
   |.round i=>qY c i (some (.exit id))
   |_=> .fail
 |.code i (.scope b)::k=> .next {c with todo:= .code i b :: .inScope b::k}
 |.inScope _::k=> .next {c with todo:=k}
 |.code _ (.label _)::k=> .next {c with todo:=k}
 |.code _ (.goto l)::k=>match fX l k with
  |some k=> .next {c with todo:=k}
  |none=> .fail
 |.code _ (.rangeFunc x ps as bd)::k=>match c.st.cR with
  |.call=>LM E c x ps as bd k
  |_=> .fail
 |.code _ _::_=> .fail
 |.inBlock _::k=> .next {c with todo:=k}
 |.inLoop i b::k=> .next {c with todo:= .code (i+1) b :: .inLoop i b::k,st:=kY (E.keep c.f (2*i)) c.st}
 |.forget keep::k=> .next {c with todo:=k,st:=forget keep c.st}
 |.ops cO ops i sure::k=>match ops[i]? with
  |none=> .next {c with todo:=k}
  |some o=>match fA ops c.st.tm o with
   |.yes=>PU P E c cO o (.ops cO ops (i+1) false::k)
   |.no=>cond (fits c.st o.dst) (.next {c with todo:= .ops cO ops (i+1) false::k,st:=put c.st o.dst (.aD [])}) .fail
   |.ask d b want=>match sure with
    |false=> .test b {c with todo:= .ops cO ops i true::k,st:=put c.st (some d) (sB true)} {c with todo:= .ops cO ops i true::k,st:=put c.st (some d) (sB false)}
    |true=>match b==want with
     |true=>PU P E c cO o (.ops cO ops (i+1) false::k)
     |false=>cond (fits c.st o.dst) (.next {c with todo:= .ops cO ops (i+1) false::k,st:=put c.st o.dst (.aD [])}) .fail
   |.lost=> .fail
structure ct where
 g:FuncId
 args:List AV
 m:Mem
 v:AV
 m':Mem
def same (b b':Bool):Bool:=match b' with
 |true=>b
 |false=> !b
structure jF where
 v:AV
 us:qR
 fp:List Nat
 ld:Nat→bf→Bool
def ZD (P:Program) (ρ:Operand→AV) (o:Oper) (v:AV) (b:Nat) (x:bf):Bool:=
 match o.op with
 |.load t a=>match ρ a with
  |.mp c off=>ai c b&&(match oo P (fun _=>x) t (.mp c off) with
   |some (v',ok)=>ok&&dy v' v
   |none=>false)
  |_=>false
 |_=>false
def AF:qR→Nat→Option bf
 |[],_=>none
 |(i,x)::r,b=>match AF r b with
  |some y=>some y
  |none=>cond (ai i b) (some x) none
def aeR:qR→Bool
 |[]=>true
 |_=>false
def Dd (o:Oper):Bool:=jo o||match o.op with
 |.alloc _ | .box .. | .buildSlice .. | .makeSlice .. | .store .. | .makeMap .. | .lookup .. | .mapUpdate .. | .insert .. =>true
 |.call c=>match c.callee with
  |.builtin .append | .builtin .copy | .builtin .unsafeSliceData | .builtin .unsafeString=>true
  |_=>false
 |_=>false
def MW (ρ:Operand→AV) (o:Oper):List Nat:=
 match o.op with
 |.load _ a=>refs (ρ a)
 |.store _ a _=>refs (ρ a)
 |.convert _ _ x=>refs (ρ x)
 |.lookup _ x _ _=>refs (ρ x)
 |.mapUpdate _ x _ _=>refs (ρ x)
 |.insert _ x _ _=>refs (ρ x)
 |.call c=>match c.callee with
  |.builtin .append | .builtin .copy | .builtin .unsafeString=>kq (c.args.toList.map ρ)
  |_=>[]
 |_=>[]
def fB (n:Nat):Mem:=dC n .free
def sS (N nx:Nat) (ord:List Nat) (v:AV) (m1:Mem):jF:=
 let Wg:=ord++List.range' nx (m1.length-ord.length)
 ⟨kr (bI Wg N) v,Wg.zip (m1.map (gX (bI Wg N))),Wg,fun _ _=>false⟩
def sU (P:Program) (E:Env) (f _rid:Nat) (O:FuncId→List AV→Mem→Option (AV×Mem)) (nx:Nat) (o:Oper) (st:St):Option (jF×Nat×Bool):=
 match target (ev E st.tm) o with
 |some (g,args)=>
  let ord:=close st.mem 0 args
  match O g (fL (idx ord) args) (pack st.mem ord) with
  |some (v,m1)=>some (sS st.mem.length nx ord v m1,nx+(m1.length-ord.length),ar ord.length m1.length&&(lC ord nx&&ar (nx+(m1.length-ord.length)) st.mem.length))
  |none=>none
 |none=>match yJ P (fun i=>st.mem.getD i .dead) (E.wr f (o.dst.getD 0)) nx (ev E st.tm) o with
  |some (v,us,ok)=>some (⟨v,us,us.map (·.1)++(MW (ev E st.tm) o++cond (makes o) [nx] []),ZD P (ev E st.tm) o v⟩,cond (makes o) (nx+1) nx,
    ok&&(Dd o&&(lC (us.map (·.1)) (cond (makes o) (nx+1) nx)&&ar (cond (makes o) (nx+1) nx) st.mem.length)))
  |none=>none
def LO (t:Option AV) (r:Option (jF×Nat×Bool)):Option (jF×Nat×Bool):=
 match t with
 |none=>r
 |some v=>match r with
  |some (d,nx,ok)=>some (⟨v,d.us,d.fp,d.ld⟩,nx,ok&&dy d.v v)
  |none=>none
def lQ (P:Program) (E:Env) (f cO:Nat) (O:FuncId→List AV→Mem→Option (AV×Mem)) (nx:Nat) (o:Oper) (st:St):Option (jF×Nat×Bool):=
 LO (E.told f (o.dst.getD 0)) (sU P E f cO O nx o st)
def kA (P:Program) (E:Env) (f cO:Nat) (O:FuncId→List AV→Mem→Option (AV×Mem)) (ops:Array Oper):List Oper→Nat→St→Option (St×Nat×List jF×Bool)
 |[],nx,st=>some (st,nx,[],true)
 |o::r,nx,st=>
  let skip:=match kA P E f cO O ops r nx (put st o.dst (.aD [])) with
   |some (st',tU,ds,ok)=>some (st',tU,⟨.aD [],[],[],fun _ _=>false⟩::ds,fits st o.dst&&ok)
   |none=>none
  let vk:=match lQ P E f cO O nx o st with
   |some (d,mY,ok)=>match kA P E f cO O ops r mY (put {st with mem:=apply st.mem d.us} o.dst d.v) with
    |some (st',tU,ds,ok')=>some (st',tU,d::ds,ok&&(fits st o.dst&&ok'))
    |none=>none
   |none=>none
  match fA ops st.tm o with
  |.yes=>vk
  |.no=>skip
  |.ask _ b want=>match b==want with
   |true=>vk
   |false=>skip
  |.lost=>none
def Ft (d e:jF):Bool:=aeR e.us&&(d.us.map (·.1)).all fun b=> !has e.fp b||(match AF d.us b with
 |some x=>e.ld b x
 |none=>false)
def Fv (L:List Nat) (i:Nat) (d:jF) (j:Nat) (e:jF):Bool:=c8 (L.getD i 0) j||(!meet (e.us.map (·.1)) d.fp&&(!meet (d.us.map (·.1)) e.fp||Ft d e))
def vn (L:List Nat) (i:Nat) (d:jF):Nat→List jF→Bool
 |_,[]=>true
 |j,e::r=>Fv L i d j e&&vn L i d (j+1) r
def AG (L:List Nat):Nat→List jF→List jF→Bool
 |_,_,[]=>true
 |i,qN,d::r=>vn L i d 0 qN&&AG L (i+1) (qN++[d]) r
def Ae:Mem→Bool
 |[]=>true
 |.free::r=>Ae r
 |_::_=>false
def mZ (P:Program) (E:Env) (f cO:Nat) (O:FuncId→List AV→Mem→Option (AV×Mem)) (ops:Array Oper) (st:St):Option (St×Bool):=
 match kA P E f cO O ops (ops.toList.take (jq ops)) st.mem.length {st with mem:=st.mem++fB (60+ops.size)} with
 |some (st',nx,ds,ok)=>some ({st' with mem:=st'.mem.take nx},ok&&(mX (fun _=>true) ops (masks [] ops.toList) 0 [] ops.toList&&(AG (masks [] ops.toList) 0 [] ds &&
   (Ae (st'.mem.drop nx)&&(ar st.mem.length nx&&(P.follows .mixedOrders || !Region.departs ops))))))
 |none=>none
def init (P:Program) (g:FuncId) (args:List AV) (m:Mem):Option cw:=
 match P.funcs[g]? with
 |some fn=>match fn.body with
  |some c=>some {f:=g,todo:=[.code 0 c],st:={tm:=(upTo args.length).zip args,nt:=max fn.ntmps args.length,mem:=m,fix:=m.length}}
  |none=>none
 |none=>none
def JE (tm:zV):List Nat→List AV→zV
 |d::ds,v::vs=>JE ((d,v)::tm) ds vs
 |_,_=>tm
def GG (args:List AV) (m:Mem):Option cw:=
 match args with
 |.vy i::xs=>match m.getD i .dead with
  |.ob (.loop f ps as bd _ _) vals=>cond (ai xs.length ps.toList.length&&lC ps.toList vals.length)
   (some {f:=f,todo:=[.code 0 as,.begin,.code 0 bd],st:={tm:=JE ((upTo vals.length).zip vals) ps.toList xs,nt:=vals.length,mem:=m,fix:=m.length,cR:= .round i}}) none
  |_=>none
 |_=>none
def pO:List ct→FuncId→List AV→Mem→Option (AV×Mem)
 |[],_,_,_=>none
 |q::r,g,args,m=>cond (ai q.g g&&(mV args q.args&&qW m q.m)) (some (q.v,q.m')) (pO r g args m)
def GH:Out→Out→Bool
 |.ret v m,.ret u n=>dy v u&&qW m n
 |.Co v m,.Co u n=>dy v u&&qW m n
 |_,_=>false
def agree:List (Option Out)→Option Out
 |[]=>none
 |[o]=>o
 |o::r=>match o,agree r with
  |some o,some p=>cond (GH o p) (some p) none
  |_,_=>none
def isRec (o:Oper):Bool:=
 match o.op,o.guard with
 |.call c,none=>match c.callee,c.args.toList with
  |.builtin .recover,[]=>true
  |_,_=>false
 |_,_=>false
def AH:Nat→List It→Option (List It)
 |0,_=>none
 |n+1,todo=>match todo with
  |.ops cO ops i sure::k=>some (.ops cO ops i sure::k)
  |.code i (.seq a b)::k=>AH n (.code i a :: .code (i+nodes a) b::k)
  |.code _ (.region id ops false)::k=>AH n (.ops id ops 0 false::k)
  |.code i (.scope b)::k=>AH n (.code i b :: .inScope b::k)
  |.code i (.block id b)::k=>AH n (.code i b :: .inBlock id::k)
  |_=>none
def YY (pv:Option AV) (c:cw):Option cw:=
 match c.todo with
 |.ops cO ops i _::k=>match ops[i]? with
  |some o=>cond (isRec o&&fits c.st o.dst) (some {c with todo:= .ops cO ops (i+1) false::k,st:=put c.st o.dst (pv.getD (.p (.sc .nilIface)))}) none
  |none=>none
 |_=>none
def GI (P:Program) (g:FuncId) (args:List AV) (m:Mem) (pv:Option AV):Option cw:=
 match init P g args m with
 |some c=>match AH 20 c.todo with
  |some t=>YY pv {c with todo:=t,st:={c.st with cR:= .late}}
  |none=>none
 |none=>none
def qZ (ord:List Nat) (c:cw) (u:AV) (m1:Mem):cw:=
 {c with todo:=[.jT (kr (bI ord c.st.mem.length) u)],st:=back ord none c.st (.aD []) m1}
def exec (P:Program) (E:Env) (K:List ct):Nat→cw→Option Out
 |0,_=>none
 |n+1,c=>match step P E c with
  |.next c=>exec P E K n c
  |.must b c=>cond b (exec P E K n c) none
  |.test b y z=>match b with
   |true=>exec P E K n y
   |false=>exec P E K n z
  |.call g args m ord dst c=>match pO K g args m with
   |some (v,m1)=>exec P E K n {c with st:=back ord dst c.st v m1}
   |none=>match init P g args m with
    |some ci=>match exec P E K n ci with
     |some (.ret v m1)=>exec P E K n {c with st:=back ord dst c.st v m1}
     |some (.Co u m1)=>exec P E K n (qZ ord c u m1)
     |none=>none
    |none=>none
  |.late g args m ord pv c=>match GI P g args m pv with
   |some ci=>match exec P E K n ci with
    |some (.ret _ m1)=>exec P E K n {c with st:=back ord none c.st (.aD []) m1}
    |_=>none
   |none=>none
  |.round args m ord dst c=>match GG args m with
   |some ci=>match exec P E K n ci with
    |some (.ret v m1)=>exec P E K n {c with st:=back ord dst c.st v m1}
    |_=>none
   |none=>none
  |.range g args m ord L c=>match init P g args m with
   |some ci=>match exec P E K n ci with
    |some (.ret v m1)=>match iV (back ord none c.st v m1).mem L with
     |some (m2,pd)=>exec P E K n (behind c m2 pd)
     |none=>none
    |_=>none
   |none=>none
  |.draw cO ops c=>match mZ P E c.f cO (fun g args m=>match pO K g args m with
     |some r=>some r
     |none=>match init P g args m with
      |some ci=>match exec P E K n ci with
       |some (.ret v m1)=>some (v,m1)
       |_=>none
      |none=>none) ops c.st with
   |some (st,ok)=>cond ok (exec P E K n {c with st:={st with dj:=c.st.dj,cR:=c.st.cR}}) none
   |none=>none
  |.fork l=>agree (l.map (exec P E K n))
  |.done o=>some o
  |.fail=>none
def LP (P:Program) (E:Env) (K:List ct) (n:Nat) (g:FuncId) (args:List AV) (m:Mem):Option Out:=
 match init P g args m with
 |some c=>exec P E K n c
 |none=>none
inductive Ans where
 |test (b:Bool)
 |call (v:AV) (m:Mem)
 |go
 |stop
inductive Fin where
 |out (o:Out)
 |at(c:cw)
open Go.RowKit
structure Gh where
 cm:Nat→Option Nat
 lo:Nat→Nat
 hi:Nat→Nat
 pure:Nat→Nat→Prop
def bN {α β:Type} (r:α→β→Prop):List α→List β→Prop
 |[],[]=>True
 |a::l,b::m=>r a b∧bN r l m
 |_,_=>False
section all2
variable {α β γ:Type} {r:α→β→Prop}
theorem bN.len : ∀{l:List α} {m:List β},bN r l m→l.length=m.length
 |[],[],_=>rfl
 |_::_,_::_,h=>congrArg (· + 1) (bN.len h.2)
 |[],_::_,h=>h.elim
 |_::_,[],h=>h.elim
theorem bN.mono {s:α→β→Prop} (Pw : ∀a b,r a b→s a b) : ∀{l:List α} {m:List β},bN r l m→bN s l m
 |[],[],_=>trivial
 |_::_,_::_,h=>⟨Pw _ _ h.1,bN.mono Pw h.2⟩
 |[],_::_,h=>h.elim
 |_::_,[],h=>h.elim
theorem bN.mem {s:α→β→Prop} : ∀{l:List α} {m:List β},(∀a b,a∈l→r a b→s a b)→bN r l m→bN s l m
 |[],[],_,_=>trivial
 |_::_,_::_,Pw,h=>⟨Pw _ _ (.head _) h.1,bN.mem (fun a b ha=>Pw a b (.tail _ ha)) h.2⟩
 |[],_::_,_,h=>h.elim
 |_::_,[],_,h=>h.elim
theorem bN.get : ∀{l:List α} {m:List β},bN r l m → ∀i (h:i<l.length) (h':i<m.length),r l[i] m[i]
 |_::_,_::_,h,0,_,_=>h.1
 |_::_,_::_,h,i+1,hi,hj=>bN.get h.2 i (cb hi) (cb hj)
 |[],[],_,_,h,_=>absurd h (Nat.not_lt_zero _)
 |[],_::_,h,_,_,_=>h.elim
 |_::_,[],h,_,_,_=>h.elim
theorem bN.dY : ∀{l:List α} {m:List β},l.length=m.length→(∀i (h:i<l.length) (h':i<m.length),r l[i] m[i])→bN r l m
 |[],[],_,_=>trivial
 |_::_,_::_,hl,h=>⟨h 0 (cf _) (cf _),bN.dY (Nat.succ.inj hl) fun i hi hj=>h (i+1) (ch hi) (ch hj)⟩
 |[],_::_,hl,_=>c9 hl
 |_::_,[],hl,_=>c9 hl
theorem bN.append : ∀{l l':List α} {m m':List β},bN r l m→bN r l' m'→bN r (l++l') (m++m')
 |[],_,[],_,_,h=>h
 |_::_,_,_::_,_,h,h'=>⟨h.1,bN.append h.2 h'⟩
 |[],_,_::_,_,h,_=>h.elim
 |_::_,_,[],_,h,_=>h.elim
theorem bN.drop : ∀{l:List α} {m:List β} (n:Nat),bN r l m→bN r (l.drop n) (m.drop n)
 |_,_,0,h=>h
 |[],[],_+1,_=>trivial
 |_::_,_::_,n+1,h=>bN.drop n h.2
 |[],_::_,_+1,h=>h.elim
 |_::_,[],_+1,h=>h.elim
theorem bN.take : ∀{l:List α} {m:List β} (n:Nat),bN r l m→bN r (l.take n) (m.take n)
 |[],[],0,_=>trivial
 |_::_,_::_,0,_=>trivial
 |[],[],_+1,_=>trivial
 |_::_,_::_,n+1,h=>⟨h.1,bN.take n h.2⟩
 |[],_::_,_,h=>h.elim
 |_::_,[],_,h=>h.elim
theorem bN.set : ∀{l:List α} {m:List β} (n:Nat) {a:α} {b:β},bN r l m→r a b→bN r (l.set n a) (m.set n b)
 |[],[],_,_,_,_,_=>trivial
 |_::_,_::_,0,_,_,h,hab=>⟨hab,h.2⟩
 |_::_,_::_,n+1,_,_,h,hab=>⟨h.1,bN.set n h.2 hab⟩
 |[],_::_,_,_,_,h,_=>h.elim
 |_::_,[],_,_,_,h,_=>h.elim
theorem bN.get? {l:List α} {m:List β} (h:bN r l m) {i:Nat} {a:α} (ha:l[i]? = some a) : ∃b,m[i]? = some b∧r a b:=by
 obtain⟨hi,rfl⟩:=dt.1 ha
 have hm:=h.len
 exact⟨m[i],df (by omega),h.get i hi (by omega)⟩
theorem bN.getD {l:List α} {m:List β} (h:bN r l m) {i:Nat} (hi:i<l.length) (d:α) (e:β):r (l.getD i d) (m.getD i e):=by
 have hm:=h.len
 rw[de,de,df hi,df (by omega:i<m.length)]
 exact h.get i hi (by omega)
end all2
inductive VP (g:Gh) (w:World):PV→Value→Prop
 |sc (v:Value):VP g w (.sc v) v
 |pp (off:Nat) (cells:List PV) (b o:Nat) (f:Nat→Value) (hp : ∀k,k<cells.length→g.pure b (o+k)∧w.cell? ⟨b,o+k,none⟩=some (f k)∧(f k).oneCell'=true)
   (hv : ∀k (h:k<cells.length),VP g w cells[k] (f k)):VP g w (.pp off cells) (.pointer (some ⟨b,o+off,none⟩))
 |ps (len sz:Nat) (cells:List PV) (b o cap:Nat) (f:Nat→Value) (hl:cells.length=len*sz) (hc:len≤cap) (hz:1≤sz)
   (hp : ∀k,k<cells.length→g.pure b (o+k)∧w.cell? ⟨b,o+k,none⟩=some (f k)∧(f k).oneCell'=true)
   (hv : ∀k (h:k<cells.length),VP g w cells[k] (f k)):VP g w (.ps len sz cells) (.slice (some ⟨b,o,none⟩) len cap)
 |xD (sz:Nat) (a:Option Addr) (cap:Nat) (hz:1≤sz∨(a=none∧cap=0)):VP g w (.ps 0 sz []) (.slice a 0 cap)
 |qQ (t:TypeId) (v:PV) (cv:Value) (h:VP g w v cv):VP g w (.qQ t v) (.iface t cv)
inductive VA (g:Gh) (w:World):AV→Value→Prop
 |az (v:Value):VA g w .az v
 |p (v:PV) (cv:Value) (h:VP g w v cv):VA g w (.p v) cv
 |os (tok:Option Nat) (len sz:Nat) (cells:List PV) (a:Option Addr) (cap:Nat) (h:VP g w (.ps len sz cells) (.slice a len cap))
   (hr:cap=len ∨ ∃t b o,tok=some t∧a=some ⟨b,o,none⟩∧g.cm t=some b∧g.lo t=o+len*sz∧g.hi t=o+cap*sz∧len≤cap):VA g w (.os tok len sz cells) (.slice a len cap)
 |mp (b off c:Nat) (h:g.cm b=some c):VA g w (.mp b off) (.pointer (some ⟨c,off,none⟩))
 |ms (b off len sz cap c:Nat) (h:g.cm b=some c) (hc:len≤cap):VA g w (.ms b off len sz (some cap)) (.slice (some ⟨c,off,none⟩) len cap)
 |mg (b off len sz cap c:Nat) (h:g.cm b=some c) (hc:len≤cap) (hh:off+cap*sz≤g.hi b):VA g w (.ms b off len sz none) (.slice (some ⟨c,off,none⟩) len cap)
 |fn (f:Fn) (l k:List AV) (fa ca:Array Value) (hl:l.length=fa.toList.length) (hk:k.length=ca.toList.length)
   (h : ∀i (h:i<l.length) (h':i<fa.toList.length),VA g w l[i] fa.toList[i]) (h2 : ∀i (h:i<k.length) (h':i<ca.toList.length),VA g w k[i] ca.toList[i]):VA g w (.fn f l k) (.func f fa ca)
 |agg (l:List AV) (cs:Array Value) (hl:l.length=cs.toList.length) (h : ∀i (h:i<l.length) (h':i<cs.toList.length),VA g w l[i] cs.toList[i]):VA g w (.agg l) (.agg cs)
 |aD (l:List AV) (cs:Array Value) (hl:l.length=cs.toList.length) (h : ∀i (h:i<l.length) (h':i<cs.toList.length),VA g w l[i] cs.toList[i]):VA g w (.aD l) (.tuple cs)
 |qQ (t:TypeId) (v:AV) (cv:Value) (h:VA g w v cv):VA g w (.qQ t v) (.iface t cv)
 |vm (b c:Nat) (h:g.cm b=some c):VA g w (.vm b) (.map (some c))
 |vy (b c:Nat) (h:g.cm b=some c):VA g w (.vy b) (.func (.yield c) #[] #[])
abbrev dz (g:Gh) (w:World):List AV→List Value→Prop:=bN (VA g w)
abbrev MX (g:Gh) (w:World):List PV→List Value→Prop:=bN (VP g w)
theorem VA.zL {g:Gh} {w:World} {l:List AV} {cs:Array Value}:VA g w (.agg l) (.agg cs)↔dz g w l cs.toList:=
 ⟨fun h=>by cases h with | agg _ _ hl h=>exact bN.dY hl h,fun h=> .agg l cs h.len fun i a b=>h.get i a b⟩
theorem VA.pP {g:Gh} {w:World} {l:List AV} {cs:Array Value}:VA g w (.aD l) (.tuple cs)↔dz g w l cs.toList:=
 ⟨fun h=>by cases h with | aD _ _ hl h=>exact bN.dY hl h,fun h=> .aD l cs h.len fun i a b=>h.get i a b⟩
theorem VA.pv {g:Gh} {w:World} {v:PV} {cv:Value}:VA g w (.p v) cv↔VP g w v cv:=
 ⟨fun h=>by cases h with | p _ _ h=>exact h,.p v cv⟩
theorem VA.fns {g:Gh} {w:World} {f:Fn} {l k:List AV} {cv:Value}:VA g w (.fn f l k) cv ↔ ∃fa ca:Array Value,cv = .func f fa ca∧dz g w l fa.toList∧dz g w k ca.toList:=
 ⟨fun h=>by cases h with | fn _ _ _ fa ca hl hk h h2=>exact⟨fa,ca,rfl,bN.dY hl h,bN.dY hk h2⟩,
  fun⟨fa,ca,e,h,h2⟩=>e ▸ .fn f l k fa ca h.len h2.len (fun i a b=>h.get i a b) fun i a b=>h2.get i a b⟩
theorem VP.aU {g:Gh} {w:World} {cv:Value} (h:VP g w .aU cv):False:=by cases h
structure Ext (g:Gh) (w:World) (g':Gh) (w':World):Prop where
 cm : ∀i c,g.cm i=some c→g'.cm i=some c∧g'.lo i=g.lo i∧g'.hi i=g.hi i
 pure : ∀c o,g.pure c o→g'.pure c o∧w'.cell? ⟨c,o,none⟩=w.cell? ⟨c,o,none⟩
theorem Ext.refl (g:Gh) (w:World):Ext g w g w:=⟨fun _ _ h=>⟨h,rfl,rfl⟩,fun _ _ h=>⟨h,rfl⟩⟩
theorem Ext.trans {g g' g'':Gh} {w w' w'':World} (h:Ext g w g' w') (k:Ext g' w' g'' w''):Ext g w g'' w'':=
 ⟨fun i c e=>⟨(k.cm i c (h.cm i c e).1).1,(k.cm i c (h.cm i c e).1).2.1.trans (h.cm i c e).2.1,(k.cm i c (h.cm i c e).1).2.2.trans (h.cm i c e).2.2⟩,
  fun c o e=>⟨(k.pure c o (h.pure c o e).1).1,(k.pure c o (h.pure c o e).1).2.trans (h.pure c o e).2⟩⟩
theorem VP.mono {g g':Gh} {w w':World} (e : ∀c o,g.pure c o→g'.pure c o∧w'.cell? ⟨c,o,none⟩=w.cell? ⟨c,o,none⟩) {v:PV} {cv:Value} (h:VP g w v cv):VP g' w' v cv:=by
 induction h with
 |sc v=>exact .sc v
 |pp off cells b o f hp hv ih=>exact .pp off cells b o f (fun k hk=>⟨(e _ _ (hp k hk).1).1,(e _ _ (hp k hk).1).2.trans (hp k hk).2.1,(hp k hk).2.2⟩) ih
 |ps len sz cells b o cap f hl hc hz hp hv ih=>exact .ps len sz cells b o cap f hl hc hz (fun k hk=>⟨(e _ _ (hp k hk).1).1,(e _ _ (hp k hk).1).2.trans (hp k hk).2.1,(hp k hk).2.2⟩) ih
 |xD sz a cap hz=>exact .xD sz a cap hz
 |qQ t v cv h ih=>exact .qQ t v cv ih
theorem VA.mono {g g':Gh} {w w':World} (e:Ext g w g' w') {v:AV} {cv:Value} (h:VA g w v cv):VA g' w' v cv:=by
 induction h with
 |az v=>exact .az v
 |p v cv h=>exact .p v cv (h.mono e.pure)
 |os tok len sz cells a cap h hr=>
  refine .os tok len sz cells a cap (h.mono e.pure) (hr.imp id ?_)
  rintro ⟨t,b,o,rfl,rfl,hb,hlo,hhi,hc⟩
  exact⟨t,b,o,rfl,rfl,(e.cm t b hb).1,(e.cm t b hb).2.1.trans hlo,(e.cm t b hb).2.2.trans hhi,hc⟩
 |mp b off c h=>exact .mp b off c (e.cm b c h).1
 |ms b off len sz cap c h hc=>exact .ms b off len sz cap c (e.cm b c h).1 hc
 |mg b off len sz cap c h hc hh=>exact .mg b off len sz cap c (e.cm b c h).1 hc (by rw[(e.cm b c h).2.2];exact hh)
 |fn f l k fa ca hl hk h h2 ih ih2=>exact .fn f l k fa ca hl hk ih ih2
 |agg l cs hl h ih=>exact .agg l cs hl ih
 |aD l cs hl h ih=>exact .aD l cs hl ih
 |qQ t v cv h ih=>exact .qQ t v cv ih
 |vm b c h=>exact .vm b c (e.cm b c h).1
 |vy b c h=>exact .vy b c (e.cm b c h).1
theorem dz.mono {g g':Gh} {w w':World} (e:Ext g w g' w') {l:List AV} {cs:List Value} (h:dz g w l cs):dz g' w' l cs:=bN.mono (fun _ _=>VA.mono e) h
def JF (g:Gh) (w:World) (l:List AV) (cs:List Value):Prop:=dz g w l cs ∧ ∀v∈cs,v.oneCell'=true
theorem JF.mono {g g':Gh} {w w':World} (e:Ext g w g' w') {l:List AV} {cs:List Value} (h:JF g w l cs):JF g' w' l cs:=⟨h.1.mono e,h.2⟩
def bf.cells?:bf→Option (List AV)
 |.pc l=>some (l.map .p)
 |.ac l=>some l
 |_=>none
def bf.ep:bf→Bool
 |.pc _ | .ac _ | .tok | .ob .. =>true
 |_=>false
def jU (g:Gh) (m:Mem) (c:Nat):Prop:= ∃i b,m[i]? = some b∧b.ep=true∧g.cm i=some c
def entriesOf:List Value→List Value→List Nat→List MapEntry
 |k::ks,v::vs,b::bs=>{key:=k,val:=v,born:=b}::entriesOf ks vs bs
 |_,_,_=>[]
def eG.is:eG→Obj→List Value→Prop
 |.map keys YV clock,ob,vs=>ob = .map (entriesOf keys vs YV).toArray clock
 |.MQ,ob,vs=>ob = .deferred (some [])∧vs=[]
 |.shut,ob,vs=>ob = .deferred none∧vs=[]
 |.opq,_,vs=>vs=[]
 |.gr t _,ob,vs=> ∃cs e n,ob = .cells cs e n∧e=t∧n.2≤n.1∧vs=cs.toList.take vs.length∧vs.length≤cs.size ∧ ∀v∈cs.toList,v.oneCell'=true
 |.stk t pre,ob,vs=> ∃cs e n,ob = .cells cs e n∧e=t∧n.2≤n.1∧pre++vs=cs.toList.take (pre.length+vs.length)∧pre.length+vs.length≤cs.size ∧ ∀v∈cs.toList,v.oneCell'=true
 |.gb t,ob,vs=> ∃cs e n,ob = .cells cs e n∧e=t∧n.2≤n.1∧vs=cs.toList.take vs.length∧vs.length≤cs.size∧(∀v∈cs.toList,∃k,v = .int .u8 k)∧cs.size≤9223372036854775807
 |.iter s pos,ob,vs=>ob = .stringIter s pos∧vs=[]
 |.Wd s pos more,ob,vs=>ob = .stringIter s pos∧vs=[]∧bx pos s.size=more
 |.smap ns,ob,vs=>vs=[] ∧ ∃bs clock,ob = .map (entriesOf (ns.map .string) (ns.map fun _=> .bool true) bs).toArray clock∧bs.length=ns.length
 |.MR keys,ob,vs=> ∃es clock bs,ob = .map es clock∧keys.length=vs.length∧bs.length=vs.length∧es.toList.Perm (entriesOf keys vs bs)
 |.loop f ps a b st pd,ob,vs=> ∃D,ob = .loop {state:=st,pending:=pd,fn:=f,tmps:=vs.toArray,params:=ps,assign:=a,body:=b,defers:=D}
def eG.room:eG→Obj→Nat→Prop
 |.gr _ _,.cells cs _ _,h=>cs.size=h
 |.stk _ _,.cells cs _ _,h=>cs.size=h
 |.gb _,.cells cs _ _,h=>cs.size=h
 |_,_,_=>True
structure Rel (g:Gh) (m:Mem) (w:World):Prop where
 Cp : ∀i,m.length≤i→g.cm i=none
 free : ∀i,m[i]? = some .free→g.cm i=none
 cells : ∀i b l,m[i]? = some b→b.cells?=some l → ∃c cs e n,g.cm i=some c∧w.heap[c]? = some (.cells cs e n)∧n.2≤n.1∧JF g w l cs.toList ∧ ∀o,¬g.pure c o
 tok : ∀i c,m[i]? = some .tok→g.cm i=some c → ∃cs e n,w.heap[c]? = some (.cells cs e n)∧g.hi i≤cs.size∧(n.2≤n.1∨g.hi i≤n.1) ∧ ∀o,g.lo i≤o→o<g.hi i → ¬g.pure c o
 inj : ∀i j b b' c,m[i]? = some b→m[j]? = some b'→b.ep=true→b'.ep=true→g.cm i=some c→g.cm j=some c→i=j
 there : ∀c o,g.pure c o → ∃v,w.cell? ⟨c,o,none⟩=some v
 obs : ∀i k l,m[i]? = some (.ob k l) → ∃c ob vs,g.cm i=some c∧w.heap[c]? = some ob∧dz g w l vs∧k.is ob vs∧(∀o,¬g.pure c o)∧k.room ob (g.hi i)
theorem Rel.oH {g:Gh} {m:Mem} {w:World} (h:Rel g m w) {c:Nat} (ho:jU g m c):c<w.heap.size:=by
 obtain⟨i,b,hi,hb,hc⟩:=ho
 have lt : ∀{o:Obj},w.heap[c]? = some o→c<w.heap.size:=fun e=>by
  rcases be c w.heap.size with h | h
  · exact h
  · simp[il h] at e
 cases b with
 |free=>simp[bf.ep] at hb
 |dead=>simp[bf.ep] at hb
 |pc l=>obtain⟨c',cs,e,n,h1,h2,_⟩:=h.cells i _ _ hi rfl;rw[hc] at h1;cases h1;exact lt h2
 |ac l=>obtain⟨c',cs,e,n,h1,h2,_⟩:=h.cells i _ _ hi rfl;rw[hc] at h1;cases h1;exact lt h2
 |tok=>obtain⟨cs,e,n,h2,_⟩:=h.tok i c hi hc;exact lt h2
 |ob k l=>obtain⟨c',ob,vs,h1,h2,_⟩:=h.obs i _ _ hi;rw[hc] at h1;cases h1;exact lt h2
theorem Rel.pQ {g:Gh} {m:Mem} {w:World} (h:Rel g m w) {c o:Nat} (hp:g.pure c o):c<w.heap.size:=by
 obtain⟨v,hv⟩:=h.there c o hp
 exact World.block_lt_of_cell? (h:=hv)
structure dU (g:Gh) (m:Mem) (w:World) (g':Gh) (m':Mem) (w':World):Prop where
 size:w.heap.size≤w'.heap.size
 keep : ∀c,c<w.heap.size → ¬jU g m c→w'.heap[c]? = w.heap[c]?
 pure : ∀c o,g.pure c o→g'.pure c o∧w'.cell? ⟨c,o,none⟩=w.cell? ⟨c,o,none⟩
 fresh : ∀c o,g'.pure c o→g.pure c o∨jU g m c∨w.heap.size≤c
 owned : ∀c,jU g' m' c→jU g m c∨w.heap.size≤c
 os:w'.os=w.os
 tape:w'.tape=w.tape
 output:w'.output=w.output
theorem dU.refl (g:Gh) (m:Mem) (w:World):dU g m w g m w:=⟨aw _,fun _ _ _=>rfl,fun _ _ h=>⟨h,rfl⟩,fun _ _ h=> .inl h,fun _ h=> .inl h,rfl,rfl,rfl⟩
theorem dU.trans {g g' g'':Gh} {m m' m'':Mem} {w w' w'':World} (h:dU g m w g' m' w') (k:dU g' m' w' g'' m'' w''):dU g m w g'' m'' w'' where
 size:=ba h.size k.size
 keep c hc hn:=(k.keep c (Nat.lt_of_lt_of_le hc h.size) fun ho=>(h.owned c ho).elim hn fun hh=>absurd hc (da.2 hh)).trans (h.keep c hc hn)
 pure c o hp:=⟨(k.pure c o (h.pure c o hp).1).1,(k.pure c o (h.pure c o hp).1).2.trans (h.pure c o hp).2⟩
 fresh c o hp:=by
  rcases k.fresh c o hp with h1 | h1 | h1
  · exact h.fresh c o h1
  · exact .inr (h.owned c h1)
  · exact .inr (.inr (ba h.size h1))
 owned c ho:=by
  rcases k.owned c ho with h1 | h1
  · exact h.owned c h1
  · exact .inr (ba h.size h1)
 os:=k.os.trans h.os
 tape:=k.tape.trans h.tape
 output:=k.output.trans h.output
theorem dU.less {g:Gh} {m m':Mem} {w:World} (h : ∀c,jU g m' c→jU g m c):dU g m w g m' w:=
 ⟨aw _,fun _ _ _=>rfl,fun _ _ h=>⟨h,rfl⟩,fun _ _ h=> .inl h,fun c ho=> .inl (h c ho),rfl,rfl,rfl⟩
end Go.Am
end
section
namespace Go.Am
theorem AI : ∀{a b:List UInt8},z6 a b=true→a=b
 |[],[],_=>rfl
 |x::r,y::s,h=>by
  simp only[z6,jn] at h
  rw[AI h.2,UInt8.toNat_inj.1 (ag h.1)]
 |[],_::_,h=>by cases h
 |_::_,[],h=>by cases h
theorem P1 {a b:Value} (h:GC a b=true):a=b:=by
 unfold GC at h
 split at h
 · simp only[jn,Fh,beq_iff_eq,decide_eq_true_eq] at h
   rw[h.1,h.2]
 · rename_i a b
   cases a<;>cases b<;>first
    |rfl
    |cases h
 · rename_i a b
   have:=AI h
   cases a with
   |mk a=>cases b with
    |mk b=>
     congr 1
     congr 1
     exact iv.1 this
 all_goals first
  |rfl
  |cases h
mutual
theorem Fw : ∀{a b:PV},oF a b=true→a=b
 |.aU,b,h=>by cases b<;>first | rfl | cases h
 |.sc v,b,h=>by
  cases b<;>first
   |cases h
   |exact congrArg _ (P1 h)
 |.pp o l,b,h=>by
  cases b with
  |pp q m=>
   simp only[oF,jn] at h
   rw[ag h.1,rj h.2]
  |_=>cases h
 |.ps n z l,b,h=>by
  cases b with
  |ps k y m=>
   simp only[oF,jn] at h
   rw[ag h.1,ag h.2.1,rj h.2.2]
  |_=>cases h
 |.qQ t v,b,h=>by
  cases b with
  |qQ s u=>
   simp only[oF,jn] at h
   rw[ag h.1,Fw h.2]
  |_=>cases h
theorem rj : ∀{a b:List PV},Aw a b=true→a=b
 |[],b,h=>by cases b<;>first | rfl | cases h
 |x::r,b,h=>by
  cases b with
  |nil=>cases h
  |cons y s=>
   simp only[Aw,jn] at h
   rw[Fw h.1,rj h.2]
end
theorem P3 {a b:Option Nat} (h:eqO a b=true):a=b:=by
 cases a<;>cases b<;>first
  |rfl
  |cases h
  |exact congrArg _ (ag h)
mutual
theorem kZ : ∀{a b:AV},dy a b=true→a=b
 |.az,b,h=>by cases b<;>first | rfl | cases h
 |.p v,b,h=>by
  cases b<;>first
   |cases h
   |exact congrArg _ (Fw h)
 |.os t n z l,b,h=>by
  cases b with
  |os s k y m=>
   simp only[dy,jn] at h
   rw[P3 h.1,ag h.2.1,ag h.2.2.1,rj h.2.2.2]
  |_=>cases h
 |.mp x o,b,h=>by
  cases b with
  |mp c q=>
   simp only[dy,jn] at h
   rw[ag h.1,ag h.2]
  |_=>cases h
 |.ms x o n z k,b,h=>by
  cases b with
  |ms c q m y j=>
   simp only[dy,jn] at h
   rw[ag h.1,ag h.2.1,ag h.2.2.1,ag h.2.2.2.1,P3 h.2.2.2.2]
  |_=>cases h
 |.fn f l m,b,h=>by
  cases b with
  |fn g k n=>
   cases f<;>cases g<;>first
    |cases h
    |(simp only[dy,jn] at h
      rw[ag h.1,gY h.2.1,gY h.2.2])
  |_=>cases f<;>cases h
 |.agg l,b,h=>by
  cases b<;>first
   |cases h
   |exact congrArg _ (gY h)
 |.aD l,b,h=>by
  cases b<;>first
   |cases h
   |exact congrArg _ (gY h)
 |.qQ t v,b,h=>by
  cases b with
  |qQ s u=>
   simp only[dy,jn] at h
   rw[ag h.1,kZ h.2]
  |_=>cases h
 |.vm x,b,h=>by
  cases b<;>first
   |cases h
   |exact congrArg _ (ag h)
 |.vy x,b,h=>by
  cases b<;>first
   |cases h
   |exact congrArg _ (ag h)
theorem gY : ∀{a b:List AV},mV a b=true→a=b
 |[],b,h=>by cases b<;>first | rfl | cases h
 |x::r,b,h=>by
  cases b with
  |nil=>cases h
  |cons y s=>
   simp only[mV,jn] at h
   rw[kZ h.1,gY h.2]
end
theorem Fx : ∀{a b:List Value},PO a b=true→a=b
 |[],b,h=>by cases b<;>first | rfl | cases h
 |x::r,b,h=>by
  cases b with
  |nil=>cases h
  |cons y s=>
   simp only[PO,jn] at h
   rw[P1 h.1,Fx h.2]
theorem P4 {a b:Value} (h:PR a b=true):a=b:=by
 unfold PR at h
 split at h
 · rw[iv.1 (Fx h)]
 · cases h
theorem De : ∀{a b:List Value},Fi a b=true→a=b
 |[],b,h=>by cases b<;>first | rfl | cases h
 |x::r,b,h=>by
  cases b with
  |nil=>cases h
  |cons y s=>
   simp only[Fi,jn] at h
   rw[P4 h.1,De h.2]
theorem Df : ∀{a b:List Nat},Fj a b=true→a=b
 |[],b,h=>by cases b<;>first | rfl | cases h
 |x::r,b,h=>by
  cases b with
  |nil=>cases h
  |cons y s=>
   simp only[Fj,jn] at h
   rw[ag h.1,Df h.2]
theorem MY {a b:Bool} (h:fV a b=true):a=b:=by cases a<;>cases b<;>first | rfl | cases h
theorem P5 {a b:bf} (h:LF a b=true):a=b:=by
 unfold LF at h
 split at h<;>first
  |rfl
  |cases h
  |exact congrArg _ (rj h)
  |exact congrArg _ (gY h)
  |(simp only[jn] at h;rw[De h.1,gY h.2];done)
  |(simp only[jn] at h;rw[ag h.1,gY h.2];done)
  |(simp only[jn] at h;rw[ag h.1,MY h.2.1,gY h.2.2];done)
  |(simp only[jn] at h;rw[Fx h.1,Df h.2.1,ag h.2.2.1,gY h.2.2.2];done)
theorem lD : ∀{a b:Mem},qW a b=true→a=b
 |[],b,h=>by cases b<;>first | rfl | cases h
 |x::r,b,h=>by
  cases b with
  |nil=>cases h
  |cons y s=>
   simp only[qW,jn] at h
   rw[P5 h.1,lD h.2]
theorem AJ : ∀{a b:List Bool},Ad a b=true→a=b
 |[],b,h=>by cases b<;>first | rfl | cases h
 |x::r,b,h=>by
  cases b with
  |nil=>cases h
  |cons y s=>
   simp only[Ad,jn] at h
   rw[AJ h.2]
   have:=h.1
   cases x<;>cases y<;>first | rfl | cases this
open Go.RowKit
theorem rm : ∀{l:List AV},vc l=true→(l.map Ct).map AV.p=l
 |[],_=>rfl
 |.p v::r,h=>by
  simp only[vc] at h
  have:=rm h
  simp only[List.map_cons,Ct]
  rw[this]
 |.az::_,h | .os .. :: _,h | .mp .. :: _,h | .ms .. :: _,h | .fn .. :: _,h | .agg _::_,h | .aD _::_,h | .qQ .. :: _,h | .vm _::_,h | .vy _::_,h=>by simp[vc] at h
theorem vo {l:List AV} {vs:List PV} (h:MU l=some vs):vs.map AV.p=l:=by
 unfold MU at h
 cases hp:vc l with
 |false=>simp[hp] at h
 |true=>
  simp only[hp,cond_true,kb] at h
  subst h
  exact rm hp
theorem rq (l:List AV):(Gz l).cells?=some l:=by
 unfold Gz
 cases h:MU l with
 |none=>rfl
 |some vs=>simp[bf.cells?,vo h]
theorem ej {b:bf} {l:List AV} (h:b.cells?=some l):b.ep=true:=by cases b<;>simp_all [bf.cells?,bf.ep]
def Gh.put (g:Gh) (i c lo hi:Nat):Gh:=
 {g with cm:=fun j=>if j=i then some c else g.cm j,lo:=fun j=>if j=i then lo else g.lo j,hi:=fun j=>if j=i then hi else g.hi j}
def Gh.more (g:Gh) (c lo hi:Nat):Gh:={g with pure:=fun c' o=>g.pure c' o∨(c'=c∧lo≤o∧o<hi)}
theorem getElem?_set' {α:Type} (l:List α) (i j:Nat) (a:α):(l.set i a)[j]? = if i=j∧i<l.length then some a else l[j]? :=by
 rw[List.getElem?_set]
 by_cases h:i=j
 · subst h;by_cases h2:i<l.length<;>simp[h2]
 · simp[h]
theorem bX {α:Type} {l:List α} {i:Nat} {a:α} (h:l[i]? = some a):i<l.length:=(dt.1 h).1
theorem fM {w w':World} {c o:Nat} (h:w'.heap[c]? = w.heap[c]?):w'.cell? ⟨c,o,none⟩=w.cell? ⟨c,o,none⟩:=by
 simp only[World.cell?,h]
theorem bG {w:World} {c o:Nat} {cs:Array Value} {e:TypeId} {n:Nat×Nat} (h:w.heap[c]? = some (.cells cs e n)):w.cell? ⟨c,o,none⟩=cs[o]? :=by
 simp[World.cell?,h]
theorem bW {w:World} {c:Nat} {o:Obj} (h:w.heap[c]? = some o):c<w.heap.size:=by
 rcases be c w.heap.size with k | k
 · exact k
 · simp[il k] at h
theorem xE {g:Gh} {m:Mem} {i:Nat} {b:bf} {c:Nat} (h:jU g (m.set i b) c):(b.ep=true∧g.cm i=some c)∨(∃j b',j≠i∧m[j]? = some b'∧b'.ep=true∧g.cm j=some c):=by
 obtain⟨j,b',hj,ho,hc⟩:=h
 rw[getElem?_set'] at hj
 by_cases e:i=j∧i<m.length
 · rw[if_pos e] at hj;cases hj;exact .inl ⟨ho,e.1▸hc⟩
 · rw[if_neg e] at hj
   refine .inr ⟨j,b',fun h=> ?_,hj,ho,hc⟩
   subst h
   exact e ⟨rfl,bX hj⟩
theorem Rel.kill {g:Gh} {m:Mem} {w:World} (h:Rel g m w) (i:Nat):Rel g (m.set i .dead) w∧dU g m w g (m.set i .dead) w:=by
 have get : ∀j b,(m.set i .dead)[j]? = some b→b = .dead∨(j≠i∧m[j]? = some b):=by
  intro j b hj
  rw[getElem?_set'] at hj
  by_cases e:i=j∧i<m.length
  · rw[if_pos e] at hj;exact .inl (kc hj).symm
  · rw[if_neg e] at hj
    by_cases e2:i=j
    · subst e2;exact absurd ⟨rfl,bX hj⟩ e
    · exact .inr ⟨fun h=>e2 h.symm,hj⟩
 refine⟨⟨fun j hj=>h.Cp j (by simpa using hj),fun j hj=> ?_,fun j b l hj hl=> ?_,fun j c hj hc=> ?_,fun j k b b' c hj hk ho ho' hc iS=> ?_,h.there,fun j kk ll hj=> ?_⟩,dU.less fun c ho=> ?_⟩
 · rcases get j _ hj with e | ⟨_,e⟩
   · cases e
   · exact h.free j e
 · rcases get j _ hj with e | ⟨_,e⟩
   · subst e;cases hl
   · exact h.cells j b l e hl
 · rcases get j _ hj with e | ⟨_,e⟩
   · cases e
   · exact h.tok j c e hc
 · rcases get j _ hj with e | ⟨_,e⟩
   · subst e;simp[bf.ep] at ho
   rcases get k _ hk with e' | ⟨_,e'⟩
   · subst e';simp[bf.ep] at ho'
   exact h.inj j k b b' c e e' ho ho' hc iS
 · rcases get j _ hj with e | ⟨_,e⟩
   · cases e
   · exact h.obs j kk ll e
 · obtain⟨j,b,hj,hb,hc⟩:=ho
   rcases get j _ hj with e | ⟨_,e⟩
   · subst e;simp[bf.ep] at hb
   · exact⟨j,b,e,hb,hc⟩
theorem Rel.write {g:Gh} {m:Mem} {w w':World} (h:Rel g m w) {i c:Nat} {b b':bf} {l l':List AV} {cs':Array Value} {e':TypeId} {n':Nat×Nat}
  (hi:m[i]? = some b) (hl:b.cells?=some l) (hc:g.cm i=some c) (hl':b'.cells?=some l')
  (hw : ∀k,k≠c→w'.heap[k]? = w.heap[k]?) (hs:w'.heap.size=w.heap.size) (ho:w'.os=w.os) (ht:w'.tape=w.tape) (hu:w'.output=w.output)
  (hh:w'.heap[c]? = some (.cells cs' e' n')) (hn:n'.2≤n'.1) (hv:JF g w l' cs'.toList) :
  Rel g (m.set i b') w'∧Ext g w g w'∧dU g m w g (m.set i b') w':=by
 obtain⟨c0,cs,e,n,h1,h2,h3,h4,h5⟩:=h.cells i b l hi hl
 rw[hc] at h1;cases h1
 have hp : ∀c' o,g.pure c' o→w'.cell? ⟨c',o,none⟩=w.cell? ⟨c',o,none⟩:=fun c' o p=>fM (hw c' fun e=>h5 o (e▸p))
 have ext:Ext g w g w':=⟨fun _ _ h=>⟨h,rfl,rfl⟩,fun c' o p=>⟨p,hp c' o p⟩⟩
 have get : ∀j x,(m.set i b')[j]? = some x→(j=i∧x=b')∨(j≠i∧m[j]? = some x):=by
  intro j x hj
  rw[getElem?_set'] at hj
  by_cases e:i=j∧i<m.length
  · rw[if_pos e] at hj;exact .inl ⟨e.1.symm,(kc hj).symm⟩
  · rw[if_neg e] at hj
    by_cases e2:i=j
    · subst e2;exact absurd ⟨rfl,bX hj⟩ e
    · exact .inr ⟨fun h=>e2 h.symm,hj⟩
 have ne : ∀j x c',j≠i→m[j]? = some x→x.ep=true→g.cm j=some c'→c'≠c:=fun j x c' hji hj ho iS e=>hji (h.inj j i x b c hj hi ho (ej hl) (e▸iS) hc)
 refine⟨⟨fun j hj=>h.Cp j (by simpa using hj),fun j hj=> ?_,fun j x k hj hk=> ?_,fun j c' hj iS=> ?_,fun j k x x' c' hj hk ho ho' jG kB=> ?_,fun c' o p=> ?_,fun j kk ll hj=> ?_⟩,ext,⟨by omega,fun k hk hn=> ?_,fun c' o p=>⟨p,hp c' o p⟩,fun _ _ p=> .inl p,fun c' ho'=> ?_,ho,ht,hu⟩⟩
 · rcases get j _ hj with⟨rfl,e⟩ | ⟨_,e⟩
   · subst e;cases hl'
   · exact h.free j e
 · rcases get j _ hj with⟨rfl,e⟩ | ⟨hji,e⟩
   · subst e
     rw[hl'] at hk;cases hk
     exact⟨c,cs',e',n',hc,hh,hn,hv.mono ext,h5⟩
   · obtain⟨c1,cs1,e1,n1,k1,k2,k3,k4,k5⟩:=h.cells j x k e hk
     exact⟨c1,cs1,e1,n1,k1,(hw c1 (ne j x c1 hji e (ej hk) k1)).trans k2,k3,k4.mono ext,k5⟩
 · rcases get j _ hj with⟨rfl,e⟩ | ⟨hji,e⟩
   · subst e;cases hl'
   · obtain⟨cs1,e1,n1,k2,k3,k4,k5⟩:=h.tok j c' e iS
     exact⟨cs1,e1,n1,(hw c' (ne j _ c' hji e rfl iS)).trans k2,k3,k4,k5⟩
 · rcases get j _ hj with⟨rfl,e⟩ | ⟨hji,e⟩<;>rcases get k _ hk with⟨rfl,e'⟩ | ⟨hki,e'⟩
   · rfl
   · rw[hc] at jG;cases jG
     exact absurd rfl (ne k x' _ hki e' ho' kB)
   · rw[hc] at kB;cases kB
     exact absurd rfl (ne j x _ hji e ho jG)
   · exact h.inj j k x x' c' e e' ho ho' jG kB
 · obtain⟨v,hv⟩:=h.there c' o p
   exact⟨v,(hp c' o p).trans hv⟩
 · rcases get j _ hj with⟨rfl,e⟩ | ⟨hji,e⟩
   · subst e;cases hl'
   · obtain⟨c1,JG,vs1,k1,k2,k3,k6,k7,k8⟩:=h.obs j kk ll e
     exact⟨c1,JG,vs1,k1,(hw c1 (ne j _ c1 hji e rfl k1)).trans k2,k3.mono ext,k6,k7,k8⟩
 · exact hw k fun e=>hn ⟨i,b,hi,ej hl,e▸hc⟩
 · rcases xE ho' with⟨_,k⟩ | ⟨j,x,_,k1,k2,k3⟩
   · exact .inl ⟨i,b,hi,ej hl,k⟩
   · exact .inl ⟨j,x,k1,k2,k3⟩
theorem bn {m:Mem} {i:Nat} {b':bf} {j:Nat} {x:bf} (hj:(m.set i b')[j]? = some x):(j=i∧x=b')∨(j≠i∧m[j]? = some x):=by
 rw[getElem?_set'] at hj
 by_cases e:i=j∧i<m.length
 · rw[if_pos e] at hj;exact .inl ⟨e.1.symm,(kc hj).symm⟩
 · rw[if_neg e] at hj
   by_cases e2:i=j
   · subst e2;exact absurd ⟨rfl,bX hj⟩ e
   · exact .inr ⟨fun h=>e2 h.symm,hj⟩
structure uz (w w':World) (o:Obj):Prop where
 heap:w'.heap=w.heap.push o
 os:w'.os=w.os
 tape:w'.tape=w.tape
 output:w'.output=w.output
theorem uz.old {w w':World} {o:Obj} (h:uz w w' o) {k:Nat} (hk:k<w.heap.size):w'.heap[k]? = w.heap[k]? :=by
 rw[h.heap,im,if_neg (by omega)]
theorem uz.new {w w':World} {o:Obj} (h:uz w w' o):w'.heap[w.heap.size]? = some o:=by
 rw[h.heap,im,if_pos rfl]
theorem uz.size {w w':World} {o:Obj} (h:uz w w' o):w'.heap.size=w.heap.size+1:=by rw[h.heap];simp
theorem Rel.alloc {g:Gh} {m:Mem} {w w':World} (h:Rel g m w) {i:Nat} {b:bf} {l:List AV} {cs:Array Value} {e:TypeId}
  (hi:m[i]? = some .free) (hl:b.cells?=some l) (hv:JF g w l cs.toList) (hw:uz w w' (.cells cs e)) :
  Rel (g.put i w.heap.size 0 0) (m.set i b) w'∧Ext g w (g.put i w.heap.size 0 0) w'∧dU g m w (g.put i w.heap.size 0 0) (m.set i b) w':=by
 have hf:=h.free i hi
 have Cq:=bX hi
 have hp : ∀c o,g.pure c o→w'.cell? ⟨c,o,none⟩=w.cell? ⟨c,o,none⟩:=fun c o p=>fM (hw.old (h.pQ p))
 have bo : ∀j,j≠i→(g.put i w.heap.size 0 0).cm j=g.cm j:=fun j hj=>by simp[Gh.put,hj]
 have bi:(g.put i w.heap.size 0 0).cm i=some w.heap.size:=by simp[Gh.put]
 have ext:Ext g w (g.put i w.heap.size 0 0) w':=⟨fun j c hc=>by
  have:j≠i:=fun e=>by subst e;rw[hf] at hc;cases hc
  simp[Gh.put,this,hc],fun c o p=>⟨p,hp c o p⟩⟩
 have lt : ∀j x c,m[j]? = some x→x.ep=true→g.cm j=some c→c<w.heap.size:=fun j x c hj ho hc=>h.oH ⟨j,x,hj,ho,hc⟩
 refine⟨⟨fun j hj=> ?_,fun j hj=> ?_,fun j x k hj hk=> ?_,fun j c hj hc=> ?_,fun j k x x' c hj hk ho ho' jG kB=> ?_,fun c o p=> ?_,fun j kk ll hj=> ?_⟩,ext,⟨by rw[hw.size];omega,fun k hk _=>hw.old hk,fun c o p=>⟨p,hp c o p⟩,fun _ _ p=> .inl p,fun c ho=> ?_,hw.os,hw.tape,hw.output⟩⟩
 · rw[ed] at hj
   rw[bo j (by omega)];exact h.Cp j hj
 · rcases bn hj with⟨rfl,e⟩ | ⟨hji,e⟩
   · subst e;cases hl
   · rw[bo j hji];exact h.free j e
 · rcases bn hj with⟨rfl,e⟩ | ⟨hji,e⟩
   · subst e;rw[hl] at hk;cases hk
     refine⟨_,cs,_,(0,0),bi,hw.new,aw _,hv.mono ext,fun o p=> ?_⟩
     have:=h.pQ p
     omega
   · obtain⟨c1,cs1,e1,n1,k1,k2,k3,k4,k5⟩:=h.cells j x k e hk
     exact⟨c1,cs1,e1,n1,(bo j hji).trans k1,(hw.old (bW k2)).trans k2,k3,k4.mono ext,k5⟩
 · rcases bn hj with⟨rfl,e⟩ | ⟨hji,e⟩
   · subst e;cases hl
   · rw[bo j hji] at hc
     obtain⟨cs1,e1,n1,k2,k3,k4,k5⟩:=h.tok j c e hc
     have h1:(g.put i w.heap.size 0 0).hi j=g.hi j:=by simp[Gh.put,hji]
     have h2:(g.put i w.heap.size 0 0).lo j=g.lo j:=by simp[Gh.put,hji]
     rw[h1,h2]
     exact⟨cs1,e1,n1,(hw.old (bW k2)).trans k2,k3,k4,k5⟩
 · rcases bn hj with⟨rfl,e⟩ | ⟨hji,e⟩<;>rcases bn hk with⟨rfl,e'⟩ | ⟨hki,e'⟩
   · rfl
   · rw[bi] at jG;cases jG
     rw[bo k hki] at kB
     exact absurd (lt k x' _ e' ho' kB) (a6 _)
   · rw[bi] at kB;cases kB
     rw[bo j hji] at jG
     exact absurd (lt j x _ e ho jG) (a6 _)
   · rw[bo j hji] at jG;rw[bo k hki] at kB
     exact h.inj j k x x' c e e' ho ho' jG kB
 · obtain⟨v,hv⟩:=h.there c o p
   exact⟨v,(hp c o p).trans hv⟩
 · rcases bn hj with⟨rfl,e⟩ | ⟨hji,e⟩
   · subst e;cases hl
   · obtain⟨c1,JG,vs1,k1,k2,k3,k6,k7,k8⟩:=h.obs j kk ll e
     exact⟨c1,JG,vs1,(bo j hji).trans k1,(hw.old (bW k2)).trans k2,k3.mono ext,k6,k7,by simpa[Gh.put,hji] using k8⟩
 · obtain⟨j,x,hj,hx,hc⟩:=ho
   rcases bn hj with⟨rfl,e⟩ | ⟨hji,e⟩
   · rw[bi] at hc;cases hc;exact .inr (aw _)
   · rw[bo j hji] at hc;exact .inl ⟨j,x,e,hx,hc⟩
theorem Rel.fresh {g:Gh} {m:Mem} {w w':World} (h:Rel g m w) {i k:Nat} {cs:Array Value} {e:TypeId} {n:Nat×Nat}
  (hi:m[i]? = some .free) (hw:uz w w' (.cells cs e n)) (hk:k≤cs.size) (hn:n.2≤n.1∨cs.size≤n.1) :
  let g':=(g.put i w.heap.size k cs.size).more w.heap.size 0 k
  Rel g' (m.set i .tok) w'∧Ext g w g' w'∧dU g m w g' (m.set i .tok) w':=by
 intro g'
 have hf:=h.free i hi
 have Cq:=bX hi
 have hp : ∀c o,g.pure c o→w'.cell? ⟨c,o,none⟩=w.cell? ⟨c,o,none⟩:=fun c o p=>fM (hw.old (h.pQ p))
 have bo : ∀j,j≠i→g'.cm j=g.cm j:=fun j hj=>by simp[g',Gh.put,Gh.more,hj]
 have bi:g'.cm i=some w.heap.size:=by simp[g',Gh.put,Gh.more]
 have ext:Ext g w g' w':=⟨fun j c hc=>by
  have:j≠i:=fun e=>by subst e;rw[hf] at hc;cases hc
  simp[g',Gh.put,Gh.more,this,hc],fun c o p=>⟨.inl p,hp c o p⟩⟩
 have lt : ∀j x c,m[j]? = some x→x.ep=true→g.cm j=some c→c<w.heap.size:=fun j x c hj ho hc=>h.oH ⟨j,x,hj,ho,hc⟩
 refine⟨⟨fun j hj=> ?_,fun j hj=> ?_,fun j x l hj hl=> ?_,fun j c hj hc=> ?_,fun j k x x' c hj hk ho ho' jG kB=> ?_,fun c o p=> ?_,fun j kk ll hj=> ?_⟩,ext,⟨by rw[hw.size];omega,fun k hk _=>hw.old hk,fun c o p=>⟨.inl p,hp c o p⟩,fun c o p=> ?_,fun c ho=> ?_,hw.os,hw.tape,hw.output⟩⟩
 · rw[ed] at hj
   rw[bo j (by omega)];exact h.Cp j hj
 · rcases bn hj with⟨rfl,e⟩ | ⟨hji,e⟩
   · cases e
   · rw[bo j hji];exact h.free j e
 · rcases bn hj with⟨rfl,e⟩ | ⟨hji,e⟩
   · subst e;cases hl
   · obtain⟨c1,cs1,e1,n1,k1,k2,k3,k4,k5⟩:=h.cells j x l e hl
     refine⟨c1,cs1,e1,n1,(bo j hji).trans k1,(hw.old (bW k2)).trans k2,k3,k4.mono ext,fun o p=> ?_⟩
     rcases p with p | ⟨rfl,_⟩
     · exact k5 o p
     · exact absurd (bW k2) (a6 _)
 · rcases bn hj with⟨rfl,_⟩ | ⟨hji,e⟩
   · rw[bi] at hc;cases hc
     refine⟨cs,_,n,hw.new,by simp[g',Gh.put,Gh.more],by simpa[g',Gh.put,Gh.more] using hn,fun o h1 _ p=> ?_⟩
     have h1':k≤o:=by simpa[g',Gh.put,Gh.more] using h1
     rcases p with p | ⟨_,_,p⟩
     · exact absurd (h.pQ p) (a6 _)
     · omega
   · rw[bo j hji] at hc
     obtain⟨cs1,e1,n1,k2,k3,k4,k5⟩:=h.tok j c e hc
     have h1:g'.hi j=g.hi j:=by simp[g',Gh.put,Gh.more,hji]
     have h2:g'.lo j=g.lo j:=by simp[g',Gh.put,Gh.more,hji]
     rw[h1,h2]
     refine⟨cs1,e1,n1,(hw.old (bW k2)).trans k2,k3,k4,fun o a b p=> ?_⟩
     rcases p with p | ⟨rfl,_⟩
     · exact k5 o a b p
     · exact absurd (bW k2) (a6 _)
 · rcases bn hj with⟨rfl,e⟩ | ⟨hji,e⟩<;>rcases bn hk with⟨rfl,e'⟩ | ⟨hki,e'⟩
   · rfl
   · rw[bi] at jG;cases jG
     rw[bo k hki] at kB
     exact absurd (lt k x' _ e' ho' kB) (a6 _)
   · rw[bi] at kB;cases kB
     rw[bo j hji] at jG
     exact absurd (lt j x _ e ho jG) (a6 _)
   · rw[bo j hji] at jG;rw[bo k hki] at kB
     exact h.inj j k x x' c e e' ho ho' jG kB
 · rcases p with p | ⟨rfl,_,p⟩
   · obtain⟨v,hv⟩:=h.there c o p
     exact⟨v,(hp c o p).trans hv⟩
   · exact⟨cs[o],by rw[bG hw.new,ic (by omega)]⟩
 · rcases bn hj with⟨rfl,e⟩ | ⟨hji,e⟩
   · cases e
   · obtain⟨c1,JG,vs1,k1,k2,k3,k6,k7,k8⟩:=h.obs j kk ll e
     exact⟨c1,JG,vs1,(bo j hji).trans k1,(hw.old (bW k2)).trans k2,k3.mono ext,k6,fun o p=>p.elim (k7 o) fun q=>absurd (bW k2) (by rw[q.1];exact a6 _),by simpa[g',Gh.put,Gh.more,hji] using k8⟩
 · rcases p with p | ⟨rfl,_⟩
   · exact .inl p
   · exact .inr (.inr (aw _))
 · obtain⟨j,x,hj,hx,hc⟩:=ho
   rcases bn hj with⟨rfl,e⟩ | ⟨hji,e⟩
   · rw[bi] at hc;cases hc;exact .inr (aw _)
   · rw[bo j hji] at hc;exact .inl ⟨j,x,e,hx,hc⟩
theorem Rel.spare {g:Gh} {m:Mem} {w w':World} (h:Rel g m w) {t i c k:Nat} {cs cs':Array Value} {e e':TypeId} {n:Nat×Nat}
  (ht:m[t]? = some .tok) (hc:g.cm t=some c) (hi:m[i]? = some .free) (hcs:w.heap[c]? = some (.cells cs e n)) (hk:g.lo t+k≤g.hi t)
  (hw : ∀j,j≠c→w'.heap[j]? = w.heap[j]?) (hs:w'.heap.size=w.heap.size) (ho:w'.os=w.os) (htp:w'.tape=w.tape) (hu:w'.output=w.output)
  (hh:w'.heap[c]? = some (.cells cs' e' n)) (hcz:cs'.size=cs.size) (hout : ∀o,o<g.lo t∨g.hi t≤o→cs'[o]? = cs[o]?) :
  let g':=(g.put i c (g.lo t+k) (g.hi t)).more c (g.lo t) (g.lo t+k)
  Rel g' ((m.set t .dead).set i .tok) w'∧Ext g w g' w'∧dU g m w g' ((m.set t .dead).set i .tok) w':=by
 intro g'
 have hf:=h.free i hi
 have Cq:=bX hi
 have YZ:t≠i:=fun e=>by subst e;rw[ht] at hi;cases hi
 obtain⟨cs0,e0,n0,q1,q2,q3,q4⟩:=h.tok t c ht hc
 rw[hcs] at q1;cases q1
 have hp : ∀c' o,g.pure c' o→w'.cell? ⟨c',o,none⟩=w.cell? ⟨c',o,none⟩:=by
  intro c' o p
  by_cases e:c'=c
  · subst e
    rw[bG hh,bG hcs]
    refine hout o ?_
    rcases be o (g.lo t) with a | a
    · exact .inl a
    · rcases be o (g.hi t) with b | b
      · exact absurd p (q4 o a b)
      · exact .inr b
  · exact fM (hw c' e)
 have bo : ∀j,j≠i→g'.cm j=g.cm j:=fun j hj=>by simp[g',Gh.put,Gh.more,hj]
 have bi:g'.cm i=some c:=by simp[g',Gh.put,Gh.more]
 have ext:Ext g w g' w':=⟨fun j c hc=>by
  have:j≠i:=fun e=>by subst e;rw[hf] at hc;cases hc
  simp[g',Gh.put,Gh.more,this,hc],fun c o p=>⟨.inl p,hp c o p⟩⟩
 have get : ∀j x,((m.set t .dead).set i .tok)[j]? = some x→(j=i∧x = .tok)∨x = .dead∨(j≠i∧j≠t∧m[j]? = some x):=by
  intro j x hj
  rcases bn hj with e | ⟨hji,e⟩
  · exact .inl e
  · rcases bn e with⟨_,e'⟩ | ⟨LQ,e'⟩
    · exact .inr (.inl e')
    · exact .inr (.inr ⟨hji,LQ,e'⟩)
 have ne : ∀j x c',j≠t→m[j]? = some x→x.ep=true→g.cm j=some c'→c'≠c:=fun j x c' LQ hj ho iS e=>LQ (h.inj j t x _ c hj ht ho rfl (e▸iS) hc)
 refine⟨⟨fun j hj=> ?_,fun j hj=> ?_,fun j x l hj hl=> ?_,fun j c' hj iS=> ?_,fun j k x x' c' hj hk ho ho' jG kB=> ?_,fun c' o p=> ?_,fun j kk ll hj=> ?_⟩,ext,⟨by omega,fun j _ hn=> ?_,fun c o p=>⟨.inl p,hp c o p⟩,fun c' o p=> ?_,fun c' ho'=> ?_,ho,htp,hu⟩⟩
 · simp only[ed] at hj
   rw[bo j (by omega)];exact h.Cp j hj
 · rcases get j _ hj with⟨_,e⟩ | e | ⟨hji,_,e⟩
   · cases e
   · cases e
   · rw[bo j hji];exact h.free j e
 · rcases get j _ hj with⟨_,e⟩ | e | ⟨hji,LQ,e⟩
   · subst e;cases hl
   · subst e;cases hl
   · obtain⟨c1,cs1,e1,n1,k1,k2,k3,k4,k5⟩:=h.cells j x l e hl
     refine⟨c1,cs1,e1,n1,(bo j hji).trans k1,(hw c1 (ne j x c1 LQ e (ej hl) k1)).trans k2,k3,k4.mono ext,fun o p=> ?_⟩
     rcases p with p | ⟨rfl,_⟩
     · exact k5 o p
     · exact ne j x _ LQ e (ej hl) k1 rfl
 · rcases get j _ hj with⟨rfl,_⟩ | e | ⟨hji,LQ,e⟩
   · rw[bi] at iS;cases iS
     refine⟨cs',e',n,hh,by simp only[g',Gh.put,Gh.more,if_true];omega,by simpa[g',Gh.put,Gh.more] using q3,fun o h1 h2 p=> ?_⟩
     have h1':g.lo t+k≤o:=by simpa[g',Gh.put,Gh.more] using h1
     have h2':o<g.hi t:=by simpa[g',Gh.put,Gh.more] using h2
     rcases p with p | ⟨_,_,p⟩
     · exact q4 o (by omega) h2' p
     · omega
   · cases e
   · rw[bo j hji] at iS
     obtain⟨cs1,e1,n1,k2,k3,k4,k5⟩:=h.tok j c' e iS
     have h1:g'.hi j=g.hi j:=by simp[g',Gh.put,Gh.more,hji]
     have h2:g'.lo j=g.lo j:=by simp[g',Gh.put,Gh.more,hji]
     rw[h1,h2]
     refine⟨cs1,e1,n1,(hw c' (ne j _ c' LQ e rfl iS)).trans k2,k3,k4,fun o a b p=> ?_⟩
     rcases p with p | ⟨rfl,_⟩
     · exact k5 o a b p
     · exact ne j _ _ LQ e rfl iS rfl
 · rcases get j _ hj with⟨rfl,e⟩ | e | ⟨hji,LQ,e⟩
   · rcases get k _ hk with⟨rfl,e'⟩ | e' | ⟨hki,hkt,e'⟩
     · rfl
     · subst e';simp[bf.ep] at ho'
     · rw[bi] at jG;cases jG
       rw[bo k hki] at kB
       exact absurd rfl (ne k x' _ hkt e' ho' kB)
   · subst e;simp[bf.ep] at ho
   · rcases get k _ hk with⟨rfl,e'⟩ | e' | ⟨hki,hkt,e'⟩
     · rw[bi] at kB;cases kB
       rw[bo j hji] at jG
       exact absurd rfl (ne j x _ LQ e ho jG)
     · subst e';simp[bf.ep] at ho'
     · rw[bo j hji] at jG;rw[bo k hki] at kB
       exact h.inj j k x x' c' e e' ho ho' jG kB
 · rcases p with p | ⟨rfl,p1,p2⟩
   · obtain⟨v,hv⟩:=h.there c' o p
     exact⟨v,(hp c' o p).trans hv⟩
   · exact⟨cs'[o],by rw[bG hh,ic (by omega)]⟩
 · rcases get j _ hj with⟨_,e⟩ | e | ⟨hji,LQ,e⟩
   · cases e
   · cases e
   · obtain⟨c1,JG,vs1,k1,k2,k3,k6,k7,k8⟩:=h.obs j kk ll e
     exact⟨c1,JG,vs1,(bo j hji).trans k1,(hw c1 (ne j _ c1 LQ e rfl k1)).trans k2,k3.mono ext,k6,fun o p=>p.elim (k7 o) fun q=>ne j _ c1 LQ e rfl k1 q.1,by simpa[g',Gh.put,Gh.more,hji] using k8⟩
 · exact hw j fun e=>hn ⟨t,_,ht,rfl,e▸hc⟩
 · rcases p with p | ⟨rfl,_⟩
   · exact .inl p
   · exact .inr (.inl ⟨t,_,ht,rfl,hc⟩)
 · obtain⟨j,x,hj,hx,Wh⟩:=ho'
   rcases get j _ hj with⟨rfl,e⟩ | e | ⟨hji,_,e⟩
   · rw[bi] at Wh;cases Wh;exact .inl ⟨t,_,ht,rfl,hc⟩
   · subst e;simp[bf.ep] at hx
   · rw[bo j hji] at Wh;exact .inl ⟨j,x,e,hx,Wh⟩
theorem Rel.vq {g:Gh} {m:Mem} {w w':World} (h:Rel g m w) {cs:Array Value} {e:TypeId} (hw:uz w w' (.cells cs e)) :
  Rel (g.more w.heap.size 0 cs.size) m w'∧Ext g w (g.more w.heap.size 0 cs.size) w'∧dU g m w (g.more w.heap.size 0 cs.size) m w':=by
 have hp : ∀c o,g.pure c o→w'.cell? ⟨c,o,none⟩=w.cell? ⟨c,o,none⟩:=fun c o p=>fM (hw.old (h.pQ p))
 have ext:Ext g w (g.more w.heap.size 0 cs.size) w':=⟨fun j c hc=>⟨hc,rfl,rfl⟩,fun c o p=>⟨.inl p,hp c o p⟩⟩
 refine⟨⟨h.Cp,h.free,fun j x l hj hl=> ?_,fun j c hj hc=> ?_,h.inj,fun c o p=> ?_,fun j kk ll hj=> ?_⟩,ext,⟨by rw[hw.size];omega,fun k hk _=>hw.old hk,fun c o p=>⟨.inl p,hp c o p⟩,fun c o p=> ?_,fun c ho=> .inl ho,hw.os,hw.tape,hw.output⟩⟩
 · obtain⟨c1,cs1,e1,n1,k1,k2,k3,k4,k5⟩:=h.cells j x l hj hl
   refine⟨c1,cs1,e1,n1,k1,(hw.old (bW k2)).trans k2,k3,k4.mono ext,fun o p=> ?_⟩
   rcases p with p | ⟨rfl,_⟩
   · exact k5 o p
   · exact absurd (bW k2) (a6 _)
 · obtain⟨cs1,e1,n1,k2,k3,k4,k5⟩:=h.tok j c hj hc
   refine⟨cs1,e1,n1,(hw.old (bW k2)).trans k2,k3,k4,fun o a b p=> ?_⟩
   rcases p with p | ⟨rfl,_⟩
   · exact k5 o a b p
   · exact absurd (bW k2) (a6 _)
 · rcases p with p | ⟨rfl,_,p⟩
   · obtain⟨v,hv⟩:=h.there c o p
     exact⟨v,(hp c o p).trans hv⟩
   · exact⟨cs[o],by rw[bG hw.new,ic (by omega)]⟩
 · obtain⟨c1,JG,vs1,k1,k2,k3,k6,k7,k8⟩:=h.obs j kk ll hj
   exact⟨c1,JG,vs1,k1,(hw.old (bW k2)).trans k2,k3.mono ext,k6,fun o p=>p.elim (k7 o) fun q=>absurd (bW k2) (by rw[q.1];exact a6 _),k8⟩
 · rcases p with p | ⟨rfl,_⟩
   · exact .inl p
   · exact .inr (.inr (aw _))
theorem Rel.Wi {g:Gh} {m:Mem} {w:World} (h:Rel g m w) {i:Nat} (hi:m[i]? = some .free):Rel g (m.set i .tok) w∧dU g m w g (m.set i .tok) w:=by
 have hf:=h.free i hi
 refine⟨⟨fun j hj=>h.Cp j (by simpa using hj),fun j hj=> ?_,fun j x l hj hl=> ?_,fun j c hj hc=> ?_,fun j k x x' c hj hk ho ho' jG kB=> ?_,h.there,fun j kk ll hj=> ?_⟩,dU.less fun c ho=> ?_⟩
 · rcases bn hj with⟨_,e⟩ | ⟨_,e⟩
   · cases e
   · exact h.free j e
 · rcases bn hj with⟨_,e⟩ | ⟨_,e⟩
   · subst e;cases hl
   · exact h.cells j x l e hl
 · rcases bn hj with⟨rfl,_⟩ | ⟨_,e⟩
   · rw[hf] at hc;cases hc
   · exact h.tok j c e hc
 · rcases bn hj with⟨rfl,_⟩ | ⟨_,e⟩
   · rw[hf] at jG;cases jG
   · rcases bn hk with⟨rfl,_⟩ | ⟨_,e'⟩
     · rw[hf] at kB;cases kB
     · exact h.inj j k x x' c e e' ho ho' jG kB
 · rcases bn hj with⟨_,e⟩ | ⟨_,e⟩
   · cases e
   · exact h.obs j kk ll e
 · obtain⟨j,x,hj,hx,hc⟩:=ho
   rcases bn hj with⟨rfl,_⟩ | ⟨_,e⟩
   · rw[hf] at hc;cases hc
   · exact⟨j,x,e,hx,hc⟩
theorem Rel.oI {g:Gh} {m:Mem} {w w':World} (h:Rel g m w) (hh:w'.heap=w.heap) (ho:w'.os=w.os) (ht:w'.tape=w.tape) (hu:w'.output=w.output) :
  Rel g m w'∧Ext g w g w'∧dU g m w g m w':=by
 have hc : ∀a:Addr,w'.cell? a=w.cell? a:=fun a=>by simp[World.cell?,hh]
 have ext:Ext g w g w':=⟨fun _ _ h=>⟨h,rfl,rfl⟩,fun _ _ p=>⟨p,hc _⟩⟩
 refine⟨⟨h.Cp,h.free,fun j x l hj hl=> ?_,fun j c hj ZE=> ?_,h.inj,fun c o p=> ?_,fun j kk ll hj=> ?_⟩,ext,⟨by rw[hh];exact aw _,fun k _ _=>by rw[hh],fun c o p=>⟨p,hc _⟩,fun _ _ p=> .inl p,fun _ ho=> .inl ho,ho,ht,hu⟩⟩
 · obtain⟨c1,cs1,e1,n1,k1,k2,k3,k4,k5⟩:=h.cells j x l hj hl
   exact⟨c1,cs1,e1,n1,k1,by rw[hh];exact k2,k3,k4.mono ext,k5⟩
 · obtain⟨cs1,e1,n1,k2,k3⟩:=h.tok j c hj ZE
   exact⟨cs1,e1,n1,by rw[hh];exact k2,k3⟩
 · obtain⟨v,hv⟩:=h.there c o p
   exact⟨v,(hc _).trans hv⟩
 · obtain⟨c1,JG,vs1,k1,k2,k3,k6,k7,k8⟩:=h.obs j kk ll hj
   exact⟨c1,JG,vs1,k1,by rw[hh];exact k2,k3.mono ext,k6,k7,k8⟩
theorem Rel.reserve {g:Gh} {m:Mem} {w:World} (h:Rel g m w):Rel g (m++[.free]) w∧dU g m w g (m++[.free]) w:=by
 have get : ∀j x,(m++[bf.free])[j]? = some x→m[j]? = some x∨(j=m.length∧x = .free):=by
  intro j x hj
  rw[List.getElem?_append] at hj
  by_cases e:j<m.length
  · rw[if_pos e] at hj;exact .inl hj
  · rw[if_neg e] at hj
    have:=bX hj
    simp at this
    have e2:j=m.length:=by omega
    subst e2
    simp at hj
    exact .inr ⟨rfl,hj.symm⟩
 refine⟨⟨fun j hj=>h.Cp j (by simp at hj;omega),fun j hj=> ?_,fun j x l hj hl=> ?_,fun j c hj hc=> ?_,fun j k x x' c hj hk ho ho' jG kB=> ?_,h.there,fun j kk ll hj=> ?_⟩,dU.less fun c ho=> ?_⟩
 · rcases get j _ hj with e | ⟨rfl,_⟩
   · exact h.free j e
   · exact h.Cp _ (aw _)
 · rcases get j _ hj with e | ⟨_,e⟩
   · exact h.cells j x l e hl
   · subst e;cases hl
 · rcases get j _ hj with e | ⟨_,e⟩
   · exact h.tok j c e hc
   · cases e
 · rcases get j _ hj with e | ⟨_,e⟩
   · rcases get k _ hk with e' | ⟨_,e'⟩
     · exact h.inj j k x x' c e e' ho ho' jG kB
     · subst e';simp[bf.ep] at ho'
   · subst e;simp[bf.ep] at ho
 · rcases get j _ hj with e | ⟨_,e⟩
   · exact h.obs j kk ll e
   · cases e
 · obtain⟨j,x,hj,hx,hc⟩:=ho
   rcases get j _ hj with e | ⟨_,e⟩
   · exact⟨j,x,e,hx,hc⟩
   · subst e;simp[bf.ep] at hx
theorem Rel.vr (nL:Nat) {g:Gh} {m:Mem} {w w':World} (h:Rel g m w) {i:Nat} {ob:eG} {l:List AV} {vs:List Value} {o:Obj}
  (hi:m[i]? = some .free) (hv:dz g w l vs) (hw:uz w w' o) (his:ob.is o vs) (hroom:ob.room o nL) :
  Rel (g.put i w.heap.size 0 nL) (m.set i (.ob ob l)) w'∧Ext g w (g.put i w.heap.size 0 nL) w'∧dU g m w (g.put i w.heap.size 0 nL) (m.set i (.ob ob l)) w':=by
 have hf:=h.free i hi
 have hp : ∀c o,g.pure c o→w'.cell? ⟨c,o,none⟩=w.cell? ⟨c,o,none⟩:=fun c o p=>fM (hw.old (h.pQ p))
 have bo : ∀j,j≠i→(g.put i w.heap.size 0 nL).cm j=g.cm j:=fun j hj=>by simp[Gh.put,hj]
 have bi:(g.put i w.heap.size 0 nL).cm i=some w.heap.size:=by simp[Gh.put]
 have ext:Ext g w (g.put i w.heap.size 0 nL) w':=⟨fun j c hc=>by
  have:j≠i:=fun e=>by subst e;rw[hf] at hc;cases hc
  simp[Gh.put,this,hc],fun c o p=>⟨p,hp c o p⟩⟩
 have lt : ∀j x c,m[j]? = some x→x.ep=true→g.cm j=some c→c<w.heap.size:=fun j x c hj ho hc=>h.oH ⟨j,x,hj,ho,hc⟩
 have Cq:=bX hi
 refine⟨⟨fun j hj=> ?_,fun j hj=> ?_,fun j x k hj hk=> ?_,fun j c hj hc=> ?_,fun j k x x' c hj hk ho ho' jG kB=> ?_,fun c o p=> ?_,fun j kk ll hj=> ?_⟩,ext,⟨by rw[hw.size];omega,fun k hk _=>hw.old hk,fun c o p=>⟨p,hp c o p⟩,fun _ _ p=> .inl p,fun c ho=> ?_,hw.os,hw.tape,hw.output⟩⟩
 · rw[ed] at hj
   rw[bo j (by omega)];exact h.Cp j hj
 · rcases bn hj with⟨rfl,e⟩ | ⟨hji,e⟩
   · cases e
   · rw[bo j hji];exact h.free j e
 · rcases bn hj with⟨rfl,e⟩ | ⟨hji,e⟩
   · subst e;cases hk
   · obtain⟨c1,cs1,e1,n1,k1,k2,k3,k4,k5⟩:=h.cells j x k e hk
     exact⟨c1,cs1,e1,n1,(bo j hji).trans k1,(hw.old (bW k2)).trans k2,k3,k4.mono ext,k5⟩
 · rcases bn hj with⟨rfl,e⟩ | ⟨hji,e⟩
   · cases e
   · rw[bo j hji] at hc
     obtain⟨cs1,e1,n1,k2,k3,k4,k5⟩:=h.tok j c e hc
     have h1:(g.put i w.heap.size 0 nL).hi j=g.hi j:=by simp[Gh.put,hji]
     have h2:(g.put i w.heap.size 0 nL).lo j=g.lo j:=by simp[Gh.put,hji]
     rw[h1,h2]
     exact⟨cs1,e1,n1,(hw.old (bW k2)).trans k2,k3,k4,k5⟩
 · rcases bn hj with⟨rfl,e⟩ | ⟨hji,e⟩<;>rcases bn hk with⟨rfl,e'⟩ | ⟨hki,e'⟩
   · rfl
   · rw[bi] at jG;cases jG
     rw[bo k hki] at kB
     exact absurd (lt k x' _ e' ho' kB) (a6 _)
   · rw[bi] at kB;cases kB
     rw[bo j hji] at jG
     exact absurd (lt j x _ e ho jG) (a6 _)
   · rw[bo j hji] at jG;rw[bo k hki] at kB
     exact h.inj j k x x' c e e' ho ho' jG kB
 · obtain⟨v,hv⟩:=h.there c o p
   exact⟨v,(hp c o p).trans hv⟩
 · rcases bn hj with⟨rfl,e⟩ | ⟨hji,e⟩
   · cases e
     exact⟨_,_,vs,bi,hw.new,hv.mono ext,his,fun o p=>absurd (h.pQ p) (a6 _),by simpa[Gh.put] using hroom⟩
   · obtain⟨c1,JG,vs1,k1,k2,k3,k6,k7,k8⟩:=h.obs j kk ll e
     exact⟨c1,JG,vs1,(bo j hji).trans k1,(hw.old (bW k2)).trans k2,k3.mono ext,k6,k7,by simpa[Gh.put,hji] using k8⟩
 · obtain⟨j,x,hj,hx,hc⟩:=ho
   rcases bn hj with⟨rfl,e⟩ | ⟨hji,e⟩
   · rw[bi] at hc;cases hc;exact .inr (aw _)
   · rw[bo j hji] at hc;exact .inl ⟨j,x,e,hx,hc⟩
theorem Rel.Af {g:Gh} {m:Mem} {w w':World} (h:Rel g m w) {i:Nat} {ob:eG} {l:List AV} {vs:List Value} {o:Obj}
  (hi:m[i]? = some .free) (hv:dz g w l vs) (hw:uz w w' o) (his:ob.is o vs) (hroom:ob.room o 0:=by trivial) :
  Rel (g.put i w.heap.size 0 0) (m.set i (.ob ob l)) w'∧Ext g w (g.put i w.heap.size 0 0) w'∧dU g m w (g.put i w.heap.size 0 0) (m.set i (.ob ob l)) w':=
 Rel.vr 0 h hi hv hw his hroom
theorem Rel.jV {g:Gh} {m:Mem} {w w':World} (h:Rel g m w) {i c:Nat} {ob JH:eG} {l l':List AV} {vs':List Value} {o':Obj}
  (hi:m[i]? = some (.ob ob l)) (hc:g.cm i=some c)
  (hw : ∀k,k≠c→w'.heap[k]? = w.heap[k]?) (hs:w'.heap.size=w.heap.size) (ho:w'.os=w.os) (ht:w'.tape=w.tape) (hu:w'.output=w.output)
  (hh:w'.heap[c]? = some o') (his:JH.is o' vs') (hv:dz g w l' vs') (hroom:JH.room o' (g.hi i):=by trivial) :
  Rel g (m.set i (.ob JH l')) w'∧Ext g w g w'∧dU g m w g (m.set i (.ob JH l')) w':=by
 obtain⟨c0,ob0,vs0,h1,_,_,_,hnp,_⟩:=h.obs i ob l hi
 rw[hc] at h1;cases h1
 have hp : ∀c' o,g.pure c' o→w'.cell? ⟨c',o,none⟩=w.cell? ⟨c',o,none⟩:=fun c' o p=>fM (hw c' fun e=>hnp o (e▸p))
 have ext:Ext g w g w':=⟨fun _ _ h=>⟨h,rfl,rfl⟩,fun c' o p=>⟨p,hp c' o p⟩⟩
 have ne : ∀j x c',j≠i→m[j]? = some x→x.ep=true→g.cm j=some c'→c'≠c:=fun j x c' hji hj ho iS e=>hji (h.inj j i x _ c hj hi ho rfl (e▸iS) hc)
 refine⟨⟨fun j hj=>h.Cp j (by simpa using hj),fun j hj=> ?_,fun j x k hj hk=> ?_,fun j c' hj iS=> ?_,fun j k x x' c' hj hk ho ho' jG kB=> ?_,fun c' o p=> ?_,fun j kk ll hj=> ?_⟩,ext,⟨by omega,fun k hk hn=> ?_,fun c' o p=>⟨p,hp c' o p⟩,fun _ _ p=> .inl p,fun c' ho'=> ?_,ho,ht,hu⟩⟩
 · rcases bn hj with⟨rfl,e⟩ | ⟨_,e⟩
   · cases e
   · exact h.free j e
 · rcases bn hj with⟨rfl,e⟩ | ⟨hji,e⟩
   · subst e;cases hk
   · obtain⟨c1,cs1,e1,n1,k1,k2,k3,k4,k5⟩:=h.cells j x k e hk
     exact⟨c1,cs1,e1,n1,k1,(hw c1 (ne j x c1 hji e (ej hk) k1)).trans k2,k3,k4.mono ext,k5⟩
 · rcases bn hj with⟨rfl,e⟩ | ⟨hji,e⟩
   · cases e
   · obtain⟨cs1,e1,n1,k2,k3,k4,k5⟩:=h.tok j c' e iS
     exact⟨cs1,e1,n1,(hw c' (ne j _ c' hji e rfl iS)).trans k2,k3,k4,k5⟩
 · rcases bn hj with⟨rfl,e⟩ | ⟨hji,e⟩<;>rcases bn hk with⟨rfl,e'⟩ | ⟨hki,e'⟩
   · rfl
   · rw[hc] at jG;cases jG
     exact absurd rfl (ne k x' _ hki e' ho' kB)
   · rw[hc] at kB;cases kB
     exact absurd rfl (ne j x _ hji e ho jG)
   · exact h.inj j k x x' c' e e' ho ho' jG kB
 · obtain⟨v,hv⟩:=h.there c' o p
   exact⟨v,(hp c' o p).trans hv⟩
 · rcases bn hj with⟨rfl,e⟩ | ⟨hji,e⟩
   · cases e
     exact⟨c,_,vs',hc,hh,hv.mono ext,his,hnp,hroom⟩
   · obtain⟨c1,JG,vs1,k1,k2,k3,k6,k7,k8⟩:=h.obs j kk ll e
     exact⟨c1,JG,vs1,k1,(hw c1 (ne j _ c1 hji e rfl k1)).trans k2,k3.mono ext,k6,k7,k8⟩
 · exact hw k fun e=>hn ⟨i,_,hi,rfl,e▸hc⟩
 · rcases xE ho' with⟨_,k⟩ | ⟨j,x,_,k1,k2,k3⟩
   · exact .inl ⟨i,_,hi,rfl,k⟩
   · exact .inl ⟨j,x,k1,k2,k3⟩
def cZ (g:Gh) (m:Mem) (w:World) (r:Result Next) (a:AV) (m':Mem):Prop:=
 ∃v w' g',(r = .ok (.value v) w'∨(r = .ok .skip w'∧v=undef))∧VA g' w' a v∧Rel g' m' w'∧Ext g w g' w'∧dU g m w g' m' w'
theorem cZ.quiet {g:Gh} {m:Mem} {w:World} {r:Result Next} {a:AV} {v:Value} (h:Rel g m w) (hr:r = .ok (.value v) w) (ha:VA g w a v):cZ g m w r a m:=
 ⟨v,w,g,.inl hr,ha,h,Ext.refl g w,dU.refl g m w⟩
theorem bu {P:Program} {t:TypeId} {n:Nat} (h:iU P t=some n) (w:World):(sizeOf t).run P w = .ok n w:=by
 unfold iU at h
 cases hi:P.info? t with
 |none=>simp[hi] at h
 |some i=>simp only[hi,kl,kb] at h;simp[sizeOf,typeInfo,hi,h]
theorem lf {P:Program} {t:TypeId} {i:TypeInfo} (h:P.info? t=some i) (w:World):(typeInfo t).run P w = .ok i w:=by
 simp[typeInfo,h]
theorem pR {P:Program} {t:TypeId} {b:Bool} (h:We P t=some b) (w:World):(isAgg t).run P w = .ok b w:=by
 unfold We at h
 cases hu:P.underlying t with
 |none=>simp[hu] at h
 |some d=>cases d<;>simp[hu] at h<;>subst h<;>simp[isAgg,run_underlying hu]
theorem Wj {g:Gh} {w:World} {a:AV} {v cv:Value} (h:PI a=some v) (ha:VA g w a cv):cv=v:=by
 cases ha with
 |p v' _ hp=>cases hp<;>simp[PI] at h;exact h
 |_=>simp[PI] at h
theorem AK {g:Gh} {w:World} : ∀{l:List AV} {vs cs:List Value},At l=some vs→dz g w l cs→cs=vs
 |[],vs,cs,h,ha=>by
  cases cs with
  |nil=>simp[At] at h;exact h.symm
  |cons _ _=>exact ha.elim
 |a::l,vs,cs,h,ha=>by
  cases cs with
  |nil=>exact ha.elim
  |cons c cs=>
   simp only[At] at h
   cases h1:PI a with
   |none=>simp[h1] at h
   |some v=>
    cases h2:At l with
    |none=>simp[h1,h2] at h
    |some us=>
     simp only[h1,h2,kb] at h
     subst h
     rw[Wj h1 ha.1,AK h2 ha.2]
theorem ZF {g:Gh} {w:World} {a:AV} {v cv:Value} (h:MS a=some v) (ha:VA g w a cv):cv=v:=by
 cases ha with
 |p v' _ hp=>cases hp<;>simp[MS] at h;exact h
 |agg l cs hl hh=>
  simp only[MS,kd] at h
  obtain⟨vs,h1,rfl⟩:=h
  rw[←AK h1 (bN.dY hl hh)]
 |aD l cs hl hh=>
  simp only[MS,kd] at h
  obtain⟨vs,h1,rfl⟩:=h
  rw[←AK h1 (bN.dY hl hh)]
 |_=>simp[MS] at h
theorem Fy {α:Type} (P:Program) (w:World) : ∀(s:Sem α) (a:α),jQ P s=some a→s.run P w = .ok a w:=by
 intro s
 induction s with
 |pure b=>intro a h;simp[jQ] at h;subst h;rfl
 |program k ih=>intro a h;simp only[jQ] at h;simp only[Sem.run];exact ih P a h
 |mark m k ih=>intro a h;simp only[jQ] at h;simp only[Sem.run];exact ih a h
 |_=>intro a h;simp[jQ] at h
theorem VA.kG {g:Gh} {w:World} (v:Value):VA g w (kG v) v:=by
 unfold Am.kG
 split
 · exact .os none 0 0 [] none 0 (.xD 0 none 0 (.inr ⟨rfl,rfl⟩)) (.inl rfl)
 · exact .p _ _ (.sc v)
theorem dz.jr {g:Gh} {w:World} : ∀(l:List Value),dz g w (l.map Am.kG) l
 |[]=>trivial
 |v::l=>⟨VA.kG v,dz.jr l⟩
theorem VA.VW {g:Gh} {w:World} (v:Value):VA g w (VW v) v:=by
 unfold Am.VW
 split
 · exact VA.zL.2 (dz.jr _)
 · exact VA.pP.2 (dz.jr _)
 · exact VA.kG _
theorem Dg {ρ:Operand→AV} : ∀{l:List Operand},yH ρ l=true → ∀x∈l,∃v,MS (ρ x)=some v
 |[],_,_,hx=>by cases hx
 |y::l,h,x,hx=>by
  simp only[yH,jn] at h
  cases hx with
  |head=>exact Option.isSome_iff_exists.1 h.1
  |tail _ hx=>exact Dg h.2 x hx
theorem getD_some {m:Mem} {b:Nat} {x:bf} (h:m.getD b .dead=x) (hx:x ≠ .dead):m[b]? = some x:=by
 rw[de] at h
 cases hq:m[b]? with
 |none=>rw[hq] at h;exact absurd h.symm hx
 |some y=>rw[hq] at h;exact congrArg some h
section ops
variable {P:Program} {g:Gh} {m:Mem} {w:World} {ρ:Operand→AV} {dm:Operand→Value} {o:Oper}
theorem gq (hr : ∀x,VA g w (ρ x) (dm x)) (hs : ∀cs b,o.op ≠ .select cs b) {a:AV} (h:scalar P ρ o=some a) :
  ∃v,(execOp dm o).run P w = .ok (.value v) w∧VA g w a v:=by
 unfold scalar at h
 cases hb:yH ρ o.op.operands.toList with
 |false=>simp[hb] at h
 |true=>
  simp only[hb,cond_true] at h
  have hc:execOp dm o=execOp (fun x=>(MS (ρ x)).getD undef) o:=execOp_congr o hs fun x hx=>by
   obtain⟨v,hv⟩:=Dg hb x (Array.mem_toList_iff.2 hx)
   simp[hv,ZF hv (hr x)]
  cases he:jQ P (execOp (fun x=>(MS (ρ x)).getD undef) o) with
  |none=>simp[he] at h
  |some nx=>
   cases nx with
   |value v=>
    simp only[he,kb] at h
    subst h
    exact⟨v,by rw[hc];exact Fy P w _ _ he,VA.VW v⟩
   |_=>simp[he] at h
theorem GJ {d:Option TypeDesc} {c:PV} (h:(ko d c).2=true):(ko d c).1=c∧c ≠ .aU:=by
 unfold ko at h ⊢
 split at h
 · cases c with
   |sc v=>cases v<;>simp_all [isInt,au]
   |_=>simp[isInt] at h
 · cases c with
   |sc v=>cases v<;>simp_all [isBool,aW]
   |_=>simp[isBool] at h
 · cases c with
   |sc v=>cases v<;>simp_all [isStr,aY]
   |_=>simp[isStr] at h
 · cases c<;>simp_all [aX,aq,aK,aj]
 · cases c<;>simp_all [isOk]
theorem AL {d:Option TypeDesc} {a:AV} (h:(cg d a).2=true):(cg d a).1=a∧a ≠ .p .aU:=by
 cases a with
 |p c=>simp only[cg] at h ⊢;exact⟨by rw[(GJ h).1],fun e=>(GJ h).2 (AV.p.inj e)⟩
 |_=>exact⟨rfl,fun e=>by cases e⟩
theorem GK : ∀{ds:List (Option TypeDesc)} {l:List AV},(ve ds l).2=true→(ve ds l).1=l ∧ ∀x∈l,x ≠ .p .aU
 |[],[],_=>⟨rfl,fun _ h=>by cases h⟩
 |d::ds,a::l,h=>by
  simp only[ve,jn] at h ⊢
  obtain⟨h1,h2⟩:=GK h.2
  refine⟨by rw[(AL h.1).1,h1],fun x hx=> ?_⟩
  cases hx with
  |head=>exact(AL h.1).2
  |tail _ hx=>exact h2 x hx
 |[],_::_,h=>by simp[ve] at h
 |_::_,[],h=>by simp[ve] at h
theorem fC {α:Type} (d:α) (l:List α) : ∀(n off:Nat),(qM d l off n).length=n
 |0,_=>rfl
 |n+1,off=>by simp[qM,fC d l n]
theorem oJ {α:Type} (d:α) (l:List α) : ∀(n off j:Nat) (h:j<(qM d l off n).length),(qM d l off n)[j]=l.getD (off+j) d
 |0,_,_,h=>by simp[qM] at h
 |n+1,off,0,_=>by simp[qM]
 |n+1,off,j+1,h=>by
  simp only[qM,List.getElem_cons_succ]
  rw[oJ d l n (off+1) j]
  congr 1;omega
theorem Rel.P6 (h:Rel g m w) {b c:Nat} {k:List AV} {t:TypeId} {pq:Bool} (hb:m[b]? = some (.ob (.gr t pq) k)) (hc:g.cm b=some c) {j:Nat} (hj:j<k.length) : ∃v,w.cell? ⟨c,j,none⟩=some v∧VA g w k[j] v:=by
 obtain⟨c',ob,vs,h1,h2,h3,h4,_,_⟩:=h.obs b _ _ hb
 rw[hc] at h1;cases h1
 obtain⟨cs,e,n,rfl,_,_,q1,q2,_⟩:=h4
 have hl:=h3.len
 have P7:j<vs.length:=by omega
 have hjc:j<cs.size:=by omega
 refine⟨cs[j],by rw[bG h2,ic hjc],?_⟩
 have:=h3.get j hj P7
 have e1:vs[j]? = some cs[j]:=by
  rw[q1,di,if_pos P7]
  simp[hjc]
 rw[df P7] at e1
 rwa [kc e1] at this
theorem Rel.P8 {g:Gh} {m:Mem} {w:World} (h:Rel g m w) {i:Nat} {k k':eG} {l l':List AV} (hb:m[i]? = some (.ob k l))
  (hl : ∀ob vs hi,dz g w l vs→k.is ob vs→k.room ob hi → ∃vs',dz g w l' vs'∧k'.is ob vs'∧k'.room ob hi):Rel g (m.set i (.ob k' l')) w∧dU g m w g (m.set i (.ob k' l')) w:=by
 have own : ∀(j:Nat) (x:bf),(m.set i (.ob k' l'))[j]? = some x→x.ep=true → ∃y:bf,m[j]? = some y∧y.ep=true:=fun j x hj ho=>by
  rcases bn hj with⟨rfl,_⟩ | ⟨_,q⟩
  · exact⟨_,hb,rfl⟩
  · exact⟨x,q,ho⟩
 refine⟨⟨fun j hj=>h.Cp j (by simpa using hj),fun j hj=> ?_,fun j x cs hj hx=> ?_,fun j c hj hc=> ?_,fun j q x x' c hj hq ho ho' hc iS=> ?_,h.there,fun j k1 l1 hj=> ?_⟩,
  ⟨aw _,fun _ _ _=>rfl,fun _ _ p=>⟨p,rfl⟩,fun _ _ p=> .inl p,fun c ho=> ?_,rfl,rfl,rfl⟩⟩
 · rcases bn hj with⟨_,q⟩ | ⟨_,q⟩
   · cases q
   · exact h.free j q
 · rcases bn hj with⟨_,rfl⟩ | ⟨_,q⟩
   · cases hx
   · exact h.cells j x cs q hx
 · rcases bn hj with⟨_,q⟩ | ⟨_,q⟩
   · cases q
   · exact h.tok j c q hc
 · obtain⟨y,y1,y2⟩:=own j x hj ho
   obtain⟨z,z1,z2⟩:=own q x' hq ho'
   exact h.inj j q y z c y1 z1 y2 z2 hc iS
 · rcases bn hj with⟨rfl,q⟩ | ⟨_,q⟩
   · cases q
     obtain⟨c,o,vs,k1,k2,k3,k4,k5,k6⟩:=h.obs _ _ _ hb
     obtain⟨vs',q1,q2,q3⟩:=hl o vs _ k3 k4 k6
     exact⟨c,o,vs',k1,k2,q1,q2,k5,q3⟩
   · exact h.obs j k1 l1 q
 · obtain⟨j,x,hj,hx,hc⟩:=ho
   obtain⟨y,y1,y2⟩:=own j x hj hx
   exact .inl ⟨j,y,y1,y2,hc⟩
def exactly (pre:List Value):List AV:=pre.map fun v=> .p (.sc v)
theorem cK (pre:List Value):(exactly pre).length=pre.length:=List.length_map ..
theorem vu {g:Gh} {w:World} : ∀(pre:List Value),dz g w (exactly pre) pre
 |[]=>trivial
 |v::r=>⟨.p _ _ (.sc v),vu r⟩
theorem AM {g:Gh} {w:World} : ∀{pre vs:List Value},dz g w (exactly pre) vs→vs=pre
 |[],[],_=>rfl
 |v::r,x::xs,h=>by
  have h1:VA g w (.p (.sc v)) x:=h.1
  rw[VA.pv] at h1
  cases h1
  rw[AM (pre:=r) h.2]
 |[],_::_,h=>h.elim
 |_::_,[],h=>h.elim
theorem Rel.P9 {g:Gh} {m:Mem} {w:World} (h:Rel g m w) {b:Nat} {t:TypeId} {pre:List Value} {l:List AV} (hb:m[b]? = some (.ob (.stk t pre) l)) :
  Rel g (m.set b (.ob (.gr t false) (exactly pre++l))) w∧dU g m w g (m.set b (.ob (.gr t false) (exactly pre++l))) w:=
 h.P8 hb fun ob vs hi hv hk hr=>by
   obtain⟨cs,e,n,rfl,q1,q2,q3,q4,q5⟩:=hk
   exact⟨pre++vs,(vu pre).append hv,⟨cs,e,n,rfl,q1,q2,by rw[du];exact q3,by rw[du];exact q4,q5⟩,hr⟩
theorem Rel.ZG {g:Gh} {m:Mem} {w:World} (h:Rel g m w) {b:Nat} {t:TypeId} {q:Bool} {pre:List Value} {l:List AV} (hb:m[b]? = some (.ob (.gr t q) (exactly pre++l))) :
  Rel g (m.set b (.ob (.stk t pre) l)) w∧dU g m w g (m.set b (.ob (.stk t pre) l)) w:=
 h.P8 hb fun ob vs hi hv hk hr=>by
   obtain⟨cs,e,n,rfl,q1,q2,q3,q4,q5⟩:=hk
   have e1:vs=vs.take pre.length++vs.drop pre.length:=(List.take_append_drop _ _).symm
   have hlen:=hv.len
   rw[du,cK] at hlen
   have h1:dz g w (exactly pre) (vs.take pre.length):=by
    have:=hv.take pre.length
    rwa [List.take_append_of_le_length (by rw[cK];exact aw _),dE (by rw[cK];exact aw _)] at this
   have h2:dz g w l (vs.drop pre.length):=by
    have:=hv.drop pre.length
    rwa [List.drop_append_of_le_length (by rw[cK];exact aw _),List.drop_of_length_le (by rw[cK];exact aw _),List.nil_append] at this
   have h3:=AM h1
   rw[h3] at e1
   have e2:pre.length+(vs.drop pre.length).length=vs.length:=by rw[ee];omega
   exact⟨vs.drop pre.length,h2,⟨cs,e,n,rfl,q1,q2,by rw[e2,←e1];exact q3,by rw[e2];exact q4,q5⟩,hr⟩
theorem tV (h:Rel g m w) {a:AV} {ca:Value} (ha:VA g w a ca) {n:Nat} {l:List AV} (he:pI (fun i=>m.getD i .dead) a n=some (l,true)) (hb : ∀x∈l,x ≠ .p .aU) :
  ∃c o vs,ca = .pointer (some ⟨c,o,none⟩)∧dz g w l vs∧vs.length=n ∧ ∀j v,vs[j]? = some v→w.cell? ⟨c,o+j,none⟩=some v:=by
 have key : ∀(c o:Nat),l.length=n→(∀j (hj:j<l.length),∃v,w.cell? ⟨c,o+j,none⟩=some v∧VA g w l[j] v) →
   ∃vs,dz g w l vs∧vs.length=n ∧ ∀j v,vs[j]? = some v→w.cell? ⟨c,o+j,none⟩=some v:=by
  intro c o hl hh
  refine⟨(fh n).map fun j=>(w.cell? ⟨c,o+j,none⟩).getD undef,bN.dY (by simp[hl]) fun i hi _=> ?_,by simp,fun j v hj=> ?_⟩
  · obtain⟨v,h1,h2⟩:=hh i hi
    simpa[h1] using h2
  · simp only[en,kd] at hj
    obtain⟨k,hk,rfl⟩:=hj
    have hk':=dt.1 hk
    obtain⟨hlt,hk'⟩:=hk'
    simp at hlt hk'
    subst hk'
    obtain⟨v,h1,_⟩:=hh j (by omega)
    simp[h1]
 unfold pI at he
 split at he
 · rename_i off cs
   simp only[kb,kp,and_true] at he
   subst he
   rw[VA.pv] at ha
   cases ha with
   |pp _ _ b o f hp hv=>
    obtain⟨vs,h1,h2,h3⟩:=key b (o+off) (by simp[fC]) (fun j hj=>by
     have hj':j<(qM PV.aU cs off n).length:=by simpa using hj
     have hx:=hb _ (eQ hj)
     simp only[dv,oJ] at hx ⊢
     rcases be (off+j) cs.length with hlt | hge
     · refine⟨f (off+j),by rw[bm];exact(hp (off+j) hlt).2.1,?_⟩
       rw[de,df hlt]
       exact .p _ _ (hv (off+j) hlt)
     · exact absurd (by rw[de,dT hge];rfl) hx)
    exact⟨b,o+off,vs,rfl,h1,h2,h3⟩
 · rename_i b off
   cases ha with
   |mp _ _ c hc=>
    split at he
    · rename_i k hk
      simp only[kb,kp,and_true] at he
      subst he
      have hm:m[b]? = some (.pc k):=getD_some hk (by simp)
      obtain⟨c',cs,e,q,h1,h2,h3,h4,h5⟩:=h.cells b _ _ hm rfl
      rw[hc] at h1;cases h1
      have h4:=h4.1
      have hlen:=h4.len
      obtain⟨vs,k1,k2,k3⟩:=key c off (by simp[fC]) (fun j hj=>by
       have hx:=hb _ (eQ hj)
       simp only[dv,oJ] at hx ⊢
       rcases be (off+j) k.length with hlt | hge
       · have hlt':off+j<cs.size:=by simp at hlen;omega
         refine⟨cs[off+j],by rw[bG h2,ic hlt'],?_⟩
         rw[de,df hlt]
         have:=h4.get (off+j) (by simpa using hlt) (by simpa using hlt')
         simpa using this
       · exact absurd (by rw[de,dT hge];rfl) hx)
      exact⟨c,off,vs,rfl,k1,k2,k3⟩
    · rename_i k hk
      simp only[kb,kp] at he
      obtain⟨rfl,hle⟩:=he
      have hle':=ae hle
      have hm:m[b]? = some (.ac k):=getD_some hk (by simp)
      obtain⟨c',cs,e,q,h1,h2,h3,h4,h5⟩:=h.cells b _ _ hm rfl
      rw[hc] at h1;cases h1
      have h4:=h4.1
      have hlen:=h4.len
      obtain⟨vs,k1,k2,k3⟩:=key c off (by simp[fC]) (fun j hj=>by
       simp only[fC] at hj
       simp only[oJ]
       have hlt:off+j<k.length:=by omega
       have hlt':off+j<cs.size:=by simp at hlen;omega
       refine⟨cs[off+j],by rw[bG h2,ic hlt'],?_⟩
       rw[de,df hlt]
       have:=h4.get (off+j) hlt (by simpa using hlt')
       simpa using this)
      exact⟨c,off,vs,rfl,k1,k2,k3⟩
    · rename_i k hk
      simp only[kb,kp] at he
      obtain⟨rfl,hle⟩:=he
      have hle':=ae hle
      obtain⟨vs,k1,k2,k3⟩:=key c off (by simp[fC]) (fun j hj=>by
       simp only[fC] at hj
       simp only[oJ]
       have hlt:off+j<k.length:=by omega
       obtain⟨v,q1,q2⟩:=h.P6 (getD_some hk (by simp)) hc hlt
       refine⟨v,q1,?_⟩
       rw[de,df hlt]
       exact q2)
      exact⟨c,off,vs,rfl,k1,k2,k3⟩
    · rename_i t0 pre k hk
      simp only[kb,kp,jn] at he
      obtain⟨rfl,aeS,hle⟩:=he
      have ag4:=ae aeS
      have hle':=ae hle
      have hm:m[b]? = some (.ob (.stk t0 pre) k):=getD_some hk (by simp)
      obtain⟨hg,_⟩:=h.P9 hm
      have hgb:(m.set b (.ob (.gr t0 false) (exactly pre++k)))[b]? = some (.ob (.gr t0 false) (exactly pre++k)):=by rw[List.getElem?_set_self (bX hm)]
      obtain⟨vs,k1,k2,k3⟩:=key c off (by simp[fC]) (fun j hj=>by
       simp only[fC] at hj
       simp only[oJ]
       have hlt:off-pre.length+j<k.length:=by omega
       have ZH:off+j<(exactly pre++k).length:=by rw[du,cK];omega
       obtain⟨v,q1,q2⟩:=hg.P6 hgb hc ZH
       refine⟨v,q1,?_⟩
       rw[de,df hlt]
       have e:(exactly pre++k)[off+j]=k[off-pre.length+j]:=by
        rw[List.getElem_append_right (by rw[cK];omega)]
        congr 1
        rw[cK];omega
       rw[e] at q2
       exact q2)
      exact⟨c,off,vs,rfl,k1,k2,k3⟩
    · cases he
 · cases he
theorem dD (c o j:Nat):(⟨c,o,none⟩:Addr).add j=⟨c,o+j,none⟩:=by unfold Addr.add;split<;>simp_all
theorem vv (h:Rel g m w) {a:AV} {ca:Value} (ha:VA g w a ca) {t:TypeId} {v:AV} (he:oo P (fun i=>m.getD i .dead) t a=some (v,true)) :
  ∃c o cv,ca = .pointer (some ⟨c,o,none⟩)∧(loadVar t ⟨c,o,none⟩).run P w = .ok cv w∧VA g w v cv:=by
 unfold oo at he
 split at he
 · rename_i n hag hsz
   simp only[kd,kp,jn] at he
   obtain⟨⟨l,ok⟩,h1,rfl,hok,h2⟩:=he
   simp only at hok h2
   subst hok
   obtain⟨e1,e2⟩:=GK h2
   obtain⟨c,o,vs,rfl,k1,k2,k3⟩:=tV h ha h1 e2
   refine⟨c,o,.agg vs.toArray,rfl,?_,?_⟩
   · have:=run_loadCells_list (P:=P) w ⟨c,o,none⟩ vs (fun j v hj=>by rw[dD];exact k3 j v hj)
     simp only[loadVar,kv,pR hag,ky,if_true,bu hsz,←k2,this,kx]
   · simp only[e1];exact VA.zL.2 (by simpa using k1)
 · rename_i n hag hsz
   split at he
   · rename_i x ok hx
     simp only[kb,kp,jn] at he
     obtain⟨rfl,hok,h2⟩:=he
     subst hok
     obtain⟨e1,e2⟩:=AL h2
     obtain⟨c,o,vs,rfl,k1,k2,k3⟩:=tV h ha hx (fun y hy=>by simp at hy;subst hy;exact e2)
     cases vs with
     |nil=>exact k1.elim
     |cons u us=>
      have:=k3 0 u rfl
      simp only[Nat.add_zero] at this
      exact⟨c,o,u,rfl,by simp[loadVar,pR hag,this],by rw[e1];exact k1.1⟩
   · cases he
 · cases he
end ops
section ops
variable {P:Program} {g:Gh} {m:Mem} {w:World} {ρ:Operand→AV} {dm:Operand→Value} {o:Oper}
theorem tW {x a:AV} {cx:Value} {n:Nat} (h:pK x n=some a) (hx:VA g w x cx) :
  ∃c o,cx = .pointer (some ⟨c,o,none⟩)∧VA g w a (.pointer (some ⟨c,o+n,none⟩)):=by
 cases hx with
 |p v cv hv=>
  cases hv with
  |pp off cells b o f hp hv=>
   simp only[pK,kb] at h;subst h
   exact⟨b,o+off,rfl,.p _ _ (by rw[bm];exact .pp (off+n) cells b o f hp hv)⟩
  |_=>simp[pK] at h
 |mp b off c hc=>
  simp only[pK,kb] at h;subst h
  exact⟨c,off,rfl,.mp b (off+n) c hc⟩
 |_=>simp[pK] at h
theorem AN {c o:Nat} {f:Field} {n:Nat} (h:iU P f.type=some n) (hn:n≠0) :
  (fieldPlace ⟨c,o,none⟩ f).run P w = .ok ⟨c,o+f.offset,none⟩ w:=by
 simp[fieldPlace,bu h,hn,dD]
theorem vw {t:TypeId} {x a:AV} {cx:Value} {f:Nat} (h:nQ P t x f=some a) (hx:VA g w x cx) :
  ∃v,(hZ t cx f).run P w = .ok v w∧VA g w a v:=by
 unfold nQ at h
 split at h
 · rename_i fields hu
   split at h
   · rename_i fd hf
     split at h
     · rename_i n hn
       cases hb:ar 1 n with
       |false=>simp[hb] at h
       |true=>
        simp only[hb,cond_true] at h
        have h1:=ae hb
        obtain⟨c,o,rfl,ha⟩:=tW h hx
        refine⟨_,?_,ha⟩
        simp[hZ,run_underlying hu,hf,fx,AN hn (by omega:n≠0)]
     · cases h
   · cases h
 · cases h
theorem sV {i:Int} {n:Nat}:bE i n=true↔0≤i∧i<n:=by simp[bE]
theorem vA {t:TypeId} {x i a:AV} {cx ci:Value} (h:nR P t x i=some (a,true)) (hx:VA g w x cx) (hi:VA g w i ci) :
  ∃v,(fv t cx ci).run P w = .ok v w∧VA g w a v:=by
 unfold nR at h
 split at h
 · rename_i k n len elem hu
   rw[VA.pv] at hi;cases hi
   split at h
   · rename_i size hsz
     simp only[kd,kp] at h
     obtain⟨a',h1,rfl,h2⟩:=h
     obtain⟨c,o,rfl,ha⟩:=tW h1 hx
     rw[sV] at h2
     refine⟨_,?_,ha⟩
     simp[fv,asIntOf,run_underlying hu,fx,h2,bu hsz,dD]
   · cases h
 · rename_i k n elem hu
   rw[VA.pv] at hi;cases hi
   split at h
   · rename_i size len sz cs hsz
     simp only[kb,kp,jn] at h
     obtain⟨rfl,h2,_⟩:=h
     rw[sV] at h2
     rw[VA.pv] at hx
     cases hx with
     |ps _ _ _ b o cap f hl hc hz hp hv=>
      refine⟨_,?_,.p _ _ (.pp (n.toNat*size) cs b o f hp hv)⟩
      simp[fv,asIntOf,run_underlying hu,h2,bu hsz,dD]
     |xD sz a cap=>simp at h2;omega
   · rename_i size tok len sz cs hsz
     simp only[kb,kp,jn] at h
     obtain⟨rfl,h2,_⟩:=h
     rw[sV] at h2
     cases hx with
     |os _ _ _ _ ad cap hx hr=>
      cases hx with
      |ps _ _ _ b o cap f hl hc hz hp hv=>
       refine⟨_,?_,.p _ _ (.pp (n.toNat*size) cs b o f hp hv)⟩
       simp[fv,asIntOf,run_underlying hu,h2,bu hsz,dD]
      |xD sz a cap=>simp at h2;omega
   · rename_i size b off len sz cap hsz
     simp only[kb,kp,jn] at h
     obtain⟨rfl,h2,_⟩:=h
     rw[sV] at h2
     cases hx with
     |ms _ _ _ _ cap c hb hc=>
      refine⟨_,?_,.mp b _ c hb⟩
      simp[fv,asIntOf,run_underlying hu,h2,bu hsz,dD]
     |mg _ _ _ _ cap c hb hc=>
      refine⟨_,?_,.mp b _ c hb⟩
      simp[fv,asIntOf,run_underlying hu,h2,bu hsz,dD]
   · cases h
 · cases h
theorem Dh {α:Type} (d:α) : ∀(n:Nat) (l:List α) (off:Nat),off+n≤l.length→qM d l off n=(l.drop off).take n
 |0,_,_,_=>by simp[qM]
 |n+1,l,off,h=>by
  have hlt:off<l.length:=by omega
  rw[qM,Dh d n l (off+1) (by omega),List.drop_eq_getElem_cons hlt,List.take_succ_cons,de,df hlt]
  rfl
theorem vB {t:TypeId} {cs:List AV} {ca:Array Value} {off:Nat} {a:AV} (h:partOf P t cs off=some (a,true)) (hc:dz g w cs ca.toList) :
  ∃v,(part t ca off).run P w = .ok v w∧VA g w a v:=by
 have hlen:=hc.len
 unfold partOf at h
 split at h
 · rename_i n hag hsz
   simp only[kb,kp] at h
   obtain⟨rfl,h2⟩:=h
   have h2:=ae h2
   refine⟨_,by simp[part,pR hag,bu hsz];rfl,VA.zL.2 ?_⟩
   rw[Dh _ _ _ _ h2]
   have:=(hc.drop off).take n
   simpa[fb] using this
 · rename_i n hag hsz
   simp only[kb,kp] at h
   obtain⟨rfl,h2⟩:=h
   have h2:off<cs.length:=by simpa[db] using h2
   have h3:off<ca.size:=by simp at hlen;omega
   refine⟨ca[off],by simp[part,pR hag,ic h3],?_⟩
   rw[de,df h2]
   exact hc.get off h2 (by simpa using h3)
 · cases h
theorem Cv {t:TypeId} {x a:AV} {cx:Value} {f:Nat} (h:zY P t x f=some (a,true)) (hx:VA g w x cx) :
  ∃v,(h9 t cx f).run P w = .ok v w∧VA g w a v:=by
 unfold zY at h
 split at h
 · rename_i fields cs hu
   split at h
   · rename_i fd hf
     cases hx with
     |agg _ ca hl hh=>
      obtain⟨v,h1,h2⟩:=vB h (VA.zL.1 (.agg cs ca hl hh))
      exact⟨v,by simp[h9,run_underlying hu,hf,asAgg,h1],h2⟩
   · cases h
 · cases h
theorem AO (s:ByteArray) (i:Nat):s[i]? = s.data.toList[i]? :=by
 rcases be i s.size with h | h
 · have h2:i<s.data.toList.length:=by rw[ie];exact h
   rw[getElem?_pos s i h,df h2]
   rfl
 · have h2:s.data.toList.length≤i:=by rw[ie];exact h
   rw[getElem?_neg s i (da.2 h),dT h2]
theorem Cw {t:TypeId} {x i a:AV} {cx ci:Value} (h:zZ P t x i=some (a,true)) (hx:VA g w x cx) (hi:VA g w i ci) :
  ∃v,(gn t cx ci).run P w = .ok v w∧VA g w a v:=by
 unfold zZ at h
 split at h
 · rename_i cs k n
   rw[VA.pv] at hi;cases hi
   split at h
   · rename_i len elem hu
     split at h
     · rename_i size v ok hsz hp
       simp only[kb,kp,jn] at h
       obtain⟨rfl,h1,rfl⟩:=h
       rw[sV] at h1
       cases hx with
       |agg _ ca hl hh=>
        simp only[hsz,km] at hp
        obtain⟨v,h2,h3⟩:=vB hp (VA.zL.1 (.agg cs ca hl hh))
        refine⟨v,?_,h3⟩
        simp[gn,asIntOf,run_underlying hu,h1,bu hsz,h2]
     · cases h
   · cases h
 · rename_i s k n
   rw[VA.pv] at hi hx;cases hi;cases hx
   split at h
   · rename_i hu
     simp only[kb,kp] at h
     obtain⟨rfl,h1⟩:=h
     rw[sV] at h1
     have hlt:n.toNat<s.data.toList.length:=by omega
     refine⟨_,?_,.p _ _ (.sc _)⟩
     simp only[gn,asIntOf,run_underlying hu,kv,kx,ky,h1.1,if_true,AO,df hlt,de,km]
   · cases h
 · cases h
theorem GL (hr : ∀x,VA g w (ρ x) (dm x)) {x:Option Operand} {d n:Nat} (h:bound ρ x d=some (n,true)) :
  (x=none∧n=d)∨(∃y k i,x=some y∧dm y = .int k i∧0≤i∧n=i.toNat):=by
 unfold bound at h
 split at h
 · simp only[kb,kp,and_true] at h;exact .inl ⟨rfl,h.symm⟩
 · rename_i y
   split at h
   · rename_i k i he
     simp only[kb,kp,decide_eq_true_eq] at h
     have:=hr y
     rw[he,VA.pv] at this
     refine .inr ⟨y,k,i,rfl,?_,h.2,h.1.symm⟩
     generalize dm y=cv at this
     cases this;rfl
   · cases h
theorem run_sliceBound {k:IntKind} {i:Int} {y:Nat} {code:BoundsCode} (h0:0≤i) (h1:i.toNat≤y):(gg (.int k i) y code).run P w = .ok i.toNat w:=by
 have:i≤y:=by omega
 simp[gg,asIntOf,h0,this]
theorem cu (hr : ∀x,VA g w (ρ x) (dm x)) {isS:Bool} {len cap l h:Nat} {low high:Option Operand}
  (hl:bound ρ low 0=some (l,true)) (hh:bound ρ high len=some (h,true)) (h1:l≤h) (h2:h≤cap) :
  (ft isS len cap (low.map dm) (high.map dm) none).run P w = .ok (l,h,cap) w:=by
 rcases GL hr hl with⟨rfl,rfl⟩ | ⟨y,k,i,rfl,hy,hi,rfl⟩<;>rcases GL hr hh with⟨rfl,rfl⟩ | ⟨y',k',i',rfl,hy',hi',rfl⟩
 · simp[ft]
 · simp[ft,hy',run_sliceBound hi' h2]
 · simp[ft,hy,run_sliceBound hi h1]
 · simp[ft,hy,hy',run_sliceBound hi h1,run_sliceBound hi' h2]
theorem AP {α:Type} (cs:List α) {len l h size:Nat} {low high:Option Operand} (hl:cs.length=len*size) (h1:l≤h) (h2:h≤len) (e1:low=none→l=0) (e2:high=none→h=len) :
  cut cs (times low l size) (times high h size)=(cs.drop (l*size)).take ((h-l)*size):=by
 have hlh:(h-l)*size=h*size-l*size:=bj _ _ _
 have hhl:h*size≤len*size:=a8 _ h2
 have MZ:l*size≤h*size:=a8 _ h1
 unfold cut times
 cases low with
 |none=>
  have:=e1 rfl;subst this
  cases high with
  |none=>have:=e2 rfl;subst this;simp[hl,dE]
  |some _=>simp
 |some _=>
  cases high with
  |none=>
   have:=e2 rfl;subst this
   simp only[kl,kh]
   rw[dE]
   simp[hl,hlh]
  |some _=>simp only[kl];rw[fb,hlh]
theorem Ag {len sz:Nat} {cs:List PV} {a:Option Addr} {cap l h m':Nat} (hx:VP g w (.ps len sz cs) (.slice a len cap)) (h1:l≤h) (h2:h≤len) (h3:h≤m') (h4:m'≤cap) :
  VP g w (.ps (h-l) sz ((cs.drop (l*sz)).take ((h-l)*sz))) (.slice (if m'=l then a else a.map (·.add (l*sz))) (h-l) (m'-l)):=by
 cases hx with
 |ps _ _ _ b o cap f hl hc hz hp hv=>
  have hlh:(h-l)*sz=h*sz-l*sz:=bj _ _ _
  have hhl:h*sz≤len*sz:=a8 _ h2
  have MZ:l*sz≤h*sz:=a8 _ h1
  by_cases e:m'=l
  · have:h-l=0:=by omega
    simp only[this,Nat.zero_mul,List.take_zero]
    exact .xD _ _ _ (.inl hz)
  · simp only[if_neg e,kl,dD]
    refine .ps _ _ _ b (o+l*sz) _ (fun k=>f (l*sz+k)) (by simp[hl,hlh];omega) (by omega) hz (fun k hk=> ?_) (fun k hk=> ?_)
    · simp only[eh,ee,hl] at hk
      have:=hp (l*sz+k) (by omega)
      rw[bm];exact this
    · simp only[eh,ee,hl] at hk
      have:=hv (l*sz+k) (by omega)
      simpa using this
 |xD sz a cap hz=>
  have:h-l=0:=by omega
  simp only[this,List.drop_nil,List.take_nil]
  exact .xD _ _ _ (hz.imp id fun⟨e,e2⟩=>by subst e;subst e2;exact⟨by split<;>rfl,by omega⟩)
theorem pS {len sz size:Nat} {cs:List PV} {a:Option Addr} {cap:Nat} (hx:VP g w (.ps len sz cs) (.slice a len cap)) (h:(ai sz size||(ai len 0&&ar 1 size))=true):VP g w (.ps len size cs) (.slice a len cap):=by
 simp only[j1,jn,bc] at h
 rcases h with rfl | ⟨rfl,h1⟩
 · exact hx
 · have h1:=ae h1
   cases hx with
   |ps _ _ _ b o cap f hl hc hz hp hv=>
    simp at hl;subst hl
    exact .xD _ _ _ (.inl h1)
   |xD=>exact .xD _ _ _ (.inl h1)
theorem ru {len sz:Nat} {cs:List PV} {cv:Value} (hx:VP g w (.ps len sz cs) cv):cs.length=len*sz ∧ ∃a cap,cv = .slice a len cap∧(len≤cap):=by
 cases hx with
 |ps _ _ _ b o cap f hl hc hz hp hv=>exact⟨hl,_,_,rfl,hc⟩
 |xD=>exact⟨by simp,_,_,rfl,Nat.zero_le _⟩
end ops
theorem m0 {ρ:Operand→AV} {d n:Nat} {b:Bool} (h:bound ρ none d=some (n,b)):n=d:=by
 simp only[bound,kb,kp] at h;exact h.1.symm
section ops
variable {P:Program} {g:Gh} {m:Mem} {w:World} {ρ:Operand→AV} {dm:Operand→Value} {o:Oper}
theorem Cx (hr : ∀x,VA g w (ρ x) (dm x)) {t:TypeId} {x a:AV} {cx:Value} {low high mx:Option Operand} (h:sN P ρ t x low high mx=some (a,true)) (hx:VA g w x cx) :
  ∃v,(fl t cx (low.map dm) (high.map dm) (mx.map dm)).run P w = .ok v w∧VA g w a v:=by
 unfold sN at h
 split at h
 · rename_i n elem hu
   split at h
   · rename_i size l a' h' b' i off hsz hl hh
     simp only[kb,kp,jn] at h
     obtain⟨rfl,⟨⟨rfl,rfl⟩,h1⟩,h2⟩:=h
     have h1:=ae h1
     have h2:=ae h2
     cases hx with
     |mp _ _ c hc=>
      have e:(if n=l then(⟨c,off,none⟩:Addr) else(⟨c,off,none⟩:Addr).add (l*size))=⟨c,cond (ai n l) off (off+l*size),none⟩:=by
       by_cases e:n=l
       · simp[e]
       · have:ai n l=false:=by rw[j2];intro k;exact e (ag k)
         simp[e,this,dD]
      refine⟨_,?_,.ms i (cond (ai n l) off (off+l*size)) (h'-l) size (n-l) c hc (by omega)⟩
      simp only[fl,kv,run_underlying hu,ky,fx,kh,cu hr hl hh h1 h2,bu hsz,kx,e]
   · cases h
 · rename_i elem hu
   split at h
   · rename_i size l a' len sz cs hsz hl
     rw[VA.pv] at hx
     obtain⟨hlen,ad,cap,rfl,hcap⟩:=ru hx
     split at h
     · rename_i h' b' hh
       simp only[kb,kp,jn,bc] at h
       obtain⟨rfl,⟨⟨⟨rfl,rfl⟩,h1⟩,h2⟩,rfl⟩:=h
       have h1:=ae h1
       have h2:=ae h2
       refine⟨_,?_,.p _ _ (by rw[AP cs hlen h1 h2 (fun e:low=none=>m0 (e▸hl)) (fun e=>m0 (e▸hh))];exact Ag hx h1 h2 (ba h2 hcap) (aw _))⟩
       simp only[fl,fw,kv,run_underlying hu,ky,kh,cu hr hl hh h1 (ba h2 hcap),bu hsz,kx]
     · cases h
   · rename_i size l a' tok len sz cs hsz hl
     cases hx with
     |os _ _ _ _ ad cap hx GM=>
     obtain⟨hlen,ad',cap',he,hcap⟩:=ru hx
     cases he
     split at h
     · rename_i h' b' hh
       split at h
       · simp only[kb,kp,jn] at h
         obtain⟨rfl,⟨⟨rfl,rfl⟩,h1⟩,h3⟩:=h
         have h1:=ae h1
         have:=m0 hh;subst this
         have hsz':(ai sz size||(ai h' 0&&ar 1 size))=true:=by
          rw[j1] at h3 ⊢
          refine h3.imp id fun k=> ?_
          simp only[jn] at k ⊢
          exact⟨k.1,k.2.1⟩
         have hx':=pS hx hsz'
         have hlen':=(ru hx').1
         have hv:=Ag (m':=cap) hx' h1 (aw _) hcap (aw _)
         have hc:=AP (low:=low) (high:=none) cs hlen' h1 (aw _) (fun e:low=none=>m0 (e▸hl)) (fun _=>rfl)
         simp only[times,kh] at hc
         refine⟨_,?_,.os tok (h'-l) size _ _ _ (by simp only[times];rw[hc];exact hv) ?_⟩
         · have hb:=cu (P:=P) (isS:=true) hr hl hh h1 hcap
           simp only[kh] at hb
           simp only[fl,fw,kv,run_underlying hu,ky,kh,hb,bu hsz,kx]
         · rcases GM with rfl | ⟨t,b,o',rfl,rfl,q1,q2,q3,q4⟩
           · exact .inl rfl
           · have:sz=size:=by simpa[bc] using h3
             subst this
             by_cases e:cap=l
             · exact .inl (by omega)
             · refine .inr ⟨t,b,o'+l*sz,rfl,by simp[e,dD],q1,?_,?_,by omega⟩
               · rw[q2,bj];have:=a8 sz h1;omega
               · rw[q3,bj];have:=a8 sz (ba h1 hcap);omega
       · rename_i hy
         have acJ : ∀{sz:Nat},VP g w (.ps len sz cs) (.slice ad len cap)→cs.length=len*size→l≤h'→h'≤len→cut cs (times low l size) (some (h'*size))=(cs.drop (l*size)).take ((h'-l)*size):=fun _ hlen' h1 h2=>by
          have hc:=AP (low:=low) (high:=some hy) cs hlen' h1 h2 (fun e:low=none=>m0 (e▸hl)) (fun e=>by cases e)
          simpa only[times,kl] using hc
         split at h
         · rename_i heq
           simp only[kb,kp,jn] at h
           obtain⟨rfl,⟨⟨⟨rfl,rfl⟩,h1⟩,h2⟩,h3⟩:=h
           have heq:=ag heq
           have h1:=ae h1
           have h2:=ae h2
           have ag6:cap=len:=by
            rcases GM with e | ⟨t,b,o',e,_⟩
            · exact e
            · cases e
           have hx':=pS hx h3
           have hlen':=(ru hx').1
           have hv:=Ag (m':=cap) hx' h1 h2 (ba h2 hcap) (aw _)
           refine⟨_,?_,.os none (h'-l) size _ _ _ (by rw[acJ hx hlen' h1 h2];exact hv) (.inl (by omega))⟩
           simp only[fl,fw,kv,run_underlying hu,ky,kh,cu hr hl hh h1 (ba h2 hcap),bu hsz,kx]
         · simp only[kb,kp,jn] at h
           obtain⟨rfl,⟨⟨⟨rfl,rfl⟩,h1⟩,h2⟩,h3⟩:=h
           have h1:=ae h1
           have h2:=ae h2
           have hx':=pS hx h3
           have hlen':=(ru hx').1
           refine⟨_,?_,.p _ _ (by rw[acJ hx hlen' h1 h2];exact Ag hx' h1 h2 (ba h2 hcap) (aw _))⟩
           simp only[fl,fw,kv,run_underlying hu,ky,kh,cu hr hl hh h1 (ba h2 hcap),bu hsz,kx]
     · cases h
   · rename_i size l a' i off len sz hsz hl
     cases hx with
     |mg _ _ _ _ cap c hc hcap hroom=>
     split at h
     · rename_i h' b' hh
       simp only[kb,kp,jn,j1,bc,db] at h
       obtain⟨rfl,⟨⟨⟨⟨rfl,rfl⟩,h1⟩,h2⟩,rfl⟩,h3⟩:=h
       have h1:=ae h1
       have h2:=ae h2
       have e:(if cap=l then some (⟨c,off,none⟩:Addr) else(some (⟨c,off,none⟩:Addr)).map (·.add (l*sz)))=some ⟨c,off+l*sz,none⟩:=by
        by_cases e:cap=l
        · have:l=0:=by omega
          simp[e,this]
        · simp[e,dD]
       refine⟨_,?_,.mg i (off+l*sz) (h'-l) sz (cap-l) c hc (by omega) ?_⟩
       · simp only[fl,fw,kv,run_underlying hu,ky,kh,cu hr hl hh h1 (ba h2 hcap),bu hsz,kx,e]
       · rw[bj]
         have:=a8 sz (ba (ba h1 h2) hcap)
         omega
     · cases h
   · rename_i size l a' i off len sz cap hsz hl
     cases hx with
     |ms _ _ _ _ cap c hc hcap=>
     split at h
     · rename_i h' b' hh
       simp only[kb,kp,jn,bc] at h
       obtain⟨rfl,⟨⟨⟨rfl,rfl⟩,h1⟩,h2⟩,rfl⟩:=h
       have h1:=ae h1
       have h2:=ae h2
       have e:(if cap=l then some (⟨c,off,none⟩:Addr) else(some (⟨c,off,none⟩:Addr)).map (·.add (l*sz)))=some ⟨c,cond (ai cap l) off (off+l*sz),none⟩:=by
        by_cases e:cap=l
        · simp[e]
        · have:ai cap l=false:=by rw[j2];intro k;exact e (ag k)
          simp[e,this,dD]
       refine⟨_,?_,.ms i (cond (ai cap l) off (off+l*sz)) (h'-l) sz (cap-l) c hc (by omega)⟩
       simp only[fl,fw,kv,run_underlying hu,ky,kh,cu hr hl hh h1 h2,bu hsz,kx,e]
     · cases h
   · cases h
 · rename_i hu
   split at h
   · rename_i l a' s hl
     rw[VA.pv] at hx;cases hx
     split at h
     · rename_i h' b' hh
       simp only[kb,kp,jn] at h
       obtain⟨rfl,⟨⟨rfl,rfl⟩,h1⟩,h2⟩:=h
       have h1:=ae h1
       have h2:=ae h2
       have e:s.data.toList.length=s.size:=ie
       rw[e] at hh h2
       refine⟨_,?_,.p _ _ (.sc _)⟩
       simp only[fl,fw,kv,run_underlying hu,ky,kh,Option.isSome_none,Bool.false_eq_true,if_false,kx,cu hr hl hh h1 h2]
     · cases h
   · cases h
 · cases h
theorem zM (op:BinOp) (t:TypeId) (x y:Operand) (k k':IntKind) (a b:Int):(eqGuard op t x y (.int k a) (.int k' b)).run P w = .ok () w:=by
 unfold eqGuard;cases op<;>rfl
theorem uA (op:BinOp) (t:TypeId) (x y:Operand) (a b:ByteArray):(eqGuard op t x y (.string a) (.string b)).run P w = .ok () w:=by
 unfold eqGuard;cases op<;>rfl
theorem Fz {op:BinOp} {t:TypeId} {k k':IntKind} {a b:Int} {v:Value} (h:JA op k a k' b=some (v,true)):(binOp op t (.int k a) (.int k' b)).run P w = .ok v w:=by
 cases op<;>simp only[JA,kb,kp,jn,beq_iff_eq,ka,beq_eq_false_iff_ne,decide_eq_true_eq] at h
 case quo=>obtain⟨rfl,rfl,hb⟩:=h;simp[binOp,Op.intDiv,hb]
 case rem=>obtain⟨rfl,rfl,hb⟩:=h;simp[binOp,Op.intDiv,hb]
 case shl=>obtain⟨rfl,hb⟩:=h;simp[binOp,Op.shift,Int.not_lt.2 hb]
 case shr=>obtain⟨rfl,hb⟩:=h;simp[binOp,Op.shift,Int.not_lt.2 hb]
 all_goals obtain⟨rfl,rfl⟩:=h
 all_goals simp[binOp,la,Op.intBits,Op.intCmp]
theorem FA {op:BinOp} {t:TypeId} {a b:ByteArray} {v:Value} (h:JB op a b=some (v,true)):(binOp op t (.string a) (.string b)).run P w = .ok v w:=by
 have e : ∀s:ByteArray,s.data.toList.length=s.size:=fun s=>ie
 cases op<;>simp only[JB,kb,kp,and_true,reduceCtorEq] at h
 case add=>
  obtain⟨rfl,h⟩:=h
  have h:=ae h
  rw[e,e] at h
  rw[binOp_string_add,run_string_add_sum w a b (by unfold eY at h;omega)]
 all_goals (subst h;simp[binOp,Op.stringOp,ByteArray.toList_eq])
theorem jW (d:Nat) (cx cy:Array Value) : ∀(fs:List Field) (i:Nat) (xs ys:List AV) (b:Bool),jR P i fs xs ys=some b→dz g w xs (cx.toList.drop i)→dz g w ys (cy.toList.drop i) →
  (kz (d+1) cx cy fs).run P w = .ok b w
 |[],i,xs,ys,b,h,hx,hy=>by
  cases xs<;>cases ys<;>simp only[jR,kb,reduceCtorEq] at h
  subst h
  simp[kz]
 |f::fs,i,xs,ys,b,h,hx,hy=>by
  cases xs with
  |nil=>simp[jR] at h
  |cons x xs=>
   cases ys with
   |nil=>simp[jR] at h
   |cons y ys=>
    have Y0 : ∀(c:Array Value) (z:AV) (zs:List AV),dz g w (z::zs) (c.toList.drop i) → ∃v,c[i]? = some v∧VA g w z v∧dz g w zs (c.toList.drop (i+1)):=by
     intro c z zs hz
     cases hd:c.toList.drop i with
     |nil=>rw[hd] at hz;exact hz.elim
     |cons v vs=>
      rw[hd] at hz
      have h1:c.toList[i]? = some v:=by rw[←List.head?_drop,hd];rfl
      have h2:c.toList.drop (i+1)=vs:=by rw[←List.tail_drop,hd];rfl
      refine⟨v,by simpa using h1,hz.1,?_⟩
      rw[h2];exact hz.2
    obtain⟨vx,ex,rx,tx⟩:=Y0 cx x xs hx
    obtain⟨vy,ey,ry,ty⟩:=Y0 cy y ys hy
    simp only[jR] at h
    split at h
    · rename_i _ k a k' a' hu
      cases hc:(k==k'&&ai f.offset i&&f.name != "_" && P.plainKey f.type) with
      |false=>rw[hc] at h;cases h
      |true=>
       rw[hc] at h
       simp only[cond_true,kd] at h
       obtain⟨r,h1,rfl⟩:=h
       simp only[jn,beq_iff_eq,bne_iff_ne] at hc
       obtain⟨⟨⟨rfl,ho⟩,hn⟩,hp⟩:=hc
       have ho:=ag ho
       rw[VA.pv] at rx ry
       cases rx
       cases ry
       have ih:=jW d cx cy fs (i+1) xs ys r h1 tx ty
       simp only[kz,if_pos hn,kv,ho,run_part_plain w hp ex,run_part_plain w hp ey,ky,run_equalIn_int w d f.type k _ a a' hu]
       cases hab:(a==a') with
       |true=>simp[ih]
       |false=>simp
    · rename_i _ a a' hu
      cases hc:(ai f.offset i&&f.name != "_" && P.plainKey f.type) with
      |false=>rw[hc] at h;cases h
      |true=>
       rw[hc] at h
       simp only[cond_true,kd] at h
       obtain⟨r,h1,rfl⟩:=h
       simp only[jn,bne_iff_ne] at hc
       obtain⟨⟨ho,hn⟩,hp⟩:=hc
       have ho:=ag ho
       rw[VA.pv] at rx ry
       cases rx
       cases ry
       have ih:=jW d cx cy fs (i+1) xs ys r h1 tx ty
       simp only[kz,if_pos hn,kv,ho,run_part_plain w hp ex,run_part_plain w hp ey,ky,run_equalIn_bool' w d f.type a a' hu]
       cases hab:(a==a') with
       |true=>simp[ih]
       |false=>simp
    · rename_i _ a a' hu
      cases hc:(ai f.offset i&&f.name != "_" && P.plainKey f.type) with
      |false=>rw[hc] at h;cases h
      |true=>
       rw[hc] at h
       simp only[cond_true,kd] at h
       obtain⟨r,h1,rfl⟩:=h
       simp only[jn,bne_iff_ne] at hc
       obtain⟨⟨ho,hn⟩,hp⟩:=hc
       have ho:=ag ho
       rw[VA.pv] at rx ry
       cases rx
       cases ry
       have ih:=jW d cx cy fs (i+1) xs ys r h1 tx ty
       simp only[kz,if_pos hn,kv,ho,run_part_plain w hp ex,run_part_plain w hp ey,ky,run_equalIn_string w d f.type a a' hu,ByteArray.toList_eq]
       cases hab:(a.data.toList==a'.data.toList) with
       |true=>simp[ih]
       |false=>simp
    · cases h
theorem yK {t:TypeId} {x y:AV} {b:Bool} {vx vy:Value} (h:GB P t x y=some b) (hx:VA g w x vx) (hy:VA g w y vy) :
  (∀op p q,(eqGuard op t p q vx vy).run P w = .ok () w)∧(binOp .eql t vx vy).run P w = .ok (.bool b) w∧(binOp .neq t vx vy).run P w = .ok (.bool (!b)) w:=by
 unfold GB at h
 split at h
 · rename_i xs ys
   split at h
   · rename_i fs hu
     cases hc:(!P.stoodInHeld t && !P.eqGuardType P.depth t) with
     |false=>rw[hc] at h;cases h
     |true=>
      rw[hc] at h
      simp only[cond_true] at h
      simp only[jn,ka] at hc
      cases hx with
      |agg _ cx lx hx=>
       cases hy with
       |agg _ cy ly hy=>
        have hfo:P.fieldsOf t=fs:=by unfold Program.fieldsOf;rw[hu]
        have hu2:P.underlying t=some (.struct (P.fieldsOf t)):=by rw[hfo,hu]
        have key:=jW (g:=g) (w:=w) 9998 cx cy fs.toList 0 xs ys b h (by simpa using bN.dY lx hx) (by simpa using bN.dY ly hy)
        have e:(Op.equalIn 10000 t (.agg cx) (.agg cy)).run P w = .ok b w:=by
         rw[run_equalIn_agg w 9999 t cx cy hu2 hc.1,hfo];exact key
        refine⟨fun op p q=>run_eqGuard_agg w op t p q cx cy hc.2,?_,?_⟩
        · rw[run_eql_struct,e];rfl
        · rw[run_neq_struct,e];rfl
   · cases h
 · cases h
theorem Cy (hr : ∀x,VA g w (ρ x) (dm x)) {op:BinOp} {t yt:TypeId} {x y:Operand} (ho:o.op = .binOp op t x y yt) {a:AV} (h:vh P ρ o op (ρ x) (ρ y)=some (a,true)) :
  ∃v,(execOp dm o).run P w = .ok (.value v) w∧VA g w a v:=by
 unfold vh at h
 split at h
 · rename_i k a' k' b' hx hy
   simp only[kd,kp] at h
   obtain⟨⟨v,ok⟩,h1,rfl,h2⟩:=h
   simp only at h2;subst h2
   have cx:dm x = .int k a':=by have:=hr x;rw[hx,VA.pv] at this;generalize dm x=z at this;cases this;rfl
   have cy:dm y = .int k' b':=by have:=hr y;rw[hy,VA.pv] at this;generalize dm y=z at this;cases this;rfl
   exact⟨v,by simp only[execOp,ho,cx,cy,kv,zM,ky,Fz h1,kx],.p _ _ (.sc v)⟩
 · rename_i a' b' hx hy
   simp only[kd,kp] at h
   obtain⟨⟨v,ok⟩,h1,rfl,h2⟩:=h
   simp only at h2;subst h2
   have cx:dm x = .string a':=by have:=hr x;rw[hx,VA.pv] at this;generalize dm x=z at this;cases this;rfl
   have cy:dm y = .string b':=by have:=hr y;rw[hy,VA.pv] at this;generalize dm y=z at this;cases this;rfl
   exact⟨v,by simp only[execOp,ho,cx,cy,kv,uA,ky,FA h1,kx],.p _ _ (.sc v)⟩
 · have hs : ∀cs b,o.op ≠ .select cs b:=fun _ _=>by rw[ho];exact fun e=>by cases e
   split at h
   · split at h
     · rename_i b hb
       simp only[kb,kp,and_true] at h
       subst h
       have hb:GB P t (ρ x) (ρ y)=some b:=by unfold LD at hb;rw[ho] at hb;exact hb
       obtain⟨k1,k2,k3⟩:=yK hb (hr x) (hr y)
       exact⟨_,by simp only[execOp,ho,kv,k1,ky,k2,kx],.p _ _ (.sc _)⟩
     cases hc:(nS (ρ x)&&nT (ρ y)||nT (ρ x)&&nS (ρ y)) with
     |true=>simp[hc] at h
     |false=>
      simp only[hc,cond_false,kd,kp,and_true] at h
      obtain⟨v,h1,rfl⟩:=h
      exact gq hr hs h1
   · split at h
     · rename_i b hb
       simp only[kb,kp,and_true] at h
       subst h
       have hb:GB P t (ρ x) (ρ y)=some b:=by unfold LD at hb;rw[ho] at hb;exact hb
       obtain⟨k1,k2,k3⟩:=yK hb (hr x) (hr y)
       exact⟨_,by simp only[execOp,ho,kv,k1,ky,k3,kx],.p _ _ (.sc _)⟩
     cases hc:(nS (ρ x)&&nT (ρ y)||nT (ρ x)&&nS (ρ y)) with
     |true=>simp[hc] at h
     |false=>
      simp only[hc,cond_false,kd,kp,and_true] at h
      obtain⟨v,h1,rfl⟩:=h
      exact gq hr hs h1
   · cases h
theorem FB (hr : ∀x,VA g w (ρ x) (dm x)) {op:UnOp} {t:TypeId} {x:Operand} (ho:o.op = .unOp op t x) {a:AV} (h:Av P ρ o op (ρ x)=some (a,true)) :
  ∃v,(execOp dm o).run P w = .ok (.value v) w∧VA g w a v:=by
 unfold Av at h
 split at h
 · rename_i b hx
   simp only[kb,kp,and_true] at h;subst h
   have cx:dm x = .bool b:=by have:=hr x;rw[hx,VA.pv] at this;generalize dm x=z at this;cases this;rfl
   exact⟨_,by simp only[execOp,ho,cx,Op.unary,kv,kx,ky],.p _ _ (.sc _)⟩
 · rename_i k n hx
   simp only[kb,kp,and_true] at h;subst h
   have cx:dm x = .int k n:=by have:=hr x;rw[hx,VA.pv] at this;generalize dm x=z at this;cases this;rfl
   exact⟨_,by simp only[execOp,ho,cx,Op.unary,la,kv,kx,ky],.p _ _ (.sc _)⟩
 · simp only[kd,kp,and_true] at h
   obtain⟨v,h1,rfl⟩:=h
   exact gq hr (fun _ _=>by rw[ho];exact fun e=>by cases e) h1
set_option linter.unusedVariables false in
theorem vC {t:TypeId} {x a:AV} {cx:Value} (h:qV P t x=some a) (hx:VA g w x cx) :
  ∃v,(Instr.makeInterface t cx).run P w = .ok v w∧VA g w a v:=by
 unfold qV at h
 cases h
theorem xF (hr : ∀x,VA g w (ρ x) (dm x)) {x:Operand} (ho:o.op = .nilCheck x) {a:AV} (h:mU P ρ o (ρ x)=some a) :
  ∃v,(execOp dm o).run P w = .ok (.value v) w∧VA g w a v:=by
 unfold mU at h
 split at h
 · rename_i off cs hx
   simp only[kb] at h;subst h
   have:=hr x;rw[hx] at this
   refine⟨dm x,?_,this⟩
   generalize hz:dm x=z at this
   rw[VA.pv] at this;cases this
   simp[execOp,ho,hz]
 · rename_i b off hx
   simp only[kb] at h;subst h
   have:=hr x;rw[hx] at this
   refine⟨dm x,?_,this⟩
   generalize hz:dm x=z at this
   cases this
   simp[execOp,ho,hz]
 · rename_i f a' b' hx
   simp only[kb] at h;subst h
   have:=hr x;rw[hx] at this
   refine⟨dm x,?_,this⟩
   generalize hz:dm x=z at this
   cases this
   simp[execOp,ho,hz]
 · exact gq hr (fun _ _=>by rw[ho];exact fun e=>by cases e) h
theorem GN {argTypes:Array TypeId} {ty:TypeId} {x a:AV} {cx:Value} (h:PM P argTypes x=some a) (hx:VA g w x cx) :
  ∃v,(lb argTypes ty #[cx]).run P w = .ok v w∧VA g w a v:=by
 unfold PM at h
 split at h
 · rename_i t ht
   split at h
   · rename_i len sz cs hu
     simp only[kb] at h;subst h
     rw[VA.pv] at hx
     obtain⟨_,ad,cap,rfl,_⟩:=ru hx
     exact⟨_,by simp[lb,ht,run_underlying hu,goInt],.p _ _ (.sc _)⟩
   · rename_i tok len sz cs hu
     simp only[kb] at h;subst h
     cases hx with
     |os _ _ _ _ ad cap hx _=>exact⟨_,by simp[lb,ht,run_underlying hu,goInt],.p _ _ (.sc _)⟩
   · rename_i b off len sz cap hu
     simp only[kb] at h;subst h
     cases hx with
     |ms _ _ _ _ cap c _ _=>exact⟨_,by simp[lb,ht,run_underlying hu,goInt],.p _ _ (.sc _)⟩
     |mg _ _ _ _ cap c _ _ _=>exact⟨_,by simp[lb,ht,run_underlying hu,goInt],.p _ _ (.sc _)⟩
   · rename_i s hu
     simp only[kb] at h;subst h
     rw[VA.pv] at hx;cases hx
     rw[show s.data.toList.length=s.size from ie]
     exact⟨_,by simp[lb,ht,run_underlying hu,goInt],.p _ _ (.sc _)⟩
   · rename_i n e hu
     simp only[kb] at h;subst h
     exact⟨_,by simp[lb,ht,run_underlying hu,goInt],.p _ _ (.sc _)⟩
   · cases h
 · cases h
theorem GO {argTypes:Array TypeId} {ty:TypeId} {x a:AV} {cx:Value} (h:PN P argTypes x=some a) (hx:VA g w x cx) :
  ∃v,(lk argTypes ty #[cx]).run P w = .ok v w∧VA g w a v:=by
 unfold PN at h
 split at h
 · rename_i t ht
   split at h
   · rename_i b off len sz cap hu
     simp only[kb] at h;subst h
     cases hx with
     |ms _ _ _ _ cap c _ _=>exact⟨_,by simp[lk,ht,run_underlying hu,goInt],.p _ _ (.sc _)⟩
   · rename_i len sz cs hu
     simp only[kb] at h;subst h
     cases hx with
     |os _ _ _ _ ad cap hx hr=>
      have hcap:cap=len:=by
       rcases hr with e | ⟨t,b,o,e,_⟩
       · exact e
       · cases e
      subst hcap
      exact⟨_,by simp[lk,ht,run_underlying hu,goInt],.p _ _ (.sc _)⟩
   · rename_i cs hu
     simp only[kb] at h;subst h
     rw[VA.pv] at hx
     cases hx with
     |ps _ _ _ b o cap f hl hc hz hp hv=>omega
     |xD sz a cap hz=>
      obtain⟨rfl,rfl⟩:=hz.resolve_left (by omega)
      exact⟨_,by simp[lk,ht,run_underlying hu,goInt],.p _ _ (.sc _)⟩
   · cases h
 · cases h
end ops
section ops
variable {P:Program} {g:Gh} {m:Mem} {w:World}
theorem fD : ∀{l:List AV} {aH:List PV} {vs:List Value},qB l=some aH→dz g w l vs→MX g w aH vs
 |[],aH,vs,h,hv=>by
  simp[qB] at h;subst h
  cases vs with
  |nil=>trivial
  |cons _ _=>exact hv.elim
 |a::l,aH,vs,h,hv=>by
  cases vs with
  |nil=>exact hv.elim
  |cons v vs=>
   simp only[qB] at h
   cases h1:MT a with
   |none=>simp[h1] at h
   |some pv=>
    cases h2:qB l with
    |none=>simp[h1,h2] at h
    |some us=>
     simp only[h1,h2,kb] at h
     subst h
     refine⟨?_,fD h2 hv.2⟩
     have h0:=hv.1
     cases h0 with
     |p pv' _ hp=>simp[MT] at h1;subst h1;exact hp
     |os tok len sz cells ad cap hp _=>simp[MT] at h1;subst h1;exact hp
     |_=>simp[MT] at h1
def xG (P:Program) (g:Gh) (w:World) (sz n:Nat) (aH:List PV) (cx:Value):Prop:=
 ∃vs:List Value,MX g w aH vs∧vs.length=n*sz∧(∀v∈vs,v.oneCell'=true)∧(lj cx).run P w = .ok n w ∧ ∀k,k≤n→(lh sz k cx).run P w = .ok (vs.take (k*sz)).toArray w
theorem fE {sz n cap:Nat} {aH:List PV} {b o:Nat} {vs:List Value} (h1:MX g w aH vs) (h2:vs.length=n*sz) (ho : ∀v∈vs,v.oneCell'=true) (h3 : ∀j v,vs[j]? = some v→w.cell? ⟨b,o+j,none⟩=some v) :
  xG P g w sz n aH (.slice (some ⟨b,o,none⟩) n cap):=by
 refine⟨vs,h1,h2,ho,by simp[lj],fun k hk=> ?_⟩
 have hl:(vs.take (k*sz)).length=k*sz:=by
  rw[eh,h2];exact Nat.min_eq_left (a8 _ hk)
 have:=run_loadCells_list (P:=P) w ⟨b,o,none⟩ (vs.take (k*sz)) (fun j v hj=>by
  rw[dD];exact h3 j v (by rw[di] at hj;split at hj<;>simp_all))
 rw[hl] at this
 simpa[lh] using this
theorem sW {sz n:Nat} {aH:List PV} {cx:Value} (h:VP g w (.ps n sz aH) cx):xG P g w sz n aH cx:=by
 cases h with
 |ps _ _ _ b o cap f hl hc hz hp hv=>
  refine fE (vs:=(fh aH.length).map f) (bN.dY (by simp) fun i hi _=> ?_) (by simp[hl]) (fun v hv=> ?_) fun j v hj=> ?_
  · simpa using hv i hi
  · obtain⟨k,hk,rfl⟩:=fg.1 hv
    exact(hp k (by simpa using hk)).2.2
  · simp only[en,kd] at hj
    obtain⟨k,hk,rfl⟩:=hj
    obtain⟨hlt,hk⟩:=dt.1 hk
    simp at hlt hk;subst hk
    exact(hp j hlt).2.1
 |xD _ a cap=>
  refine⟨[],trivial,by simp,by simp,by simp[lj],fun k hk=> ?_⟩
  have:k=0:=by omega
  subst this
  cases a<;>simp[lh,loadCells,loadCellsFrom]
theorem pU : ∀{l:List AV},vc l=true→qB l=some (l.map Ct)
 |[],_=>rfl
 |.p v::l,h=>by
  have:=pU (l:=l) (by simpa[vc] using h)
  simp[qB,MT,this,Ct]
 |.az::_,h | .os .. :: _,h | .mp .. :: _,h | .ms .. :: _,h | .fn .. :: _,h | .agg _::_,h | .aD _::_,h | .qQ .. :: _,h | .vm _::_,h | .vy _::_,h=>by simp[vc] at h
theorem gZ (h:Rel g m w) {sz n:Nat} {x:AV} {cx:Value} {aH:List PV} (he:contents (fun i=>m.getD i .dead) sz x=some (n,aH,true)) (hx:VA g w x cx) :
  xG P g w sz n aH cx:=by
 unfold contents at he
 split at he
 · simp only[kb,kp] at he
   obtain⟨rfl,rfl,h1⟩:=he
   rw[VA.pv] at hx
   obtain⟨_,ad,cap,rfl,_⟩:=ru hx
   exact sW (pS hx h1)
 · simp only[kb,kp] at he
   obtain⟨rfl,rfl,h1⟩:=he
   cases hx with
   |os _ _ _ _ ad cap hx _=>exact sW (pS hx h1)
 · rename_i b off len s cap
   cases hx with
   |ms _ _ _ _ cap c hc hcap=>
   split at he
   · rename_i l hl
     simp only[kb,kp,jn,bc] at he
     obtain⟨rfl,rfl,rfl,h1⟩:=he
     have h1:=ae h1
     have hm:=getD_some hl (by simp)
     obtain⟨c',cs,e,q,k1,k2,k3,k4,k5⟩:=h.cells b _ _ hm rfl
     rw[hc] at k1;cases k1
     have hone:=k4.2
     have k4:=k4.1
     have hlen:=k4.len
     simp at hlen
     refine fE (vs:=(cs.toList.drop off).take (len*s)) ?_ (by simp;omega) (fun v hv=>hone v (dp (dk hv))) fun j v hj=> ?_
     · have:=((k4.drop off).take (len*s))
       rw[←List.map_drop,←List.map_take] at this
       exact bN.dY (by simpa using this.len) fun i a b=>by
        have:=this.get i (by simpa using a) b
        rw[dv,VA.pv] at this
        exact this
     · rw[di] at hj
       split at hj
       · rw[dq] at hj
         rw[bG k2];simpa using hj
       · cases hj
   · rename_i l hl
     simp only[kd,kp,jn,bc] at he
     obtain⟨us,he,rfl,rfl,rfl,h1⟩:=he
     have h1:=ae h1
     have hm:=getD_some hl (by simp)
     obtain⟨c',cs,e,q,k1,k2,k3,k4,k5⟩:=h.cells b _ _ hm rfl
     rw[hc] at k1;cases k1
     have hone:=k4.2
     have k4:=k4.1
     have hlen:=k4.len
     simp at hlen
     refine fE (vs:=(cs.toList.drop off).take (len*s)) (fD he ((k4.drop off).take (len*s))) (by simp;omega) (fun v hv=>hone v (dp (dk hv))) fun j v hj=> ?_
     rw[di] at hj
     split at hj
     · rw[dq] at hj
       rw[bG k2];simpa using hj
     · cases hj
   · rename_i l hl
     simp only[kb,kp,jn,bc] at he
     obtain⟨rfl,rfl,hp,rfl,h1⟩:=he
     have he:=pU hp
     have h1:=ae h1
     obtain⟨c',ob,vs,k1,k2,k3,k4,_,_⟩:=h.obs b _ _ (getD_some hl (by simp))
     rw[hc] at k1;cases k1
     obtain⟨cs,e,q,rfl,_,q0,q1,q2,q3⟩:=k4
     have hlen:=k3.len
     refine fE (vs:=(vs.drop off).take (len*s)) (fD he ((k3.drop off).take (len*s))) (by simp;omega) (fun v hv=> ?_) fun j v hj=> ?_
     · have hv:=dp (dk hv)
       rw[q1] at hv
       exact q3 v (dk hv)
     · rw[di] at hj
       split at hj
       · rw[dq,q1,di] at hj
         split at hj
         · rw[bG k2];simpa using hj
         · cases hj
       · cases hj
   · rename_i l hl
     simp only[kd,kp,jn,bc] at he
     obtain⟨us,he,rfl,rfl,rfl,h1⟩:=he
     have h1:=ae h1
     obtain⟨c',ob,vs,k1,k2,k3,k4,_,_⟩:=h.obs b _ _ (getD_some hl (by simp))
     rw[hc] at k1;cases k1
     obtain⟨cs,e,q,rfl,_,q0,q1,q2,q3⟩:=k4
     have hlen:=k3.len
     refine fE (vs:=(vs.drop off).take (len*s)) (fD he ((k3.drop off).take (len*s))) (by simp;omega) (fun v hv=> ?_) fun j v hj=> ?_
     · have hv:=dp (dk hv)
       rw[q1] at hv
       exact q3 v (dk hv)
     · rw[di] at hj
       split at hj
       · rw[dq,q1,di] at hj
         split at hj
         · rw[bG k2];simpa using hj
         · cases hj
       · cases hj
   · cases he
 · rename_i b off len s
   cases hx with
   |mg _ _ _ _ cap c hc hcap hroom=>
   split at he
   · rename_i l hl
     simp only[kb,kp,jn,bc] at he
     obtain⟨rfl,rfl,hp,rfl,h1⟩:=he
     have he:=pU hp
     have h1:=ae h1
     obtain⟨c',ob,vs,k1,k2,k3,k4,_,_⟩:=h.obs b _ _ (getD_some hl (by simp))
     rw[hc] at k1;cases k1
     obtain⟨cs,e,q,rfl,_,q0,q1,q2,q3⟩:=k4
     have hlen:=k3.len
     refine fE (vs:=(vs.drop off).take (len*s)) (fD he ((k3.drop off).take (len*s))) (by simp;omega) (fun v hv=> ?_) fun j v hj=> ?_
     · have hv:=dp (dk hv)
       rw[q1] at hv
       exact q3 v (dk hv)
     · rw[di] at hj
       split at hj
       · rw[dq,q1,di] at hj
         split at hj
         · rw[bG k2];simpa using hj
         · cases hj
       · cases hj
   · rename_i l hl
     simp only[kd,kp,jn,bc] at he
     obtain⟨us,he,rfl,rfl,rfl,h1⟩:=he
     have h1:=ae h1
     obtain⟨c',ob,vs,k1,k2,k3,k4,_,_⟩:=h.obs b _ _ (getD_some hl (by simp))
     rw[hc] at k1;cases k1
     obtain⟨cs,e,q,rfl,_,q0,q1,q2,q3⟩:=k4
     have hlen:=k3.len
     refine fE (vs:=(vs.drop off).take (len*s)) (fD he ((k3.drop off).take (len*s))) (by simp;omega) (fun v hv=> ?_) fun j v hj=> ?_
     · have hv:=dp (dk hv)
       rw[q1] at hv
       exact q3 v (dk hv)
     · rw[di] at hj
       split at hj
       · rw[dq,q1,di] at hj
         split at hj
         · rw[bG k2];simpa using hj
         · cases hj
       · cases hj
   · rename_i l hl
     simp only[kb,kp,jn,bc] at he
     obtain⟨rfl,rfl,hp,rfl,h1⟩:=he
     have he:=pU hp
     have h1:=ae h1
     obtain⟨c',ob,vs,k1,k2,k3,k4,_,_⟩:=h.obs b _ _ (getD_some hl (by simp))
     rw[hc] at k1;cases k1
     obtain⟨cs,e,q,rfl,_,q0,q1,q2,q3,_⟩:=k4
     have hlen:=k3.len
     refine fE (vs:=(vs.drop off).take (len*s)) (fD he ((k3.drop off).take (len*s))) (by simp;omega) (fun v hv=> ?_) fun j v hj=> ?_
     · have hv:=dp (dk hv)
       rw[q1] at hv
       obtain⟨k,rfl⟩:=q3 v (dk hv)
       rfl
     · rw[di] at hj
       split at hj
       · rw[dq,q1,di] at hj
         split at hj
         · rw[bG k2];simpa using hj
         · cases hj
       · cases hj
   · cases he
 · rename_i s
   simp only[kb,kp,bc] at he
   obtain⟨rfl,rfl,rfl⟩:=he
   rw[VA.pv] at hx;cases hx
   refine⟨s.data.toList.map fun b=> .int .u8 b.toNat,bN.dY (by simp) fun i a b=> ?_,by simp,by simp[ln],?_,fun k hk=> ?_⟩
   · simp only[dv];exact .sc _
   · rw[show s.data.toList.length=s.size from ie];simp[lj]
   · simp only[lh,kx,Result.ok.injEq,and_true]
     apply Array.ext'
     simp[ByteArray.data_extract]
 · cases he
theorem AQ {a:AV} {v:Value} (h:pH a=true) (ha:VA g w a v):v.oneCell'=true:=by
 cases ha with
 |p pv cv hp=>cases hp<;>first | rfl | (simpa[pH] using h)
 |agg=>simp[pH] at h
 |aD=>simp[pH] at h
 |az=>simp[pH] at h
 |_=>rfl
theorem mC : ∀{l:List AV} {vs:List Value},mS l=true→dz g w l vs → ∀u∈vs,u.oneCell'=true
 |[],[],_,_,_,hu=>by cases hu
 |a::l,v::vs,h,hv,u,hu=>by
  simp only[mS,jn] at h
  cases hu with
  |head=>exact AQ h.1 hv.1
  |tail _ hu=>exact mC h.2 hv.2 u hu
 |[],_::_,_,hv,_,_=>hv.elim
 |_::_,[],_,hv,_,_=>hv.elim
theorem oq {a:AV} {v:Value} (h:(cellsOf a).2=true) (ha:VA g w a v):dz g w (cellsOf a).1 v.cells.toList ∧ ∀u∈v.cells.toList,u.oneCell'=true:=by
 have ZI : ∀{v:Value},v.oneCell'=true→v.cells = #[v]:=by intro v h;cases v<;>first | rfl | (simp[ln] at h)
 cases ha with
 |agg l cs hl hh=>
  have:=VA.zL.1 (.agg l cs hl hh)
  exact⟨this,mC h this⟩
 |p pv cv hp=>
  have h1:=AQ (a:= .p pv) (by simpa[cellsOf] using h) (.p pv v hp)
  rw[ZI h1]
  exact⟨⟨.p pv v hp,trivial⟩,by simpa using h1⟩
 |os tok len sz cells ad cap hp hr=>
  exact⟨⟨.os tok len sz cells ad cap hp hr,trivial⟩,by simp[lr,ln]⟩
 |mp b off c hc=>exact⟨⟨.mp b off c hc,trivial⟩,by simp[lr,ln]⟩
 |ms b off len sz cap c hc hcap=>exact⟨⟨.ms b off len sz cap c hc hcap,trivial⟩,by simp[lr,ln]⟩
 |mg b off len sz cap c hc hcap hh=>exact⟨⟨.mg b off len sz cap c hc hcap hh,trivial⟩,by simp[lr,ln]⟩
 |vm b c hc=>exact⟨⟨.vm b c hc,trivial⟩,by simp[lr,ln]⟩
 |vy b c hc=>exact⟨⟨.vy b c hc,trivial⟩,by simp[lr,ln]⟩
 |fn f l k fa ca hl hk h1 h2=>exact⟨⟨.fn f l k fa ca hl hk h1 h2,trivial⟩,by simp[lr,ln]⟩
 |qQ t v cv hv=>exact⟨⟨.qQ t v cv hv,trivial⟩,by simp[lr,ln]⟩
 |az=>simp[cellsOf,pH] at h
 |aD=>simp[cellsOf,pH] at h
theorem Di (off:Nat) : ∀(l:List Value) (k:Nat) (cs:Array Value),
  ((l.zipIdx k).foldl (fun cs (c,j)=>cs.setIfInBounds (off+j) c) cs).toList=dJ cs.toList (off+k) l
 |[],k,cs=>rfl
 |v::l,k,cs=>by
  simp only[List.zipIdx_cons,List.foldl_cons,dJ]
  rw[Di off l (k+1)]
  simp[bm]
theorem bN.dJ {α β:Type} {r:α→β→Prop} : ∀{new:List α} {new':List β} {l:List α} {l':List β} (off:Nat),bN r l l'→bN r new new'→bN r (dJ l off new) (dJ l' off new')
 |[],[],_,_,_,h,_=>h
 |_::_,_::_,_,_,off,h,k=>bN.dJ (off+1) (h.set off k.1) k.2
 |[],_::_,_,_,_,_,k=>k.elim
 |_::_,[],_,_,_,_,k=>k.elim
theorem oK {α:Type} {p:α→Prop} : ∀(n l:List α) (o:Nat),(∀v∈l,p v)→(∀v∈n,p v) → ∀v∈dJ l o n,p v
 |[],_,_,h,_=>h
 |x::n,l,o,h,h'=>oK n _ (o+1) (fun v hv=>by
   rcases List.mem_or_eq_of_mem_set hv with k | k
   · exact h v k
   · exact k▸h' x (.head _)) fun v hv=>h' v (.tail _ hv)
theorem nV {place:Nat→Option (Nat×Nat)} : ∀{parts:List (Nat×AV)} {m5:List (Nat×Value)} {cells cs:List AV} {ca:Array Value},
  bN (fun a b=>a.1=b.1∧VA g w a.2 b.2) parts m5→JF g w cells ca.toList→yI place cells parts=some (cs,true) →
   ∃FC,ib place ca m5=some FC∧JF g w cs FC.toList∧FC.size=ca.size
 |[],[],cells,cs,ca,_,hc,h=>by
  simp[yI] at h;subst h
  exact⟨ca,rfl,hc,rfl⟩
 |(i,a)::parts,(j,v)::m5,cells,cs,ca,hp,hc,h=>by
  obtain⟨⟨rfl,hv⟩,hp⟩:=hp
  simp only[yI] at h
  cases GP:place i with
  |none=>simp[GP] at h
  |some q=>
   obtain⟨off,size⟩:=q
   simp only[GP] at h
   cases hf:yI place (dJ cells off (cellsOf a).1) parts with
   |none=>simp[hf] at h
   |some r=>
    obtain⟨cs',ok⟩:=r
    simp only[hf,kb,kp,jn,bc] at h
    obtain⟨rfl,⟨⟨h0,h1⟩,h2⟩,rfl⟩:=h
    have h2:=ae h2
    have hlc:=hc.1.len
    obtain⟨k1,k2⟩:=oq h0 hv
    have uB:=k1.len
    have Cz:JF g w (dJ cells off (cellsOf a).1) (dJ ca.toList off v.cells.toList):=⟨hc.1.dJ off k1,oK _ _ _ hc.2 k2⟩
    have LR:(v.cells.zipIdx.foldl (fun cs (c,j)=>cs.setIfInBounds (off+j) c) ca).toList=dJ ca.toList off v.cells.toList:=by
     rw[←Array.foldl_toList,Array.toList_zipIdx,Di];simp
    obtain⟨FC,q1,q2,q3⟩:=nV (ca:=v.cells.zipIdx.foldl (fun cs (c,j)=>cs.setIfInBounds (off+j) c) ca) hp (by rw[LR];exact Cz) hf
    have hsz:v.cells.size=size:=by simp at uB;omega
    have hroom : ¬(off+v.cells.size>ca.size):=by simp at hlc;omega
    refine⟨FC,?_,q2,?_⟩
    · simp only[ib,GP]
      rw[if_neg (by simp[hsz,hsz▸hroom]<;>omega)]
      exact q1
    · rw[q3]
      have:=congrArg List.length LR
      have Y1 : ∀(n:List Value) (l:List Value) (o:Nat),(dJ l o n).length=l.length:=by
       intro n
       induction n with
       |nil=>intro l o;rfl
       |cons x n ih=>intro l o;simp[dJ,ih]
      simpa[Y1] using this
 |[],_::_,_,_,_,h,_,_=>h.elim
 |_::_,[],_,_,_,h,_,_=>h.elim
end ops
section ops
variable {P:Program} {g:Gh} {m:Mem} {w:World}
theorem checked_eq {l k:List AV} (h:checked l=some k):k=l∧mS l=true:=by
 unfold checked at h
 cases hb:mS l with
 |false=>simp[hb] at h
 |true=>simp[hb] at h;exact⟨h.symm,rfl⟩
theorem dK {t:TypeId} {l:List AV} (h:zeroCells P t=some l) : ∃z,(∀w,(zeroValue t).run P w = .ok z w)∧JF g w l z.cells.toList:=by
 unfold zeroCells at h
 cases hi:P.info? t with
 |none=>simp[hi] at h
 |some i=>
  cases hz:i.zero with
  |none=>simp[hi,hz] at h
  |some z=>
   have hrun : ∀w,(zeroValue t).run P w = .ok z w:=fun w=>by simp[zeroValue,typeInfo,hi,hz]
   refine⟨z,hrun,?_⟩
   simp only[hi,Option.bind_some,hz] at h
   cases z<;>(obtain⟨rfl,hc⟩:=checked_eq h)<;>first
    |exact⟨dz.jr _,mC hc (dz.jr (g:=g) (w:=w) _)⟩
    |exact⟨⟨VA.kG _,trivial⟩,mC (vs:=[_]) hc ⟨VA.kG (g:=g) (w:=w) _,trivial⟩⟩
theorem rz : ∀{fs:List Field} {pl:List (Nat×Nat)},placesOf P fs=some pl → ∀w,(fs.mapM fun f=>do pure (f.offset,←sizeOf f.type):Sem (List (Nat×Nat))).run P w = .ok pl w
 |[],pl,h,w=>by simp[placesOf] at h;subst h;simp
 |f::fs,pl,h,w=>by
  simp only[placesOf] at h
  cases h1:iU P f.type with
  |none=>simp[h1] at h
  |some n=>
   cases h2:placesOf P fs with
   |none=>simp[h1,h2] at h
   |some l=>
    simp only[h1,h2,kb] at h
    subst h
    have ih:=rz h2 w
    simp only[List.mapM_cons,kv,bu h1,ky,kx,ih]
theorem CA {t:TypeId} {parts:List (Nat×AV)} {m5:Array (Nat×Value)} {a:AV} (h:zX P t parts=some (a,true)) (hp:bN (fun a b=>a.1=b.1∧VA g w a.2 b.2) parts m5.toList) :
  ∃v,(gv t m5).run P w = .ok v w∧VA g w a v:=by
 unfold zX at h
 split at h
 · rename_i z fields hz hu
   split at h
   · rename_i pl GP
     simp only[kd,kp] at h
     obtain⟨⟨cs,ok⟩,h1,rfl,h2⟩:=h
     simp only at h2;subst h2
     obtain⟨zv,Px,Py⟩:=dK (g:=g) (w:=w) hz
     obtain⟨ca,h3,h4,_⟩:=nV hp Py h1
     refine⟨.agg ca,?_,VA.zL.2 h4.1⟩
     have aeT:(fields.mapM fun f=>do pure (f.offset,←sizeOf f.type):Sem (Array (Nat×Nat))).run P w = .ok pl.toArray w:=by
      rw[Array.mapM_eq_mapM_toList]
      simp only[Sem.run_map,rz GP w,ky]
     have hfun:(fun i:Nat=>pl.toArray[i]?)=fun i:Nat=>pl[i]? :=by funext i;simp
     simp only[gv,kv,Px,ky,run_underlying hu,aeT,hfun,h3,kx]
   · cases h
 · rename_i z n elem hz hu
   split at h
   · rename_i size hsz
     simp only[kd,kp] at h
     obtain⟨⟨cs,ok⟩,h1,rfl,h2⟩:=h
     simp only at h2;subst h2
     obtain⟨zv,Px,Py⟩:=dK (g:=g) (w:=w) hz
     obtain⟨ca,h3,h4,_⟩:=nV hp Py h1
     exact⟨.agg ca,by simp only[gv,kv,Px,ky,run_underlying hu,bu hsz,h3,kx],VA.zL.2 h4.1⟩
   · cases h
 · cases h
theorem rA {α:Type} (z:List α) : ∀n,(dQ z n).length=n*z.length
 |0=>by simp[dQ]
 |n+1=>by simp[dQ,rA z n,Nat.succ_mul,Nat.add_comm]
theorem yL {α:Type} (z:List α) : ∀(n i:Nat) (h:i<(dQ z n).length),∃h':i%z.length<z.length,(dQ z n)[i]=z[i%z.length]
 |0,i,h=>by simp[dQ] at h
 |n+1,i,h=>by
  simp only[dQ,du] at h
  by_cases hlt:i<z.length
  · refine⟨by rw[cp hlt];exact hlt,?_⟩
    simp only[dQ,ei,hlt,dite_true,cp hlt]
  · obtain⟨h1,h2⟩:=yL z n (i-z.length) (by omega)
    have e:(i-z.length)%z.length=i%z.length:=by rw[←Nat.mod_eq_sub_mod (by omega)]
    refine⟨by rw[←e];exact h1,?_⟩
    simp only[dQ,ei,hlt,dite_false,h2,e]
theorem Dj {α:Type} {r:α→Value→Prop} {z:List α} {zv:Array Value} (hz:bN r z zv.toList) (n:Nat) :
  bN r (dQ z n) ((jb (n*zv.size)).map (zv[· % zv.size]!)).toList:=by
 have hl:=hz.len
 simp at hl
 refine bN.dY (by simp[rA,hl]) fun i hi hj=> ?_
 obtain⟨h1,h2⟩:=yL z n i hi
 rw[h2]
 have h3:i%zv.size<zv.size:=hl▸h1
 simp only[ja,iu,dv,List.getElem_range]
 rw[getElem!_pos zv _ h3]
 have:=hz.get (i%z.length) h1 (by simpa[←hl] using h1)
 simpa[hl] using this
theorem LS {zv:Array Value} (h : ∀v∈zv.toList,v.oneCell'=true) (n:Nat) : ∀v∈((jb (n*zv.size)).map (zv[· % zv.size]!)).toList,v.oneCell'=true:=by
 intro v hv
 simp only[ja,iu,fg,List.mem_range] at hv
 obtain⟨i,hi,rfl⟩:=hv
 have h3:i%zv.size<zv.size:=Nat.mod_lt _ (Nat.pos_of_ne_zero fun e=>by simp[e] at hi)
 rw[getElem!_pos zv _ h3]
 exact h _ (by simp)
theorem jX {α:Type} (v:α) : ∀n,dC n v=dQ [v] n
 |0=>rfl
 |n+1=>by rw[List.replicate_succ,jX v n];rfl
theorem Qa {elem:TypeId} {n:Nat} {l:List AV} (h:zeros P elem n=some l) : ∃size z,iU P elem=some size∧zeroCells P elem=some z∧z.length=size∧1≤size∧l=dQ z n:=by
 unfold zeros at h
 split at h
 · rename_i size z h1 h2
   cases hb:(ai z.length size&&ar 1 size) with
   |false=>simp[hb] at h
   |true=>
    simp only[hb,cond_true] at h
    simp only[jn,bc] at hb
    refine⟨size,z,h1,h2,hb.1,ae hb.2,?_⟩
    split at h
    · simp only[kb] at h;rw[←h,jX]
    · simp only[kb] at h;exact h.symm
 · cases h
theorem Qb {elem:TypeId} {n:Nat} {b:bf} (h:PL P elem n=some b) : ∃size z,iU P elem=some size∧zeroCells P elem=some z∧z.length=size∧1≤size∧b.cells?=some (dQ z n):=by
 have acK : ∀(vs:List PV) n,(dQ vs n).map AV.p=dQ (vs.map AV.p) n:=by
  intro vs n
  induction n with
  |zero=>rfl
  |succ n ih=>simp[dQ,ih]
 unfold PL at h
 split at h
 · rename_i size z h1 h2
   cases hb:(ai z.length size&&ar 1 size) with
   |false=>simp[hb] at h
   |true=>
    simp only[hb,cond_true] at h
    simp only[jn,bc] at hb
    refine⟨size,z,h1,h2,hb.1,ae hb.2,?_⟩
    split at h
    · rename_i v hv
      simp only[kb] at h;subst h
      have:=vo hv
      simp only[bf.cells?,jX,acK,this]
    · rename_i vs _ hv
      simp only[kb] at h;subst h
      have:=vo hv
      simp only[bf.cells?,acK,this]
    · simp only[kb] at h;subst h;rfl
 · cases h
theorem fN (w:World) (o:Obj):uz w (w.alloc o) o:=⟨rfl,rfl,rfl,rfl⟩
theorem cZ.alloc (h:Rel g m w) {bM:Nat} (hn:m[bM]? = some .free) {l:List AV} {cs:Array Value} {e:TypeId} {b:bf} (hb:b.cells?=some l) (hv:JF g w l cs.toList) {r:Result Next} {v:Value} {a:AV}
  (hr:r = .ok (.value v) (w.alloc (.cells cs e))) (ha : ∀g':Gh,g'.cm bM=some w.heap.size→VA g' (w.alloc (.cells cs e)) a v):cZ g m w r a (m.set bM b):=by
 obtain⟨h1,h2,h3⟩:=h.alloc hn hb hv (fN w (.cells cs e))
 exact⟨v,_,_,.inl hr,ha _ (by simp[Gh.put]),h1,h2,h3⟩
end ops
end Go.Am
end
