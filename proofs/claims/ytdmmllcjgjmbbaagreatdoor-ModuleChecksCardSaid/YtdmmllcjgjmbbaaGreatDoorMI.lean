/-
Modules: what a row's data says of one, as pure values. (For any program with such types.)
All names of a module, all its lists of instructions: module.names, module.codes.
Nm: its call, run, in pieces.
-/
import Derived.Test.YtdmmllcjgjmbbaaGreatDoorMH
section
namespace Go.Am
open Go.RowKit
structure Ty where
 p:Int
 r:Int
structure Im where
 mo:ByteArray
 nm:ByteArray
 ty:Int
structure Fu where
 ty:Int
 lo:Int
 l:List Ins
structure Li where
 mn:Int
 mx:Int
 cap:Bool
structure Gl where
 mu:Bool
 l:List Ins
structure Ex where
 nm:ByteArray
 kind:Int
 ix:Int
structure El where
 l:List Ins
 fs:List Int
structure Da where
 l:List Ins
 bs:List Int
abbrev pL (l:List Ins):PV:= .ps l.length 8 (ak l)
abbrev pT (k:IntKind) (l:List Int):PV:= .ps l.length 1 (eK k l)
abbrev aZ (x:Ty):List PV:=[.sc (.int .i64 x.p),.sc (.int .i64 x.r)]
abbrev aQ (x:Im):List PV:=[.sc (.string x.mo),.sc (.string x.nm),.sc (.int .i64 x.ty)]
abbrev aB (x:Fu):List PV:=[.sc (.int .i64 x.ty),.sc (.int .i64 x.lo),pL x.l]
abbrev aF (x:Li):List PV:=[.sc (.int .u32 x.mn),.sc (.int .u32 x.mx),.sc (.bool x.cap)]
abbrev aY (x:Gl):List PV:=[.sc (.bool x.mu),pL x.l]
abbrev aP (x:Ex):List PV:=[.sc (.string x.nm),.sc (.int .i64 x.kind),.sc (.int .u32 x.ix)]
abbrev aJ (x:El):List PV:=[pL x.l,pT .u32 x.fs]
abbrev aV (x:Da):List PV:=[pL x.l,pT .u8 x.bs]
def Xa (k:IntKind) (l:List Int):Prop:=l.length≤maxLen ∧ ∀t∈l,(Lit.int k t).wf=true
def Al (l:List Ins):Prop:=l.length≤maxLen∧QN l
def R1 (x:Ty):Prop:=(Lit.int .i64 x.p).wf=true∧(Lit.int .i64 x.r).wf=true
def R2 (x:Im):Prop:=x.mo.size≤maxLen∧x.nm.size≤maxLen∧(Lit.int .i64 x.ty).wf=true
def R3 (x:Fu):Prop:=(Lit.int .i64 x.ty).wf=true∧(Lit.int .i64 x.lo).wf=true∧Al x.l
def JO (x:Li):Prop:=(Lit.int .u32 x.mn).wf=true∧(Lit.int .u32 x.mx).wf=true
def R4 (x:Gl):Prop:=Al x.l
def R5 (x:Ex):Prop:=x.nm.size≤maxLen∧(Lit.int .i64 x.kind).wf=true∧(Lit.int .u32 x.ix).wf=true
def R6 (x:El):Prop:=Al x.l∧Xa .u32 x.fs
def R7 (x:Da):Prop:=Al x.l∧Xa .u8 x.bs
structure Mo where
 tys:List Ty
 aI:List Im
 fns:List Fu
 bW:List Li
 bX:List Li
 gls:List Gl
 exs:List Ex
 st:Bool
 sn:Int
 els:List El
 aW:List Da
def m8 {α:Type} (w:α→Prop) (l:List α):Prop:=l.length≤maxLen ∧ ∀x∈l,w x
structure Mo.wf (M:Mo):Prop where
 tys:m8 R1 M.tys
 aI:m8 R2 M.aI
 fns:m8 R3 M.fns
 bW:m8 JO M.bW
 bX:m8 JO M.bX
 gls:m8 R4 M.gls
 exs:m8 R5 M.exs
 sn:(Lit.int .u32 M.sn).wf=true
 els:m8 R6 M.els
 aW:m8 R7 M.aW
abbrev Mo.aE (M:Mo):List PV:=[.ps M.tys.length 2 (M.tys.flatMap aZ),.ps M.aI.length 3 (M.aI.flatMap aQ),.ps M.fns.length 3 (M.fns.flatMap aB),.ps M.bW.length 3 (M.bW.flatMap aF),.ps M.bX.length 3 (M.bX.flatMap aF),
 .ps M.gls.length 2 (M.gls.flatMap aY),.ps M.exs.length 3 (M.exs.flatMap aP),.sc (.bool M.st),.sc (.int .u32 M.sn),.ps M.els.length 2 (M.els.flatMap aJ),.ps M.aW.length 2 (M.aW.flatMap aV)]
theorem aM {α:Type} {z:Nat} {enc:α→List PV} (hz : ∀x,(enc x).length=z) : ∀{l:List α} {k:Nat} {x:α},l[k]? = some x → ∀j,j<z→(l.flatMap enc).getD (k*z+j) .bad=(enc x).getD j .bad
 |y::r,0,x,h,j,hj=>by
  simp only[List.getElem?_cons_zero,Option.some.injEq] at h
  subst h
  rw[List.flatMap_cons,Nat.zero_mul,Nat.zero_add,List.getD_eq_getElem?_getD,List.getD_eq_getElem?_getD,List.getElem?_append_left (by rw[hz];exact hj)]
 |y::r,k+1,x,h,j,hj=>by
  simp only[List.getElem?_cons_succ] at h
  have ih:=aM hz h j hj
  rw[List.flatMap_cons,List.getD_eq_getElem?_getD,List.getElem?_append_right (by rw[hz,Nat.add_mul];omega),hz,show(k+1)*z+j-z=k*z+j by rw[Nat.add_mul];omega,←List.getD_eq_getElem?_getD]
  exact ih
theorem BU {α:Type} {z:Nat} {enc:α→List PV} (hz : ∀x,(enc x).length=z) : ∀l:List α,(l.flatMap enc).length=l.length*z
 |[]=>by simp
 |x::r=>by rw[List.flatMap_cons,List.length_append,hz,BU hz r,List.length_cons,Nat.add_mul];omega
section
variable {H:Type} {enc:TypeId×Value→H} {P:Program} {w:World} {base:Nat} {spare:Nat→Bool} {held:Bool}
theorem cK {t:TypeId} {ts:List TypeId} {fs:Array Field} (ht:P.underlying t=some (.struct fs)) (hz:P.cellsOf t=ts.length) (hf:(fs.toList.map fun f=>(f.offset,f.type))=ts.zipIdx.map fun q=>(q.2,q.1))
  (h1 : ∀t∈ts,P.cellsOf t=1) {fuel:Nat} {cs:List Value} {x:DataW H×List MemPlace} (h:DataW.trod enc P w base spare held fuel t cs=some x) :
  ∃m,cs.length=ts.length ∧ ∀(i:Nat) (u:TypeId),ts[i]? = some u → ∃y,DataW.trod enc P w base spare held m u ((cs.drop i).take 1)=some y:=by
 obtain⟨m,rfl,hlen,hg⟩:=gN ht h
 rw[hz] at hlen
 refine⟨m,hlen,fun i u hi=> ?_⟩
 obtain⟨f,q1,q2,q3⟩:=RP (fs:=fs) (i:=i) (o:=i) (t:=u) (by rw[hf,List.getElem?_map,List.getElem?_zipIdx,hi];simp)
 obtain⟨y,hy⟩:=hg i f q1
 rw[q2,q3,h1 u (List.mem_of_getElem? hi)] at hy
 exact⟨y,hy⟩
structure CS (P:Program) (tM o7 o8 o9 kP pe pg pz pE qR qS rW wE oN qT qU qV qW tL tI ti tu tn tt ts tb t8 tk:TypeId):Prop where
 ins : ∃fs,RO P tL tI ti tu tn tt fs
 us:P.underlying ts=some .string
 ub:P.underlying tb=some .bool
 u8:P.underlying t8=some (.slice tk)
 uk:P.underlying tk=some (.int .u8)
 one:[ti,tu,tL,tt,ts,tb,t8,tk,o7,o8,o9,kP,pe,pg,pz,pE].all (fun t=>P.cellsOf t==1)=true
 sl : ∀q∈[(o7,qR),(o8,qS),(o9,rW),(kP,oN),(pe,qT),(pg,qU),(pz,qV),(pE,qW)],P.underlying q.1=some (.slice q.2)
 st : ∀q∈[(tM,[o7,o8,o9,kP,kP,pe,pg,tb,tu,pz,pE]),(qR,[ti,ti]),(qS,[ts,ts,ti]),(wE,[ti,tL]),(oN,[tu,tu,tb]),(qT,[tb,tL]),(qU,[ts,ti,tu]),(qV,[tL,tt]),(qW,[tL,t8])],
  ∃fs,P.underlying q.1=some (.struct fs)∧P.cellsOf q.1=q.2.length∧(fs.toList.map fun f=>(f.offset,f.type))=q.2.zipIdx.map fun q=>(q.2,q.1)
 fu : ∃fs,P.underlying rW=some (.struct fs)∧P.cellsOf rW=3∧(fs.toList.map fun f=>(f.offset,f.type))=[(0,ti),(1,wE)]
theorem lY {tt tu:TypeId} {k:IntKind} (ht:P.underlying tt=some (.slice tu)) (hu:P.underlying tu=some (.int k)) (h1:P.cellsOf tu=1) {fuel:Nat} {cs:List Value} {x:DataW H×List MemPlace}
  (h:DataW.trod enc P w base spare held fuel tt cs=some x) : ∃l:List Int,Xa k l∧bC w [pT k l] cs:=by
 obtain⟨l,w1,w2,k1⟩:=m7 ht hu h1 h
 exact⟨l,⟨w1,w2⟩,k1⟩
end
section
variable {H:Type} {enc:TypeId×Value→H} {P:Program} {w:World} {base:Nat} {spare:Nat→Bool} {held:Bool} {tM o7 o8 o9 kP pe pg pz pE qR qS rW wE oN qT qU qV qW tL tI ti tu tn tt ts tb t8 tk:TypeId}
theorem CS.c1 (T:CS P tM o7 o8 o9 kP pe pg pz pE qR qS rW wE oN qT qU qV qW tL tI ti tu tn tt ts tb t8 tk) {t:TypeId} (h:t∈[ti,tu,tL,tt,ts,tb,t8,tk,o7,o8,o9,kP,pe,pg,pz,pE]):P.cellsOf t=1:=by
 simpa using List.all_eq_true.1 T.one t h
theorem wF (T:CS P tM o7 o8 o9 kP pe pg pz pE qR qS rW wE oN qT qU qV qW tL tI ti tu tn tt ts tb t8 tk) {fuel:Nat} {cs:List Value} {x:DataW H×List MemPlace} (h:DataW.trod enc P w base spare held fuel tt cs=some x) : ∃l:List Int,Xa .u32 l∧bC w [pT .u32 l] cs:=by
 obtain⟨fs,I⟩:=T.ins
 exact lY I.kt I.ku (T.c1 (by simp)) h
theorem wG (T:CS P tM o7 o8 o9 kP pe pg pz pE qR qS rW wE oN qT qU qV qW tL tI ti tu tn tt ts tb t8 tk) {fuel:Nat} {cs:List Value} {x:DataW H×List MemPlace} (h:DataW.trod enc P w base spare held fuel t8 cs=some x) : ∃l:List Int,Xa .u8 l∧bC w [pT .u8 l] cs:=
 lY T.u8 T.uk (T.c1 (by simp)) h
theorem gU (T:CS P tM o7 o8 o9 kP pe pg pz pE qR qS rW wE oN qT qU qV qW tL tI ti tu tn tt ts tb t8 tk) {fuel:Nat} {cs:List Value} {x:DataW H×List MemPlace} (h:DataW.trod enc P w base spare held fuel tL cs=some x) : ∃l:List Ins,Al l∧bC w [pL l] cs:=by
 obtain⟨fs,I⟩:=T.ins
 exact BO I fuel cs x h
theorem DF (T:CS P tM o7 o8 o9 kP pe pg pz pE qR qS rW wE oN qT qU qV qW tL tI ti tu tn tt ts tb t8 tk) {fuel:Nat} {cs:List Value} {x:DataW H×List MemPlace} (h:DataW.trod enc P w base spare held fuel qR cs=some x) : ∃y:Ty,R1 y∧bC w (aZ y) cs:=by
 obtain⟨fs,I⟩:=T.ins
 obtain⟨fs',q1,q2,q3⟩:=T.st (qR,[ti,ti]) (by simp)
 obtain⟨m,hlen,get⟩:=cK q1 q2 q3 (by simp[T.c1]) h
 match cs,hlen with
 |[u0,u1],_=>
  obtain⟨y0,e0⟩:=get 0 ti rfl
  obtain⟨y1,e1⟩:=get 1 ti rfl
  simp only[List.drop_zero,List.drop_succ_cons,List.take_succ_cons,List.take_zero] at e0 e1
  obtain⟨n0,w0,k0⟩:=bD I.ki e0
  obtain⟨n1,w1,k1⟩:=bD I.ki e1
  exact⟨⟨n0,n1⟩,⟨w0,w1⟩,k0.cat (k1)⟩
theorem DG (T:CS P tM o7 o8 o9 kP pe pg pz pE qR qS rW wE oN qT qU qV qW tL tI ti tu tn tt ts tb t8 tk) {fuel:Nat} {cs:List Value} {x:DataW H×List MemPlace} (h:DataW.trod enc P w base spare held fuel qS cs=some x) : ∃y:Im,R2 y∧bC w (aQ y) cs:=by
 obtain⟨fs,I⟩:=T.ins
 obtain⟨fs',q1,q2,q3⟩:=T.st (qS,[ts,ts,ti]) (by simp)
 obtain⟨m,hlen,get⟩:=cK q1 q2 q3 (by simp[T.c1]) h
 match cs,hlen with
 |[u0,u1,u2],_=>
  obtain⟨y0,e0⟩:=get 0 ts rfl
  obtain⟨y1,e1⟩:=get 1 ts rfl
  obtain⟨y2,e2⟩:=get 2 ti rfl
  simp only[List.drop_zero,List.drop_succ_cons,List.take_succ_cons,List.take_zero] at e0 e1 e2
  obtain⟨n0,w0,k0⟩:=gM T.us e0
  obtain⟨n1,w1,k1⟩:=gM T.us e1
  obtain⟨n2,w2,k2⟩:=bD I.ki e2
  exact⟨⟨n0,n1,n2⟩,⟨w0,w1,w2⟩,k0.cat (k1.cat (k2))⟩
theorem uj (T:CS P tM o7 o8 o9 kP pe pg pz pE qR qS rW wE oN qT qU qV qW tL tI ti tu tn tt ts tb t8 tk) {fuel:Nat} {cs:List Value} {x:DataW H×List MemPlace} (h:DataW.trod enc P w base spare held fuel oN cs=some x) : ∃y:Li,JO y∧bC w (aF y) cs:=by
 obtain⟨fs,I⟩:=T.ins
 obtain⟨fs',q1,q2,q3⟩:=T.st (oN,[tu,tu,tb]) (by simp)
 obtain⟨m,hlen,get⟩:=cK q1 q2 q3 (by simp[T.c1]) h
 match cs,hlen with
 |[u0,u1,u2],_=>
  obtain⟨y0,e0⟩:=get 0 tu rfl
  obtain⟨y1,e1⟩:=get 1 tu rfl
  obtain⟨y2,e2⟩:=get 2 tb rfl
  simp only[List.drop_zero,List.drop_succ_cons,List.take_succ_cons,List.take_zero] at e0 e1 e2
  obtain⟨n0,w0,k0⟩:=bD I.ku e0
  obtain⟨n1,w1,k1⟩:=bD I.ku e1
  obtain⟨n2,k2⟩:=jt T.ub e2
  exact⟨⟨n0,n1,n2⟩,⟨w0,w1⟩,k0.cat (k1.cat (k2))⟩
theorem DH (T:CS P tM o7 o8 o9 kP pe pg pz pE qR qS rW wE oN qT qU qV qW tL tI ti tu tn tt ts tb t8 tk) {fuel:Nat} {cs:List Value} {x:DataW H×List MemPlace} (h:DataW.trod enc P w base spare held fuel qT cs=some x) : ∃y:Gl,R4 y∧bC w (aY y) cs:=by
 obtain⟨fs,I⟩:=T.ins
 obtain⟨fs',q1,q2,q3⟩:=T.st (qT,[tb,tL]) (by simp)
 obtain⟨m,hlen,get⟩:=cK q1 q2 q3 (by simp[T.c1]) h
 match cs,hlen with
 |[u0,u1],_=>
  obtain⟨y0,e0⟩:=get 0 tb rfl
  obtain⟨y1,e1⟩:=get 1 tL rfl
  simp only[List.drop_zero,List.drop_succ_cons,List.take_succ_cons,List.take_zero] at e0 e1
  obtain⟨n0,k0⟩:=jt T.ub e0
  obtain⟨n1,w1,k1⟩:=gU T e1
  exact⟨⟨n0,n1⟩,w1,k0.cat (k1)⟩
theorem DI (T:CS P tM o7 o8 o9 kP pe pg pz pE qR qS rW wE oN qT qU qV qW tL tI ti tu tn tt ts tb t8 tk) {fuel:Nat} {cs:List Value} {x:DataW H×List MemPlace} (h:DataW.trod enc P w base spare held fuel qU cs=some x) : ∃y:Ex,R5 y∧bC w (aP y) cs:=by
 obtain⟨fs,I⟩:=T.ins
 obtain⟨fs',q1,q2,q3⟩:=T.st (qU,[ts,ti,tu]) (by simp)
 obtain⟨m,hlen,get⟩:=cK q1 q2 q3 (by simp[T.c1]) h
 match cs,hlen with
 |[u0,u1,u2],_=>
  obtain⟨y0,e0⟩:=get 0 ts rfl
  obtain⟨y1,e1⟩:=get 1 ti rfl
  obtain⟨y2,e2⟩:=get 2 tu rfl
  simp only[List.drop_zero,List.drop_succ_cons,List.take_succ_cons,List.take_zero] at e0 e1 e2
  obtain⟨n0,w0,k0⟩:=gM T.us e0
  obtain⟨n1,w1,k1⟩:=bD I.ki e1
  obtain⟨n2,w2,k2⟩:=bD I.ku e2
  exact⟨⟨n0,n1,n2⟩,⟨w0,w1,w2⟩,k0.cat (k1.cat (k2))⟩
theorem DJ (T:CS P tM o7 o8 o9 kP pe pg pz pE qR qS rW wE oN qT qU qV qW tL tI ti tu tn tt ts tb t8 tk) {fuel:Nat} {cs:List Value} {x:DataW H×List MemPlace} (h:DataW.trod enc P w base spare held fuel qV cs=some x) : ∃y:El,R6 y∧bC w (aJ y) cs:=by
 obtain⟨fs,I⟩:=T.ins
 obtain⟨fs',q1,q2,q3⟩:=T.st (qV,[tL,tt]) (by simp)
 obtain⟨m,hlen,get⟩:=cK q1 q2 q3 (by simp[T.c1]) h
 match cs,hlen with
 |[u0,u1],_=>
  obtain⟨y0,e0⟩:=get 0 tL rfl
  obtain⟨y1,e1⟩:=get 1 tt rfl
  simp only[List.drop_zero,List.drop_succ_cons,List.take_succ_cons,List.take_zero] at e0 e1
  obtain⟨n0,w0,k0⟩:=gU T e0
  obtain⟨n1,w1,k1⟩:=wF T e1
  exact⟨⟨n0,n1⟩,⟨w0,w1⟩,k0.cat (k1)⟩
theorem DK (T:CS P tM o7 o8 o9 kP pe pg pz pE qR qS rW wE oN qT qU qV qW tL tI ti tu tn tt ts tb t8 tk) {fuel:Nat} {cs:List Value} {x:DataW H×List MemPlace} (h:DataW.trod enc P w base spare held fuel qW cs=some x) : ∃y:Da,R7 y∧bC w (aV y) cs:=by
 obtain⟨fs,I⟩:=T.ins
 obtain⟨fs',q1,q2,q3⟩:=T.st (qW,[tL,t8]) (by simp)
 obtain⟨m,hlen,get⟩:=cK q1 q2 q3 (by simp[T.c1]) h
 match cs,hlen with
 |[u0,u1],_=>
  obtain⟨y0,e0⟩:=get 0 tL rfl
  obtain⟨y1,e1⟩:=get 1 t8 rfl
  simp only[List.drop_zero,List.drop_succ_cons,List.take_succ_cons,List.take_zero] at e0 e1
  obtain⟨n0,w0,k0⟩:=gU T e0
  obtain⟨n1,w1,k1⟩:=wG T e1
  exact⟨⟨n0,n1⟩,⟨w0,w1⟩,k0.cat (k1)⟩
theorem DL (T:CS P tM o7 o8 o9 kP pe pg pz pE qR qS rW wE oN qT qU qV qW tL tI ti tu tn tt ts tb t8 tk) {fuel:Nat} {cs:List Value} {x:DataW H×List MemPlace} (h:DataW.trod enc P w base spare held fuel rW cs=some x) : ∃y:Fu,R3 y∧bC w (aB y) cs:=by
 obtain⟨fs,I⟩:=T.ins
 obtain⟨fs0,r1,r2,r3⟩:=T.fu
 obtain⟨fs',q1,q2,q3⟩:=T.st (wE,[ti,tL]) (by simp)
 obtain⟨m,rfl,hlen,hg⟩:=gN r1 h
 rw[r2] at hlen
 obtain⟨f0,a1,a2,a3⟩:=RP (fs:=fs0) (i:=0) (o:=0) (t:=ti) (by rw[r3];rfl)
 obtain⟨f1,b1,b2,b3⟩:=RP (fs:=fs0) (i:=1) (o:=1) (t:=wE) (by rw[r3];rfl)
 obtain⟨y0,e0⟩:=hg 0 f0 a1
 obtain⟨y1,e1⟩:=hg 1 f1 b1
 rw[a2,a3,T.c1 (t:=ti) (by simp)] at e0
 rw[b2,b3,q2] at e1
 match cs,hlen with
 |[u0,u1,u2],_=>
  simp only[List.drop_zero,List.drop_succ_cons,List.take_succ_cons,List.take_zero,List.length_cons,List.length_nil,Nat.zero_add,Nat.reduceAdd] at e0 e1
  obtain⟨n,_,get⟩:=cK q1 q2 q3 (by simp[T.c1]) e1
  obtain⟨z0,g0⟩:=get 0 ti rfl
  obtain⟨z1,g1⟩:=get 1 tL rfl
  simp only[List.drop_zero,List.drop_succ_cons,List.take_succ_cons,List.take_zero] at g0 g1
  obtain⟨n0,w0,k0⟩:=bD I.ki e0
  obtain⟨n1,w1,k1⟩:=bD I.ki g0
  obtain⟨n2,w2,k2⟩:=gU T g1
  exact⟨⟨n0,n1,n2⟩,⟨w0,w1,w2⟩,k0.cat (k1.cat k2)⟩
theorem dx {α:Type} {ke:α→List PV} {wf:α→Prop} {lt te:TypeId} {z:Nat} (hl:P.underlying lt=some (.slice te)) (hz:P.cellsOf te=z) (h1:1≤z) {fuel:Nat} {cs:List Value} {x:DataW H×List MemPlace} (h:DataW.trod enc P w base spare held fuel lt cs=some x)
  (hE : ∀(fuel:Nat) (us:List Value) y,DataW.trod enc P w base spare held fuel te us=some y → ∃a:α,wf a∧bC w (ke a) us) : ∃l:List α,m8 wf l∧bC w [.ps l.length z (l.flatMap ke)] cs:=by
 obtain⟨l,a,b,c⟩:=iJ (ke:=ke) (wf:=wf) hl (by omega) h fun n _ us y hy=>hE n us y hy
 rw[hz] at c
 exact⟨l,⟨a,b⟩,c⟩
theorem DM (T:CS P tM o7 o8 o9 kP pe pg pz pE qR qS rW wE oN qT qU qV qW tL tI ti tu tn tt ts tb t8 tk) {fuel:Nat} {cs:List Value} {x:DataW H×List MemPlace} (h:DataW.trod enc P w base spare held fuel tM cs=some x) : ∃M:Mo,M.wf∧bC w M.aE cs:=by
 obtain⟨fs,I⟩:=T.ins
 obtain⟨fs',q1,q2,q3⟩:=T.st (tM,[o7,o8,o9,kP,kP,pe,pg,tb,tu,pz,pE]) (by simp)
 obtain⟨m,hlen,get⟩:=cK q1 q2 q3 (by simp[T.c1]) h
 have z : ∀t ts',(t,ts')∈[(tM,[o7,o8,o9,kP,kP,pe,pg,tb,tu,pz,pE]),(qR,[ti,ti]),(qS,[ts,ts,ti]),(wE,[ti,tL]),(oN,[tu,tu,tb]),(qT,[tb,tL]),(qU,[ts,ti,tu]),(qV,[tL,tt]),(qW,[tL,t8])]→P.cellsOf t=ts'.length:=
  fun t ts' hm=>by
   obtain⟨_,_,e,_⟩:=T.st (t,ts') hm
   exact e
 obtain⟨_,_,z3,_⟩:=T.fu
 match cs,hlen with
 |[u0,u1,u2,u3,u4,u5,u6,u7,u8,u9,u10],_=>
  obtain⟨y0,e0⟩:=get 0 o7 rfl
  obtain⟨y1,e1⟩:=get 1 o8 rfl
  obtain⟨y2,e2⟩:=get 2 o9 rfl
  obtain⟨y3,e3⟩:=get 3 kP rfl
  obtain⟨y4,e4⟩:=get 4 kP rfl
  obtain⟨y5,e5⟩:=get 5 pe rfl
  obtain⟨y6,e6⟩:=get 6 pg rfl
  obtain⟨y7,e7⟩:=get 7 tb rfl
  obtain⟨y8,e8⟩:=get 8 tu rfl
  obtain⟨y9,e9⟩:=get 9 pz rfl
  obtain⟨y10,e10⟩:=get 10 pE rfl
  simp only[List.drop_zero,List.drop_succ_cons,List.take_succ_cons,List.take_zero] at e0 e1 e2 e3 e4 e5 e6 e7 e8 e9 e10
  obtain⟨n0,w0,k0⟩:=dx (ke:=aZ) (wf:=R1) (T.sl (o7,qR) (by simp)) (z qR [ti,ti] (by simp)) (Nat.le_of_ble_eq_true rfl) e0 fun _ _ _ g=>DF T g
  obtain⟨n1,w1,k1⟩:=dx (ke:=aQ) (wf:=R2) (T.sl (o8,qS) (by simp)) (z qS [ts,ts,ti] (by simp)) (Nat.le_of_ble_eq_true rfl) e1 fun _ _ _ g=>DG T g
  obtain⟨n2,w2,k2⟩:=dx (ke:=aB) (wf:=R3) (T.sl (o9,rW) (by simp)) z3 (Nat.le_of_ble_eq_true rfl) e2 fun _ _ _ g=>DL T g
  obtain⟨n3,w3,k3⟩:=dx (ke:=aF) (wf:=JO) (T.sl (kP,oN) (by simp)) (z oN [tu,tu,tb] (by simp)) (Nat.le_of_ble_eq_true rfl) e3 fun _ _ _ g=>uj T g
  obtain⟨n4,w4,k4⟩:=dx (ke:=aF) (wf:=JO) (T.sl (kP,oN) (by simp)) (z oN [tu,tu,tb] (by simp)) (Nat.le_of_ble_eq_true rfl) e4 fun _ _ _ g=>uj T g
  obtain⟨n5,w5,k5⟩:=dx (ke:=aY) (wf:=R4) (T.sl (pe,qT) (by simp)) (z qT [tb,tL] (by simp)) (Nat.le_of_ble_eq_true rfl) e5 fun _ _ _ g=>DH T g
  obtain⟨n6,w6,k6⟩:=dx (ke:=aP) (wf:=R5) (T.sl (pg,qU) (by simp)) (z qU [ts,ti,tu] (by simp)) (Nat.le_of_ble_eq_true rfl) e6 fun _ _ _ g=>DI T g
  obtain⟨n7,k7⟩:=jt T.ub e7
  obtain⟨n8,w8,k8⟩:=bD I.ku e8
  obtain⟨n9,w9,k9⟩:=dx (ke:=aJ) (wf:=R6) (T.sl (pz,qV) (by simp)) (z qV [tL,tt] (by simp)) (Nat.le_of_ble_eq_true rfl) e9 fun _ _ _ g=>DJ T g
  obtain⟨n10,w10,k10⟩:=dx (ke:=aV) (wf:=R7) (T.sl (pE,qW) (by simp)) (z qW [tL,t8] (by simp)) (Nat.le_of_ble_eq_true rfl) e10 fun _ _ _ g=>DK T g
  exact⟨⟨n0,n1,n2,n3,n4,n5,n6,n7,n8,n9,n10⟩,⟨w0,w1,w2,w3,w4,w5,w6,w8,w9,w10⟩,k0.cat (k1.cat (k2.cat (k3.cat (k4.cat (k5.cat (k6.cat (k7.cat (k8.cat (k9.cat (k10))))))))))⟩
end
end Go.Am
end
section
set_option linter.unusedSimpArgs false
set_option linter.unusedVariables false
namespace Go.Proofs.YtdmmllcjgjmbbaaGreatDoor.N
open Go Go.Am
noncomputable def R8:bu:=aK av az [(56,0)] [] []
def Xb:Sc:= .fin
noncomputable def NZ (M:Mo):Tree:=
 (.at (af Tryz.prog env 56 0 [.mp 0 0,.os none 0 0 [],.p (.ps M.aI.length 3 (List.flatMap aQ M.aI)),sI .i64 (↑M.aI.length:Int),sI .i64 0] ([.pc M.aE]) 0 37))
theorem JP (M:Mo):aR Tryz.prog env R8 1000000 56 ([AV.agg (List.map AV.p M.aE)]) ([]) Xb=NZ M:=by kernel_rfl
noncomputable def R9:bu:=aK av az [(34,0)] [] []
def Xc:Sc:= .fin
noncomputable def N0 (M:Mo):Tree:=
 (.at (af Tryz.prog env 34 0 [.mp 0 0,.os none 0 0 [],.p (.ps M.fns.length 3 (List.flatMap aB M.fns)),sI .i64 (↑M.fns.length:Int),sI .i64 0] ([.pc M.aE]) 0 66))
theorem JQ (M:Mo):aR Tryz.prog env R9 1000000 34 ([AV.agg (List.map AV.p M.aE)]) ([]) Xc=N0 M:=by kernel_rfl
noncomputable def N1:bu:=aK av az [(56,0),(56,2)] [(56,0,1)] [(56,5,0),(56,5,1)]
def Sa:Sc:= .fin
noncomputable def um (M:Mo) (n:Nat) (k:Nat) (i:Nat) (cs:List PV) (a:List PV):Tree:=
 (.test (decide ((↑i:Int)<(↑k:Int)))
 (.must (aG (↑i:Int) k&&true&&true)
 (.must (isStr (cs.getD ((↑i:Int).toNat*3) PV.bad)&&(isStr (cs.getD ((↑i:Int).toNat*3+1) PV.bad)&&(isInt IntKind.i64 (cs.getD ((↑i:Int).toNat*3+1+1) PV.bad)&&true))&&true)
 (.at (af Tryz.prog env 56 0 [.mp 0 0,.os (some 1) 2 1 [.sc (.string (aN (cs.getD ((↑i:Int).toNat*3) PV.bad))),.sc (.string (aN (cs.getD ((↑i:Int).toNat*3+1) PV.bad)))],.p (.ps k 3 cs),sI .i64 (↑k:Int),sI .i64 (IntKind.i64.wrap ((↑i:Int)+1))] ([.pc M.aE,.tok]) 0 37))))
 (.at (af Tryz.prog env 56 2 [.os none 0 0 [],.p (.ps M.exs.length 3 (List.flatMap aP M.exs)),sI .i64 (↑M.exs.length:Int),sI .i64 0] ([]) 0 37)))
theorem xN (M:Mo) (n:Nat) (k:Nat) (i:Nat) (cs:List PV) (a:List PV):grow Tryz.prog env N1 1000000 true (af Tryz.prog env 56 0 ([AV.mp 0 0,AV.os Option.none 0 0 [],AV.p (PV.ps k 3 cs),sI IntKind.i64 (↑k:Int),sI IntKind.i64 (↑i:Int)]) ([bg.pc M.aE]) 0 37) Sa atEnd=um M n k i cs a:=by kernel_rfl
noncomputable def N2:bu:=aK av az [(56,0),(56,2)] [(56,0,1)] [(56,5,0),(56,5,1),(56,6,6)]
def Sb:Sc:= .fin
noncomputable def uo (M:Mo) (n:Nat) (k:Nat) (i:Nat) (cs:List PV) (a:List PV):Tree:=
 (.test (decide ((↑i:Int)<(↑k:Int)))
 (.must (aG (↑i:Int) k&&true&&true)
 (.must (isStr (cs.getD ((↑i:Int).toNat*3) PV.bad)&&(isStr (cs.getD ((↑i:Int).toNat*3+1) PV.bad)&&(isInt IntKind.i64 (cs.getD ((↑i:Int).toNat*3+1+1) PV.bad)&&true))&&true)
 (.must (((n+2)*16).ble dh&&(n+2).ble dh&&true)
 (.at (af Tryz.prog env 56 0 [.mp 0 0,.os (some 1) (n+2) 1 (a++[.sc (.string (aN (cs.getD ((↑i:Int).toNat*3) PV.bad))),.sc (.string (aN (cs.getD ((↑i:Int).toNat*3+1) PV.bad)))]),.p (.ps k 3 cs),sI .i64 (↑k:Int),sI .i64 (IntKind.i64.wrap ((↑i:Int)+1))] ([.pc M.aE,.tok]) 0 37)))))
 (.at (af Tryz.prog env 56 2 [.os (some 0) n 1 a,.p (.ps M.exs.length 3 (List.flatMap aP M.exs)),sI .i64 (↑M.exs.length:Int),sI .i64 0] ([.tok]) 0 37)))
theorem xO (M:Mo) (n:Nat) (k:Nat) (i:Nat) (cs:List PV) (a:List PV):grow Tryz.prog env N2 1000000 true (af Tryz.prog env 56 0 ([AV.mp 0 0,AV.os (Option.some 1) n 1 a,AV.p (PV.ps k 3 cs),sI IntKind.i64 (↑k:Int),sI IntKind.i64 (↑i:Int)]) ([bg.pc M.aE,bg.tok]) 0 37) Sb atEnd=uo M n k i cs a:=by kernel_rfl
noncomputable def N3:bu:=aK av az [(56,0),(56,2)] [(56,0,3)] [(56,10,0),(56,10,1)]
def Sd:Sc:= .fin
noncomputable def uq (n:Nat) (k:Nat) (i:Nat) (cs:List PV) (a:List PV):Tree:=
 (.test (decide ((↑i:Int)<(↑k:Int)))
 (.must (aG (↑i:Int) k&&true&&true)
 (.must (isStr (cs.getD ((↑i:Int).toNat*3) PV.bad)&&(isInt IntKind.i64 (cs.getD ((↑i:Int).toNat*3+1) PV.bad)&&(isInt IntKind.u32 (cs.getD ((↑i:Int).toNat*3+1+1) PV.bad)&&true))&&true)
 (.at (af Tryz.prog env 56 2 [.os (some 0) 1 1 [.sc (.string (aN (cs.getD ((↑i:Int).toNat*3) PV.bad)))],.p (.ps k 3 cs),sI .i64 (↑k:Int),sI .i64 (IntKind.i64.wrap ((↑i:Int)+1))] ([.tok]) 0 37))))
 (.out (.ret (.os none 0 0 []) [])))
theorem xP (n:Nat) (k:Nat) (i:Nat) (cs:List PV) (a:List PV):grow Tryz.prog env N3 1000000 true (af Tryz.prog env 56 2 ([AV.os Option.none 0 0 [],AV.p (PV.ps k 3 cs),sI IntKind.i64 (↑k:Int),sI IntKind.i64 (↑i:Int)]) ([]) 0 37) Sd atEnd=uq n k i cs a:=by kernel_rfl
noncomputable def N4:bu:=aK av az [(56,0),(56,2)] [(56,0,3)] [(56,10,0),(56,10,1),(56,11,4)]
def Se:Sc:= .fin
noncomputable def ur (n:Nat) (k:Nat) (i:Nat) (cs:List PV) (a:List PV):Tree:=
 (.test (decide ((↑i:Int)<(↑k:Int)))
 (.must (aG (↑i:Int) k&&true&&true)
 (.must (isStr (cs.getD ((↑i:Int).toNat*3) PV.bad)&&(isInt IntKind.i64 (cs.getD ((↑i:Int).toNat*3+1) PV.bad)&&(isInt IntKind.u32 (cs.getD ((↑i:Int).toNat*3+1+1) PV.bad)&&true))&&true)
 (.must (((n+1)*16).ble dh&&(n+1).ble dh&&true)
 (.at (af Tryz.prog env 56 2 [.os (some 0) (n+1) 1 (a++[.sc (.string (aN (cs.getD ((↑i:Int).toNat*3) PV.bad)))]),.p (.ps k 3 cs),sI .i64 (↑k:Int),sI .i64 (IntKind.i64.wrap ((↑i:Int)+1))] ([.tok]) 0 37)))))
 (.out (.ret (.os (some 0) n 1 a) [.tok])))
theorem xQ (n:Nat) (k:Nat) (i:Nat) (cs:List PV) (a:List PV):grow Tryz.prog env N4 1000000 true (af Tryz.prog env 56 2 ([AV.os (Option.some 0) n 1 a,AV.p (PV.ps k 3 cs),sI IntKind.i64 (↑k:Int),sI IntKind.i64 (↑i:Int)]) ([bg.tok]) 0 37) Se atEnd=ur n k i cs a:=by kernel_rfl
noncomputable def N5:bu:=aK av az [(34,0),(34,2)] [(34,0,1)] [(34,5,0),(34,5,1)]
def Sf:Sc:= .fin
noncomputable def uu (M:Mo) (n:Nat) (k:Nat) (i:Nat) (cs:List PV) (a:List PV):Tree:=
 (.test (decide ((↑i:Int)<(↑k:Int)))
 (.must (aG (↑i:Int) k&&true&&true)
 (.must (isInt IntKind.i64 (cs.getD ((↑i:Int).toNat*3) PV.bad)&&(isInt IntKind.i64 (cs.getD ((↑i:Int).toNat*3+1) PV.bad)&&(aH (cs.getD ((↑i:Int).toNat*3+1+1) PV.bad)&&true))&&true)
 (.at (af Tryz.prog env 34 0 [.mp 0 0,.os (some 1) 1 1 [.ps (aq (cs.getD ((↑i:Int).toNat*3+1+1) PV.bad)) (aA (cs.getD ((↑i:Int).toNat*3+1+1) PV.bad)) (aj (cs.getD ((↑i:Int).toNat*3+1+1) PV.bad))],.p (.ps k 3 cs),sI .i64 (↑k:Int),sI .i64 (IntKind.i64.wrap ((↑i:Int)+1))] ([.pc M.aE,.tok]) 0 66))))
 (.at (af Tryz.prog env 34 2 [.mp 0 0,.os none 0 0 [],.p (.ps M.gls.length 2 (List.flatMap aY M.gls)),sI .i64 (↑M.gls.length:Int),sI .i64 0] ([.pc M.aE]) 0 66)))
theorem xR (M:Mo) (n:Nat) (k:Nat) (i:Nat) (cs:List PV) (a:List PV):grow Tryz.prog env N5 1000000 true (af Tryz.prog env 34 0 ([AV.mp 0 0,AV.os Option.none 0 0 [],AV.p (PV.ps k 3 cs),sI IntKind.i64 (↑k:Int),sI IntKind.i64 (↑i:Int)]) ([bg.pc M.aE]) 0 66) Sf atEnd=uu M n k i cs a:=by kernel_rfl
noncomputable def N6:bu:=aK av az [(34,0),(34,2)] [(34,0,1)] [(34,5,0),(34,5,1),(34,6,5)]
def Sg:Sc:= .fin
noncomputable def uw (M:Mo) (n:Nat) (k:Nat) (i:Nat) (cs:List PV) (a:List PV):Tree:=
 (.test (decide ((↑i:Int)<(↑k:Int)))
 (.must (aG (↑i:Int) k&&true&&true)
 (.must (isInt IntKind.i64 (cs.getD ((↑i:Int).toNat*3) PV.bad)&&(isInt IntKind.i64 (cs.getD ((↑i:Int).toNat*3+1) PV.bad)&&(aH (cs.getD ((↑i:Int).toNat*3+1+1) PV.bad)&&true))&&true)
 (.must (((n+1)*24).ble dh&&(n+1).ble dh&&true)
 (.at (af Tryz.prog env 34 0 [.mp 0 0,.os (some 1) (n+1) 1 (a++[.ps (aq (cs.getD ((↑i:Int).toNat*3+1+1) PV.bad)) (aA (cs.getD ((↑i:Int).toNat*3+1+1) PV.bad)) (aj (cs.getD ((↑i:Int).toNat*3+1+1) PV.bad))]),.p (.ps k 3 cs),sI .i64 (↑k:Int),sI .i64 (IntKind.i64.wrap ((↑i:Int)+1))] ([.pc M.aE,.tok]) 0 66)))))
 (.at (af Tryz.prog env 34 2 [.mp 0 0,.os (some 1) n 1 a,.p (.ps M.gls.length 2 (List.flatMap aY M.gls)),sI .i64 (↑M.gls.length:Int),sI .i64 0] ([.pc M.aE,.tok]) 0 66)))
theorem xS (M:Mo) (n:Nat) (k:Nat) (i:Nat) (cs:List PV) (a:List PV):grow Tryz.prog env N6 1000000 true (af Tryz.prog env 34 0 ([AV.mp 0 0,AV.os (Option.some 1) n 1 a,AV.p (PV.ps k 3 cs),sI IntKind.i64 (↑k:Int),sI IntKind.i64 (↑i:Int)]) ([bg.pc M.aE,bg.tok]) 0 66) Sg atEnd=uw M n k i cs a:=by kernel_rfl
noncomputable def N7:bu:=aK av az [(34,2),(34,4)] [(34,0,3)] [(34,10,0),(34,10,1)]
def Sh:Sc:= .fin
noncomputable def ux (M:Mo) (n:Nat) (k:Nat) (i:Nat) (cs:List PV) (a:List PV):Tree:=
 (.test (decide ((↑i:Int)<(↑k:Int)))
 (.must (aG (↑i:Int) k&&true&&true)
 (.must (isBool (cs.getD ((↑i:Int).toNat*2) PV.bad)&&(aH (cs.getD ((↑i:Int).toNat*2+1) PV.bad)&&true)&&true)
 (.at (af Tryz.prog env 34 2 [.mp 0 0,.os (some 1) 1 1 [.ps (aq (cs.getD ((↑i:Int).toNat*2+1) PV.bad)) (aA (cs.getD ((↑i:Int).toNat*2+1) PV.bad)) (aj (cs.getD ((↑i:Int).toNat*2+1) PV.bad))],.p (.ps k 2 cs),sI .i64 (↑k:Int),sI .i64 (IntKind.i64.wrap ((↑i:Int)+1))] ([.pc M.aE,.tok]) 0 66))))
 (.at (af Tryz.prog env 34 4 [.mp 0 0,.os none 0 0 [],.p (.ps M.els.length 2 (List.flatMap aJ M.els)),sI .i64 (↑M.els.length:Int),sI .i64 0] ([.pc M.aE]) 0 66)))
theorem xT (M:Mo) (n:Nat) (k:Nat) (i:Nat) (cs:List PV) (a:List PV):grow Tryz.prog env N7 1000000 true (af Tryz.prog env 34 2 ([AV.mp 0 0,AV.os Option.none 0 0 [],AV.p (PV.ps k 2 cs),sI IntKind.i64 (↑k:Int),sI IntKind.i64 (↑i:Int)]) ([bg.pc M.aE]) 0 66) Sh atEnd=ux M n k i cs a:=by kernel_rfl
noncomputable def N8:bu:=aK av az [(34,2),(34,4)] [(34,0,3)] [(34,10,0),(34,10,1),(34,11,4)]
def Si:Sc:= .fin
noncomputable def uy (M:Mo) (n:Nat) (k:Nat) (i:Nat) (cs:List PV) (a:List PV):Tree:=
 (.test (decide ((↑i:Int)<(↑k:Int)))
 (.must (aG (↑i:Int) k&&true&&true)
 (.must (isBool (cs.getD ((↑i:Int).toNat*2) PV.bad)&&(aH (cs.getD ((↑i:Int).toNat*2+1) PV.bad)&&true)&&true)
 (.must (((n+1)*24).ble dh&&(n+1).ble dh&&true)
 (.at (af Tryz.prog env 34 2 [.mp 0 0,.os (some 1) (n+1) 1 (a++[.ps (aq (cs.getD ((↑i:Int).toNat*2+1) PV.bad)) (aA (cs.getD ((↑i:Int).toNat*2+1) PV.bad)) (aj (cs.getD ((↑i:Int).toNat*2+1) PV.bad))]),.p (.ps k 2 cs),sI .i64 (↑k:Int),sI .i64 (IntKind.i64.wrap ((↑i:Int)+1))] ([.pc M.aE,.tok]) 0 66)))))
 (.at (af Tryz.prog env 34 4 [.mp 0 0,.os (some 1) n 1 a,.p (.ps M.els.length 2 (List.flatMap aJ M.els)),sI .i64 (↑M.els.length:Int),sI .i64 0] ([.pc M.aE,.tok]) 0 66)))
theorem xU (M:Mo) (n:Nat) (k:Nat) (i:Nat) (cs:List PV) (a:List PV):grow Tryz.prog env N8 1000000 true (af Tryz.prog env 34 2 ([AV.mp 0 0,AV.os (Option.some 1) n 1 a,AV.p (PV.ps k 2 cs),sI IntKind.i64 (↑k:Int),sI IntKind.i64 (↑i:Int)]) ([bg.pc M.aE,bg.tok]) 0 66) Si atEnd=uy M n k i cs a:=by kernel_rfl
noncomputable def N9:bu:=aK av az [(34,4),(34,6)] [(34,0,5)] [(34,15,0),(34,15,1)]
def Sj:Sc:= .fin
noncomputable def uz (M:Mo) (n:Nat) (k:Nat) (i:Nat) (cs:List PV) (a:List PV):Tree:=
 (.test (decide ((↑i:Int)<(↑k:Int)))
 (.must (aG (↑i:Int) k&&true&&true)
 (.must (aH (cs.getD ((↑i:Int).toNat*2) PV.bad)&&(aH (cs.getD ((↑i:Int).toNat*2+1) PV.bad)&&true)&&true)
 (.at (af Tryz.prog env 34 4 [.mp 0 0,.os (some 1) 1 1 [.ps (aq (cs.getD ((↑i:Int).toNat*2) PV.bad)) (aA (cs.getD ((↑i:Int).toNat*2) PV.bad)) (aj (cs.getD ((↑i:Int).toNat*2) PV.bad))],.p (.ps k 2 cs),sI .i64 (↑k:Int),sI .i64 (IntKind.i64.wrap ((↑i:Int)+1))] ([.pc M.aE,.tok]) 0 66))))
 (.at (af Tryz.prog env 34 6 [.os none 0 0 [],.p (.ps M.aW.length 2 (List.flatMap aV M.aW)),sI .i64 (↑M.aW.length:Int),sI .i64 0] ([]) 0 66)))
theorem xV (M:Mo) (n:Nat) (k:Nat) (i:Nat) (cs:List PV) (a:List PV):grow Tryz.prog env N9 1000000 true (af Tryz.prog env 34 4 ([AV.mp 0 0,AV.os Option.none 0 0 [],AV.p (PV.ps k 2 cs),sI IntKind.i64 (↑k:Int),sI IntKind.i64 (↑i:Int)]) ([bg.pc M.aE]) 0 66) Sj atEnd=uz M n k i cs a:=by kernel_rfl
noncomputable def Oa:bu:=aK av az [(34,4),(34,6)] [(34,0,5)] [(34,15,0),(34,15,1),(34,16,4)]
def Sk:Sc:= .fin
noncomputable def uA (M:Mo) (n:Nat) (k:Nat) (i:Nat) (cs:List PV) (a:List PV):Tree:=
 (.test (decide ((↑i:Int)<(↑k:Int)))
 (.must (aG (↑i:Int) k&&true&&true)
 (.must (aH (cs.getD ((↑i:Int).toNat*2) PV.bad)&&(aH (cs.getD ((↑i:Int).toNat*2+1) PV.bad)&&true)&&true)
 (.must (((n+1)*24).ble dh&&(n+1).ble dh&&true)
 (.at (af Tryz.prog env 34 4 [.mp 0 0,.os (some 1) (n+1) 1 (a++[.ps (aq (cs.getD ((↑i:Int).toNat*2) PV.bad)) (aA (cs.getD ((↑i:Int).toNat*2) PV.bad)) (aj (cs.getD ((↑i:Int).toNat*2) PV.bad))]),.p (.ps k 2 cs),sI .i64 (↑k:Int),sI .i64 (IntKind.i64.wrap ((↑i:Int)+1))] ([.pc M.aE,.tok]) 0 66)))))
 (.at (af Tryz.prog env 34 6 [.os (some 0) n 1 a,.p (.ps M.aW.length 2 (List.flatMap aV M.aW)),sI .i64 (↑M.aW.length:Int),sI .i64 0] ([.tok]) 0 66)))
theorem xW (M:Mo) (n:Nat) (k:Nat) (i:Nat) (cs:List PV) (a:List PV):grow Tryz.prog env Oa 1000000 true (af Tryz.prog env 34 4 ([AV.mp 0 0,AV.os (Option.some 1) n 1 a,AV.p (PV.ps k 2 cs),sI IntKind.i64 (↑k:Int),sI IntKind.i64 (↑i:Int)]) ([bg.pc M.aE,bg.tok]) 0 66) Sk atEnd=uA M n k i cs a:=by kernel_rfl
noncomputable def Ob:bu:=aK av az [(34,6)] [(34,0,7)] [(34,20,0),(34,20,1)]
def Sl:Sc:= .fin
noncomputable def uB (n:Nat) (k:Nat) (i:Nat) (cs:List PV) (a:List PV):Tree:=
 (.test (decide ((↑i:Int)<(↑k:Int)))
 (.must (aG (↑i:Int) k&&true&&true)
 (.must (aH (cs.getD ((↑i:Int).toNat*2) PV.bad)&&(aH (cs.getD ((↑i:Int).toNat*2+1) PV.bad)&&true)&&true)
 (.at (af Tryz.prog env 34 6 [.os (some 0) 1 1 [.ps (aq (cs.getD ((↑i:Int).toNat*2) PV.bad)) (aA (cs.getD ((↑i:Int).toNat*2) PV.bad)) (aj (cs.getD ((↑i:Int).toNat*2) PV.bad))],.p (.ps k 2 cs),sI .i64 (↑k:Int),sI .i64 (IntKind.i64.wrap ((↑i:Int)+1))] ([.tok]) 0 66))))
 (.out (.ret (.os none 0 0 []) [])))
theorem xX (n:Nat) (k:Nat) (i:Nat) (cs:List PV) (a:List PV):grow Tryz.prog env Ob 1000000 true (af Tryz.prog env 34 6 ([AV.os Option.none 0 0 [],AV.p (PV.ps k 2 cs),sI IntKind.i64 (↑k:Int),sI IntKind.i64 (↑i:Int)]) ([]) 0 66) Sl atEnd=uB n k i cs a:=by kernel_rfl
noncomputable def Oc:bu:=aK av az [(34,6)] [(34,0,7)] [(34,20,0),(34,20,1),(34,21,4)]
def Sm:Sc:= .fin
noncomputable def uC (n:Nat) (k:Nat) (i:Nat) (cs:List PV) (a:List PV):Tree:=
 (.test (decide ((↑i:Int)<(↑k:Int)))
 (.must (aG (↑i:Int) k&&true&&true)
 (.must (aH (cs.getD ((↑i:Int).toNat*2) PV.bad)&&(aH (cs.getD ((↑i:Int).toNat*2+1) PV.bad)&&true)&&true)
 (.must (((n+1)*24).ble dh&&(n+1).ble dh&&true)
 (.at (af Tryz.prog env 34 6 [.os (some 0) (n+1) 1 (a++[.ps (aq (cs.getD ((↑i:Int).toNat*2) PV.bad)) (aA (cs.getD ((↑i:Int).toNat*2) PV.bad)) (aj (cs.getD ((↑i:Int).toNat*2) PV.bad))]),.p (.ps k 2 cs),sI .i64 (↑k:Int),sI .i64 (IntKind.i64.wrap ((↑i:Int)+1))] ([.tok]) 0 66)))))
 (.out (.ret (.os (some 0) n 1 a) [.tok])))
theorem xY (n:Nat) (k:Nat) (i:Nat) (cs:List PV) (a:List PV):grow Tryz.prog env Oc 1000000 true (af Tryz.prog env 34 6 ([AV.os (Option.some 0) n 1 a,AV.p (PV.ps k 2 cs),sI IntKind.i64 (↑k:Int),sI IntKind.i64 (↑i:Int)]) ([bg.tok]) 0 66) Sm atEnd=uC n k i cs a:=by kernel_rfl
structure _root_.Go.Am.Mo.fit (M:Mo):Prop where
 tys:M.tys.length≤1000000
 aI:M.aI.length≤1000000
 fns:M.fns.length≤1000000
 bW:M.bW.length≤1000000
 bX:M.bX.length≤1000000
 gls:M.gls.length≤1000000
 exs:M.exs.length≤1000000
 els:M.els.length≤1000000
 aW:M.aW.length≤1000000
theorem An:(1000000000:Nat)≤dh:=Nat.le_of_ble_eq_true (by kernel_rfl)
theorem jh {α:Type} {l:List α} {f:α→List PV} {D:List PV→Nat→bJ} {K:List PV→Prop} {o:Out} {B:Nat}
  (step : ∀(a:List PV) (i:Nat) (x:α),l[i]? = some x→(a++f x).length≤B→Am.Good Tryz.prog env (D (a++f x) (i+1)) o→Am.Good Tryz.prog env (D a i) o)
  (fin : ∀a:List PV,K a→Am.Good Tryz.prog env (D a l.length) o) :
  ∀(r i:Nat) (a:List PV),i+r=l.length→(a++(l.drop i).flatMap f).length≤B→K (a++(l.drop i).flatMap f)→Am.Good Tryz.prog env (D a i) o:=by
 intro r
 induction r with
 |zero=>
  intro i a hi hB h
  obtain rfl:i=l.length:=by omega
  rw[List.drop_length,List.flatMap_nil,List.append_nil] at h
  exact fin a h
 |succ r ih=>
  intro i a hi hB h
  have hl:i<l.length:=by omega
  rw[List.drop_eq_getElem_cons hl,List.flatMap_cons,←List.append_assoc] at h hB
  refine step a i l[i] (List.getElem?_eq_getElem hl) ?_ (ih (i+1) _ (by omega) hB h)
  rw[List.length_append] at hB
  omega
def DN (a:List PV):Out:=if a=[] then .ret (.os none 0 0 []) [] else .ret (.os (some 0) a.length 1 a) [.tok]
def GL (x:Im):List PV:=[.sc (.string x.mo),.sc (.string x.nm)]
def Nh (x:Ex):List PV:=[.sc (.string x.nm)]
def QO (x:Fu):List PV:=[pL x.l]
def Sn (x:Gl):List PV:=[pL x.l]
def V6 (x:El):List PV:=[pL x.l]
def Xd (x:Da):List PV:=[pL x.l]
noncomputable def GM (M:Mo) (a:List PV) (i:Nat):bJ:=
 if a=[] then af Tryz.prog env 56 0 [.mp 0 0,.os none 0 0 [],.p (.ps M.aI.length 3 (M.aI.flatMap aQ)),sI .i64 M.aI.length,sI .i64 i] [.pc M.aE] 0 37
 else af Tryz.prog env 56 0 [.mp 0 0,.os (some 1) a.length 1 a,.p (.ps M.aI.length 3 (M.aI.flatMap aQ)),sI .i64 M.aI.length,sI .i64 i] [.pc M.aE,.tok] 0 37
noncomputable def DO (M:Mo) (a:List PV) (i:Nat):bJ:=
 if a=[] then af Tryz.prog env 56 2 [.os none 0 0 [],.p (.ps M.exs.length 3 (M.exs.flatMap aP)),sI .i64 M.exs.length,sI .i64 i] [] 0 37
 else af Tryz.prog env 56 2 [.os (some 0) a.length 1 a,.p (.ps M.exs.length 3 (M.exs.flatMap aP)),sI .i64 M.exs.length,sI .i64 i] [.tok] 0 37
theorem GN (M:Mo) (hM:M.fit) (o:Out) (a:List PV) (i:Nat) (x:Im) (hx:M.aI[i]? = some x) (hB:(a++GL x).length≤10000000) (h:Am.Good Tryz.prog env (GM M (a++GL x) (i+1)) o):Am.Good Tryz.prog env (GM M a i) o:=by
 have hi:i<M.aI.length:=(List.getElem?_eq_some_iff.1 hx).1
 have c:=aM (z:=3) (enc:=aQ) (fun _=>rfl) hx
 have c0:(M.aI.flatMap aQ).getD (i*3) .bad = .sc (.string x.mo):=c 0 (by decide)
 have c1:(M.aI.flatMap aQ).getD (i*3+1) .bad = .sc (.string x.nm):=c 1 (by decide)
 have c2:(M.aI.flatMap aQ).getD (i*3+1+1) .bad = .sc (.int .i64 x.ty):=c 2 (by decide)
 have hl:=hM.aI
 have hL:=An
 have w:IntKind.i64.wrap ((i:Int)+1)=((i+1:Nat):Int):=by rw[aD (by omega) (by omega)];rfl
 have hd:decide ((i:Int)<(M.aI.length:Int))=true:=by simp;omega
 unfold GM at h ⊢
 by_cases e:a=[]
 · subst e
   rw[if_neg (by simp[GL]),List.nil_append] at h
   rw[if_pos rfl]
   refine aa names (xN M 0 M.aI.length i (M.aI.flatMap aQ) []) ?_
   simp only[um,Tree.ok,isStr,isInt,aH,isBool,aN,au,aT,aq,aA,aj,aG,Int.toNat_natCast,c0,c1,c2,hd,w]
   exact⟨fun _=>⟨by first | (simp;done) | (simp;omega),rfl,h⟩,fun q=>by cases q⟩
 · rw[if_neg (by simp[e])] at h
   rw[if_neg e]
   refine aa names (xO M a.length M.aI.length i (M.aI.flatMap aQ) a) ?_
   rw[List.length_append] at h hB
   have hB:a.length+2≤10000000:=hB
   simp only[uo,Tree.ok,isStr,isInt,aH,isBool,aN,au,aT,aq,aA,aj,aG,Int.toNat_natCast,c0,c1,c2,hd,w]
   exact⟨fun _=>⟨by first | (simp;done) | (simp;omega),rfl,by simp only[Bool.and_true,Bool.and_eq_true,Nat.ble_eq];omega,h⟩,fun q=>by cases q⟩
theorem JR (M:Mo) (o:Out) (a:List PV) (h:Am.Good Tryz.prog env (DO M a 0) o):Am.Good Tryz.prog env (GM M a M.aI.length) o:=by
 have hd:decide ((M.aI.length:Int)<(M.aI.length:Int))=false:=by simp
 unfold DO at h
 unfold GM
 by_cases e:a=[]
 · subst e
   rw[if_pos rfl] at h ⊢
   refine aa names (xN M 0 M.aI.length M.aI.length (M.aI.flatMap aQ) []) ?_
   simp only[um,Tree.ok,hd]
   exact⟨fun q=>(by cases q),fun _=>h⟩
 · rw[if_neg e] at h ⊢
   refine aa names (xO M a.length M.aI.length M.aI.length (M.aI.flatMap aQ) a) ?_
   simp only[uo,Tree.ok,hd]
   exact⟨fun q=>(by cases q),fun _=>h⟩
theorem GO (M:Mo) (hM:M.fit) (o:Out) (a:List PV) (i:Nat) (x:Ex) (hx:M.exs[i]? = some x) (hB:(a++Nh x).length≤10000000) (h:Am.Good Tryz.prog env (DO M (a++Nh x) (i+1)) o):Am.Good Tryz.prog env (DO M a i) o:=by
 have hi:i<M.exs.length:=(List.getElem?_eq_some_iff.1 hx).1
 have c:=aM (z:=3) (enc:=aP) (fun _=>rfl) hx
 have c0:(M.exs.flatMap aP).getD (i*3) .bad = .sc (.string x.nm):=c 0 (by decide)
 have c1:(M.exs.flatMap aP).getD (i*3+1) .bad = .sc (.int .i64 x.kind):=c 1 (by decide)
 have c2:(M.exs.flatMap aP).getD (i*3+1+1) .bad = .sc (.int .u32 x.ix):=c 2 (by decide)
 have hl:=hM.exs
 have hL:=An
 have w:IntKind.i64.wrap ((i:Int)+1)=((i+1:Nat):Int):=by rw[aD (by omega) (by omega)];rfl
 have hd:decide ((i:Int)<(M.exs.length:Int))=true:=by simp;omega
 unfold DO at h ⊢
 by_cases e:a=[]
 · subst e
   rw[if_neg (by simp[Nh]),List.nil_append] at h
   rw[if_pos rfl]
   refine aa names (xP 0 M.exs.length i (M.exs.flatMap aP) []) ?_
   simp only[uq,Tree.ok,isStr,isInt,aH,isBool,aN,au,aT,aq,aA,aj,aG,Int.toNat_natCast,c0,c1,c2,hd,w]
   exact⟨fun _=>⟨by first | (simp;done) | (simp;omega),rfl,h⟩,fun q=>by cases q⟩
 · rw[if_neg (by simp[e])] at h
   rw[if_neg e]
   refine aa names (xQ a.length M.exs.length i (M.exs.flatMap aP) a) ?_
   rw[List.length_append] at h hB
   have hB:a.length+1≤10000000:=hB
   simp only[ur,Tree.ok,isStr,isInt,aH,isBool,aN,au,aT,aq,aA,aj,aG,Int.toNat_natCast,c0,c1,c2,hd,w]
   exact⟨fun _=>⟨by first | (simp;done) | (simp;omega),rfl,by simp only[Bool.and_true,Bool.and_eq_true,Nat.ble_eq];omega,h⟩,fun q=>by cases q⟩
theorem JS (M:Mo) (o:Out) (a:List PV) (h:DN a=o):Am.Good Tryz.prog env (DO M a M.exs.length) o:=by
 have hd:decide ((M.exs.length:Int)<(M.exs.length:Int))=false:=by simp
 unfold DN at h
 unfold DO
 by_cases e:a=[]
 · subst e
   rw[if_pos rfl] at h ⊢
   refine aa names (xP 0 M.exs.length M.exs.length (M.exs.flatMap aP) []) ?_
   simp only[uq,Tree.ok,hd]
   exact⟨fun q=>(by cases q),fun _=>h⟩
 · rw[if_neg e] at h ⊢
   refine aa names (xQ a.length M.exs.length M.exs.length (M.exs.flatMap aP) a) ?_
   simp only[ur,Tree.ok,hd]
   exact⟨fun q=>(by cases q),fun _=>h⟩
noncomputable def GP (M:Mo) (a:List PV) (i:Nat):bJ:=
 if a=[] then af Tryz.prog env 34 0 [.mp 0 0,.os none 0 0 [],.p (.ps M.fns.length 3 (M.fns.flatMap aB)),sI .i64 M.fns.length,sI .i64 i] [.pc M.aE] 0 66
 else af Tryz.prog env 34 0 [.mp 0 0,.os (some 1) a.length 1 a,.p (.ps M.fns.length 3 (M.fns.flatMap aB)),sI .i64 M.fns.length,sI .i64 i] [.pc M.aE,.tok] 0 66
noncomputable def DP (M:Mo) (a:List PV) (i:Nat):bJ:=
 if a=[] then af Tryz.prog env 34 2 [.mp 0 0,.os none 0 0 [],.p (.ps M.gls.length 2 (M.gls.flatMap aY)),sI .i64 M.gls.length,sI .i64 i] [.pc M.aE] 0 66
 else af Tryz.prog env 34 2 [.mp 0 0,.os (some 1) a.length 1 a,.p (.ps M.gls.length 2 (M.gls.flatMap aY)),sI .i64 M.gls.length,sI .i64 i] [.pc M.aE,.tok] 0 66
noncomputable def DQ (M:Mo) (a:List PV) (i:Nat):bJ:=
 if a=[] then af Tryz.prog env 34 4 [.mp 0 0,.os none 0 0 [],.p (.ps M.els.length 2 (M.els.flatMap aJ)),sI .i64 M.els.length,sI .i64 i] [.pc M.aE] 0 66
 else af Tryz.prog env 34 4 [.mp 0 0,.os (some 1) a.length 1 a,.p (.ps M.els.length 2 (M.els.flatMap aJ)),sI .i64 M.els.length,sI .i64 i] [.pc M.aE,.tok] 0 66
noncomputable def DR (M:Mo) (a:List PV) (i:Nat):bJ:=
 if a=[] then af Tryz.prog env 34 6 [.os none 0 0 [],.p (.ps M.aW.length 2 (M.aW.flatMap aV)),sI .i64 M.aW.length,sI .i64 i] [] 0 66
 else af Tryz.prog env 34 6 [.os (some 0) a.length 1 a,.p (.ps M.aW.length 2 (M.aW.flatMap aV)),sI .i64 M.aW.length,sI .i64 i] [.tok] 0 66
theorem GQ (M:Mo) (hM:M.fit) (o:Out) (a:List PV) (i:Nat) (x:Fu) (hx:M.fns[i]? = some x) (hB:(a++QO x).length≤10000000) (h:Am.Good Tryz.prog env (GP M (a++QO x) (i+1)) o):Am.Good Tryz.prog env (GP M a i) o:=by
 have hi:i<M.fns.length:=(List.getElem?_eq_some_iff.1 hx).1
 have c:=aM (z:=3) (enc:=aB) (fun _=>rfl) hx
 have c0:(M.fns.flatMap aB).getD (i*3) .bad = .sc (.int .i64 x.ty):=c 0 (by decide)
 have c1:(M.fns.flatMap aB).getD (i*3+1) .bad = .sc (.int .i64 x.lo):=c 1 (by decide)
 have c2:(M.fns.flatMap aB).getD (i*3+1+1) .bad=pL x.l:=c 2 (by decide)
 have hl:=hM.fns
 have hL:=An
 have w:IntKind.i64.wrap ((i:Int)+1)=((i+1:Nat):Int):=by rw[aD (by omega) (by omega)];rfl
 have hd:decide ((i:Int)<(M.fns.length:Int))=true:=by simp;omega
 unfold GP at h ⊢
 by_cases e:a=[]
 · subst e
   rw[if_neg (by simp[QO]),List.nil_append] at h
   rw[if_pos rfl]
   refine aa names (xR M 0 M.fns.length i (M.fns.flatMap aB) []) ?_
   simp only[uu,Tree.ok,isStr,isInt,aH,isBool,aN,au,aT,aq,aA,aj,aG,Int.toNat_natCast,c0,c1,c2,hd,w]
   exact⟨fun _=>⟨by first | (simp;done) | (simp;omega),rfl,h⟩,fun q=>by cases q⟩
 · rw[if_neg (by simp[e])] at h
   rw[if_neg e]
   refine aa names (xS M a.length M.fns.length i (M.fns.flatMap aB) a) ?_
   rw[List.length_append] at h hB
   have hB:a.length+1≤10000000:=hB
   simp only[uw,Tree.ok,isStr,isInt,aH,isBool,aN,au,aT,aq,aA,aj,aG,Int.toNat_natCast,c0,c1,c2,hd,w]
   exact⟨fun _=>⟨by first | (simp;done) | (simp;omega),rfl,by simp only[Bool.and_true,Bool.and_eq_true,Nat.ble_eq];omega,h⟩,fun q=>by cases q⟩
theorem JT (M:Mo) (o:Out) (a:List PV) (h:Am.Good Tryz.prog env (DP M a 0) o):Am.Good Tryz.prog env (GP M a M.fns.length) o:=by
 have hd:decide ((M.fns.length:Int)<(M.fns.length:Int))=false:=by simp
 unfold DP at h
 unfold GP
 by_cases e:a=[]
 · subst e
   rw[if_pos rfl] at h ⊢
   refine aa names (xR M 0 M.fns.length M.fns.length (M.fns.flatMap aB) []) ?_
   simp only[uu,Tree.ok,hd]
   exact⟨fun q=>(by cases q),fun _=>h⟩
 · rw[if_neg e] at h ⊢
   refine aa names (xS M a.length M.fns.length M.fns.length (M.fns.flatMap aB) a) ?_
   simp only[uw,Tree.ok,hd]
   exact⟨fun q=>(by cases q),fun _=>h⟩
theorem GR (M:Mo) (hM:M.fit) (o:Out) (a:List PV) (i:Nat) (x:Gl) (hx:M.gls[i]? = some x) (hB:(a++Sn x).length≤10000000) (h:Am.Good Tryz.prog env (DP M (a++Sn x) (i+1)) o):Am.Good Tryz.prog env (DP M a i) o:=by
 have hi:i<M.gls.length:=(List.getElem?_eq_some_iff.1 hx).1
 have c:=aM (z:=2) (enc:=aY) (fun _=>rfl) hx
 have c0:(M.gls.flatMap aY).getD (i*2) .bad = .sc (.bool x.mu):=c 0 (by decide)
 have c1:(M.gls.flatMap aY).getD (i*2+1) .bad=pL x.l:=c 1 (by decide)
 have hl:=hM.gls
 have hL:=An
 have w:IntKind.i64.wrap ((i:Int)+1)=((i+1:Nat):Int):=by rw[aD (by omega) (by omega)];rfl
 have hd:decide ((i:Int)<(M.gls.length:Int))=true:=by simp;omega
 unfold DP at h ⊢
 by_cases e:a=[]
 · subst e
   rw[if_neg (by simp[Sn]),List.nil_append] at h
   rw[if_pos rfl]
   refine aa names (xT M 0 M.gls.length i (M.gls.flatMap aY) []) ?_
   simp only[ux,Tree.ok,isStr,isInt,aH,isBool,aN,au,aT,aq,aA,aj,aG,Int.toNat_natCast,c0,c1,hd,w]
   exact⟨fun _=>⟨by first | (simp;done) | (simp;omega),rfl,h⟩,fun q=>by cases q⟩
 · rw[if_neg (by simp[e])] at h
   rw[if_neg e]
   refine aa names (xU M a.length M.gls.length i (M.gls.flatMap aY) a) ?_
   rw[List.length_append] at h hB
   have hB:a.length+1≤10000000:=hB
   simp only[uy,Tree.ok,isStr,isInt,aH,isBool,aN,au,aT,aq,aA,aj,aG,Int.toNat_natCast,c0,c1,hd,w]
   exact⟨fun _=>⟨by first | (simp;done) | (simp;omega),rfl,by simp only[Bool.and_true,Bool.and_eq_true,Nat.ble_eq];omega,h⟩,fun q=>by cases q⟩
theorem JU (M:Mo) (o:Out) (a:List PV) (h:Am.Good Tryz.prog env (DQ M a 0) o):Am.Good Tryz.prog env (DP M a M.gls.length) o:=by
 have hd:decide ((M.gls.length:Int)<(M.gls.length:Int))=false:=by simp
 unfold DQ at h
 unfold DP
 by_cases e:a=[]
 · subst e
   rw[if_pos rfl] at h ⊢
   refine aa names (xT M 0 M.gls.length M.gls.length (M.gls.flatMap aY) []) ?_
   simp only[ux,Tree.ok,hd]
   exact⟨fun q=>(by cases q),fun _=>h⟩
 · rw[if_neg e] at h ⊢
   refine aa names (xU M a.length M.gls.length M.gls.length (M.gls.flatMap aY) a) ?_
   simp only[uy,Tree.ok,hd]
   exact⟨fun q=>(by cases q),fun _=>h⟩
theorem GS (M:Mo) (hM:M.fit) (o:Out) (a:List PV) (i:Nat) (x:El) (hx:M.els[i]? = some x) (hB:(a++V6 x).length≤10000000) (h:Am.Good Tryz.prog env (DQ M (a++V6 x) (i+1)) o):Am.Good Tryz.prog env (DQ M a i) o:=by
 have hi:i<M.els.length:=(List.getElem?_eq_some_iff.1 hx).1
 have c:=aM (z:=2) (enc:=aJ) (fun _=>rfl) hx
 have c0:(M.els.flatMap aJ).getD (i*2) .bad=pL x.l:=c 0 (by decide)
 have c1:(M.els.flatMap aJ).getD (i*2+1) .bad=pT .u32 x.fs:=c 1 (by decide)
 have hl:=hM.els
 have hL:=An
 have w:IntKind.i64.wrap ((i:Int)+1)=((i+1:Nat):Int):=by rw[aD (by omega) (by omega)];rfl
 have hd:decide ((i:Int)<(M.els.length:Int))=true:=by simp;omega
 unfold DQ at h ⊢
 by_cases e:a=[]
 · subst e
   rw[if_neg (by simp[V6]),List.nil_append] at h
   rw[if_pos rfl]
   refine aa names (xV M 0 M.els.length i (M.els.flatMap aJ) []) ?_
   simp only[uz,Tree.ok,isStr,isInt,aH,isBool,aN,au,aT,aq,aA,aj,aG,Int.toNat_natCast,c0,c1,hd,w]
   exact⟨fun _=>⟨by first | (simp;done) | (simp;omega),rfl,h⟩,fun q=>by cases q⟩
 · rw[if_neg (by simp[e])] at h
   rw[if_neg e]
   refine aa names (xW M a.length M.els.length i (M.els.flatMap aJ) a) ?_
   rw[List.length_append] at h hB
   have hB:a.length+1≤10000000:=hB
   simp only[uA,Tree.ok,isStr,isInt,aH,isBool,aN,au,aT,aq,aA,aj,aG,Int.toNat_natCast,c0,c1,hd,w]
   exact⟨fun _=>⟨by first | (simp;done) | (simp;omega),rfl,by simp only[Bool.and_true,Bool.and_eq_true,Nat.ble_eq];omega,h⟩,fun q=>by cases q⟩
theorem JV (M:Mo) (o:Out) (a:List PV) (h:Am.Good Tryz.prog env (DR M a 0) o):Am.Good Tryz.prog env (DQ M a M.els.length) o:=by
 have hd:decide ((M.els.length:Int)<(M.els.length:Int))=false:=by simp
 unfold DR at h
 unfold DQ
 by_cases e:a=[]
 · subst e
   rw[if_pos rfl] at h ⊢
   refine aa names (xV M 0 M.els.length M.els.length (M.els.flatMap aJ) []) ?_
   simp only[uz,Tree.ok,hd]
   exact⟨fun q=>(by cases q),fun _=>h⟩
 · rw[if_neg e] at h ⊢
   refine aa names (xW M a.length M.els.length M.els.length (M.els.flatMap aJ) a) ?_
   simp only[uA,Tree.ok,hd]
   exact⟨fun q=>(by cases q),fun _=>h⟩
theorem GU (M:Mo) (hM:M.fit) (o:Out) (a:List PV) (i:Nat) (x:Da) (hx:M.aW[i]? = some x) (hB:(a++Xd x).length≤10000000) (h:Am.Good Tryz.prog env (DR M (a++Xd x) (i+1)) o):Am.Good Tryz.prog env (DR M a i) o:=by
 have hi:i<M.aW.length:=(List.getElem?_eq_some_iff.1 hx).1
 have c:=aM (z:=2) (enc:=aV) (fun _=>rfl) hx
 have c0:(M.aW.flatMap aV).getD (i*2) .bad=pL x.l:=c 0 (by decide)
 have c1:(M.aW.flatMap aV).getD (i*2+1) .bad=pT .u8 x.bs:=c 1 (by decide)
 have hl:=hM.aW
 have hL:=An
 have w:IntKind.i64.wrap ((i:Int)+1)=((i+1:Nat):Int):=by rw[aD (by omega) (by omega)];rfl
 have hd:decide ((i:Int)<(M.aW.length:Int))=true:=by simp;omega
 unfold DR at h ⊢
 by_cases e:a=[]
 · subst e
   rw[if_neg (by simp[Xd]),List.nil_append] at h
   rw[if_pos rfl]
   refine aa names (xX 0 M.aW.length i (M.aW.flatMap aV) []) ?_
   simp only[uB,Tree.ok,isStr,isInt,aH,isBool,aN,au,aT,aq,aA,aj,aG,Int.toNat_natCast,c0,c1,hd,w]
   exact⟨fun _=>⟨by first | (simp;done) | (simp;omega),rfl,h⟩,fun q=>by cases q⟩
 · rw[if_neg (by simp[e])] at h
   rw[if_neg e]
   refine aa names (xY a.length M.aW.length i (M.aW.flatMap aV) a) ?_
   rw[List.length_append] at h hB
   have hB:a.length+1≤10000000:=hB
   simp only[uC,Tree.ok,isStr,isInt,aH,isBool,aN,au,aT,aq,aA,aj,aG,Int.toNat_natCast,c0,c1,hd,w]
   exact⟨fun _=>⟨by first | (simp;done) | (simp;omega),rfl,by simp only[Bool.and_true,Bool.and_eq_true,Nat.ble_eq];omega,h⟩,fun q=>by cases q⟩
theorem JW (M:Mo) (o:Out) (a:List PV) (h:DN a=o):Am.Good Tryz.prog env (DR M a M.aW.length) o:=by
 have hd:decide ((M.aW.length:Int)<(M.aW.length:Int))=false:=by simp
 unfold DN at h
 unfold DR
 by_cases e:a=[]
 · subst e
   rw[if_pos rfl] at h ⊢
   refine aa names (xX 0 M.aW.length M.aW.length (M.aW.flatMap aV) []) ?_
   simp only[uB,Tree.ok,hd]
   exact⟨fun q=>(by cases q),fun _=>h⟩
 · rw[if_neg e] at h ⊢
   refine aa names (xY a.length M.aW.length M.aW.length (M.aW.flatMap aV) a) ?_
   simp only[uC,Tree.ok,hd]
   exact⟨fun q=>(by cases q),fun _=>h⟩
theorem dY {α:Type} {f:α→List PV} {n:Nat} (h : ∀x,(f x).length=n) (l:List α):(l.flatMap f).length=l.length*n:=BU h l
theorem qi {f:FuncId} {args:List AV} {a:List PV} (h : ∀v m',DN a = .ret v m'→aC Tryz.prog env f args [] v m'):aC Tryz.prog env f args [] (.p (.ps a.length 1 a)) []:=by
 by_cases e:a=[]
 · subst e
   exact aC.nil (h _ _ (if_pos rfl)) (Nat.le_refl 1)
 · exact aC.pure (h _ _ (if_neg e))
def JX (M:Mo):List PV:=M.aI.flatMap GL++M.exs.flatMap Nh
def Od (M:Mo):List PV:=M.fns.flatMap QO++M.gls.flatMap Sn++M.els.flatMap V6++M.aW.flatMap Xd
theorem DS (M:Mo) (hM:M.fit):aC Tryz.prog env 56 [.agg (M.aE.map .p)] [] (.p (.ps (JX M).length 1 (JX M))) []:=by
 have h1:=hM.aI
 have h2:=hM.exs
 have l1:=dY (f:=GL) (n:=2) (fun _=>rfl) M.aI
 have l2:=dY (f:=Nh) (n:=1) (fun _=>rfl) M.exs
 refine qi fun v m' e=> ?_
 refine ah names (JP M) ?_
 have k2:=jh (B:=10000000) (GO M hM (.ret v m')) (JS M _) M.exs.length 0 (M.aI.flatMap GL) (by omega) (by simp only[List.drop_zero,List.length_append];omega) e
 have k1:=jh (B:=10000000) (GN M hM (.ret v m')) (JR M _) M.aI.length 0 [] (by omega) (by simp only[List.drop_zero,List.length_append,List.length_nil];omega) k2
 unfold GM at k1
 rw[if_pos rfl] at k1
 exact k1
theorem DT (M:Mo) (hM:M.fit):aC Tryz.prog env 34 [.agg (M.aE.map .p)] [] (.p (.ps (Od M).length 1 (Od M))) []:=by
 have h1:=hM.fns
 have h2:=hM.gls
 have h3:=hM.els
 have h4:=hM.aW
 have l1:=dY (f:=QO) (n:=1) (fun _=>rfl) M.fns
 have l2:=dY (f:=Sn) (n:=1) (fun _=>rfl) M.gls
 have l3:=dY (f:=V6) (n:=1) (fun _=>rfl) M.els
 have l4:=dY (f:=Xd) (n:=1) (fun _=>rfl) M.aW
 refine qi fun v m' e=> ?_
 refine ah names (JQ M) ?_
 have k4:=jh (B:=10000000) (GU M hM (.ret v m')) (JW M _) M.aW.length 0 (M.fns.flatMap QO++M.gls.flatMap Sn++M.els.flatMap V6) (by omega) (by simp only[List.drop_zero,List.length_append];omega) e
 have k3:=jh (B:=10000000) (GS M hM (.ret v m')) (JV M _) M.els.length 0 (M.fns.flatMap QO++M.gls.flatMap Sn) (by omega) (by simp only[List.drop_zero,List.length_append];omega) k4
 have k2:=jh (B:=10000000) (GR M hM (.ret v m')) (JU M _) M.gls.length 0 (M.fns.flatMap QO) (by omega) (by simp only[List.drop_zero,List.length_append];omega) k3
 have k1:=jh (B:=10000000) (GQ M hM (.ret v m')) (JT M _) M.fns.length 0 [] (by omega) (by simp only[List.drop_zero,List.length_append,List.length_nil];omega) k2
 unfold GP at k1
 rw[if_pos rfl] at k1
 exact k1
end Go.Proofs.YtdmmllcjgjmbbaaGreatDoor.N
end
section
namespace Go.Proofs.YtdmmllcjgjmbbaaGreatDoor.N
open Go Go.Am
def GV:b9:=⟨182,[.p (.sc (.string ⟨#[101,113,122,32,101,113,32,110,101,32,108,116,95,115,32,108,116,95,117,32,103,116,95,115,32,103,116,95,117,32,108,101,95,115,32,108,101,95,117,32,103,101,95,115,32,103,101,95,117]⟩))],[],.p (.ps 11 1 [.sc (.string ⟨#[101,113,122]⟩),.sc (.string ⟨#[101,113]⟩),.sc (.string ⟨#[110,101]⟩),.sc (.string ⟨#[108,116,95,115]⟩),.sc (.string ⟨#[108,116,95,117]⟩),.sc (.string ⟨#[103,116,95,115]⟩),.sc (.string ⟨#[103,116,95,117]⟩),.sc (.string ⟨#[108,101,95,115]⟩),.sc (.string ⟨#[108,101,95,117]⟩),.sc (.string ⟨#[103,101,95,115]⟩),.sc (.string ⟨#[103,101,95,117]⟩)]),[]⟩
theorem aat:aC Tryz.prog env GV.g GV.args GV.m GV.v GV.m':=ec names (K:=[]) jH (n:=10000000) (by kernel_rfl)
def So:List b9:=GV::[]
theorem JY:eJ Tryz.prog env So:=fm aat jH
def GW:b9:=⟨182,[.p (.sc (.string ⟨#[99,108,122,32,99,116,122,32,112,111,112,99,110,116,32,97,100,100,32,115,117,98,32,109,117,108,32,100,105,118,95,115,32,100,105,118,95,117,32,114,101,109,95,115,32,114,101,109,95,117,32,97,110,100,32,111,114,32,120,111,114,32,115,104,108,32,115,104,114,95,115,32,115,104,114,95,117,32,114,111,116,108,32,114,111,116,114]⟩))],[],.p (.ps 18 1 [.sc (.string ⟨#[99,108,122]⟩),.sc (.string ⟨#[99,116,122]⟩),.sc (.string ⟨#[112,111,112,99,110,116]⟩),.sc (.string ⟨#[97,100,100]⟩),.sc (.string ⟨#[115,117,98]⟩),.sc (.string ⟨#[109,117,108]⟩),.sc (.string ⟨#[100,105,118,95,115]⟩),.sc (.string ⟨#[100,105,118,95,117]⟩),.sc (.string ⟨#[114,101,109,95,115]⟩),.sc (.string ⟨#[114,101,109,95,117]⟩),.sc (.string ⟨#[97,110,100]⟩),.sc (.string ⟨#[111,114]⟩),.sc (.string ⟨#[120,111,114]⟩),.sc (.string ⟨#[115,104,108]⟩),.sc (.string ⟨#[115,104,114,95,115]⟩),.sc (.string ⟨#[115,104,114,95,117]⟩),.sc (.string ⟨#[114,111,116,108]⟩),.sc (.string ⟨#[114,111,116,114]⟩)]),[]⟩
theorem aau:aC Tryz.prog env GW.g GW.args GW.m GW.v GW.m':=ec names (K:=So) JY (n:=10000000) (by kernel_rfl)
def Xe:List b9:=GW::So
theorem Sp:eJ Tryz.prog env Xe:=fm aau JY
def JZ:List ByteArray:=[⟨#[117,110,114,101,97,99,104,97,98,108,101]⟩,⟨#[110,111,112]⟩,⟨#[98,108,111,99,107]⟩,⟨#[108,111,111,112]⟩,⟨#[105,102]⟩,⟨#[]⟩,⟨#[]⟩,⟨#[]⟩,⟨#[]⟩,⟨#[]⟩,⟨#[]⟩,⟨#[]⟩,⟨#[98,114]⟩,⟨#[98,114,95,105,102]⟩,⟨#[98,114,95,116,97,98,108,101]⟩,⟨#[114,101,116,117,114,110]⟩,⟨#[99,97,108,108]⟩,⟨#[99,97,108,108,95,105,110,100,105,114,101,99,116]⟩,⟨#[]⟩,⟨#[]⟩,⟨#[]⟩,⟨#[]⟩,⟨#[]⟩,⟨#[]⟩,⟨#[]⟩,⟨#[]⟩,⟨#[100,114,111,112]⟩,⟨#[115,101,108,101,99,116]⟩,⟨#[]⟩,⟨#[]⟩,⟨#[]⟩,⟨#[]⟩,⟨#[108,111,99,97,108,46,103,101,116]⟩,⟨#[108,111,99,97,108,46,115,101,116]⟩,⟨#[108,111,99,97,108,46,116,101,101]⟩,⟨#[103,108,111,98,97,108,46,103,101,116]⟩,⟨#[103,108,111,98,97,108,46,115,101,116]⟩,⟨#[]⟩,⟨#[]⟩,⟨#[]⟩,⟨#[105,51,50,46,108,111,97,100]⟩,⟨#[]⟩,⟨#[]⟩,⟨#[]⟩,⟨#[105,51,50,46,108,111,97,100,56,95,115]⟩,⟨#[105,51,50,46,108,111,97,100,56,95,117]⟩,⟨#[105,51,50,46,108,111,97,100,49,54,95,115]⟩,⟨#[105,51,50,46,108,111,97,100,49,54,95,117]⟩,⟨#[]⟩,⟨#[]⟩,⟨#[]⟩,⟨#[]⟩,⟨#[]⟩,⟨#[]⟩,⟨#[105,51,50,46,115,116,111,114,101]⟩,⟨#[]⟩,⟨#[]⟩,⟨#[]⟩,⟨#[105,51,50,46,115,116,111,114,101,56]⟩,⟨#[105,51,50,46,115,116,111,114,101,49,54]⟩,⟨#[]⟩,⟨#[]⟩,⟨#[]⟩,⟨#[109,101,109,111,114,121,46,115,105,122,101]⟩,⟨#[109,101,109,111,114,121,46,103,114,111,119]⟩,⟨#[105,51,50,46,99,111,110,115,116]⟩,⟨#[]⟩,⟨#[]⟩,⟨#[]⟩,⟨#[105,51,50,46,101,113,122]⟩,⟨#[105,51,50,46,101,113]⟩,⟨#[105,51,50,46,110,101]⟩,⟨#[105,51,50,46,108,116,95,115]⟩,⟨#[105,51,50,46,108,116,95,117]⟩,⟨#[105,51,50,46,103,116,95,115]⟩,⟨#[105,51,50,46,103,116,95,117]⟩,⟨#[105,51,50,46,108,101,95,115]⟩,⟨#[105,51,50,46,108,101,95,117]⟩,⟨#[105,51,50,46,103,101,95,115]⟩,⟨#[105,51,50,46,103,101,95,117]⟩,⟨#[]⟩,⟨#[]⟩,⟨#[]⟩,⟨#[]⟩,⟨#[]⟩,⟨#[]⟩,⟨#[]⟩,⟨#[]⟩,⟨#[]⟩,⟨#[]⟩,⟨#[]⟩,⟨#[]⟩,⟨#[]⟩,⟨#[]⟩,⟨#[]⟩,⟨#[]⟩,⟨#[]⟩,⟨#[]⟩,⟨#[]⟩,⟨#[]⟩,⟨#[]⟩,⟨#[]⟩,⟨#[]⟩,⟨#[105,51,50,46,99,108,122]⟩,⟨#[105,51,50,46,99,116,122]⟩,⟨#[105,51,50,46,112,111,112,99,110,116]⟩,⟨#[105,51,50,46,97,100,100]⟩,⟨#[105,51,50,46,115,117,98]⟩,⟨#[105,51,50,46,109,117,108]⟩,⟨#[105,51,50,46,100,105,118,95,115]⟩,⟨#[105,51,50,46,100,105,118,95,117]⟩,⟨#[105,51,50,46,114,101,109,95,115]⟩,⟨#[105,51,50,46,114,101,109,95,117]⟩,⟨#[105,51,50,46,97,110,100]⟩,⟨#[105,51,50,46,111,114]⟩,⟨#[105,51,50,46,120,111,114]⟩,⟨#[105,51,50,46,115,104,108]⟩,⟨#[105,51,50,46,115,104,114,95,115]⟩,⟨#[105,51,50,46,115,104,114,95,117]⟩,⟨#[105,51,50,46,114,111,116,108]⟩,⟨#[105,51,50,46,114,111,116,114]⟩,⟨#[]⟩,⟨#[]⟩,⟨#[]⟩,⟨#[]⟩,⟨#[]⟩,⟨#[]⟩,⟨#[]⟩,⟨#[]⟩,⟨#[]⟩,⟨#[]⟩,⟨#[]⟩,⟨#[]⟩,⟨#[]⟩,⟨#[]⟩,⟨#[]⟩,⟨#[]⟩,⟨#[]⟩,⟨#[]⟩,⟨#[]⟩,⟨#[]⟩,⟨#[]⟩,⟨#[]⟩,⟨#[]⟩,⟨#[]⟩,⟨#[]⟩,⟨#[]⟩,⟨#[]⟩,⟨#[]⟩,⟨#[]⟩,⟨#[]⟩,⟨#[]⟩,⟨#[]⟩,⟨#[]⟩,⟨#[]⟩,⟨#[]⟩,⟨#[]⟩,⟨#[]⟩,⟨#[]⟩,⟨#[]⟩,⟨#[]⟩,⟨#[]⟩,⟨#[]⟩,⟨#[]⟩,⟨#[]⟩,⟨#[]⟩,⟨#[]⟩,⟨#[]⟩,⟨#[]⟩,⟨#[]⟩,⟨#[]⟩,⟨#[]⟩,⟨#[]⟩,⟨#[]⟩,⟨#[]⟩,⟨#[]⟩,⟨#[]⟩,⟨#[]⟩,⟨#[]⟩,⟨#[]⟩,⟨#[]⟩,⟨#[]⟩,⟨#[]⟩,⟨#[]⟩,⟨#[]⟩,⟨#[]⟩,⟨#[]⟩,⟨#[]⟩,⟨#[]⟩,⟨#[]⟩,⟨#[]⟩,⟨#[]⟩,⟨#[]⟩,⟨#[]⟩,⟨#[]⟩,⟨#[]⟩,⟨#[]⟩,⟨#[]⟩,⟨#[]⟩,⟨#[]⟩,⟨#[]⟩,⟨#[]⟩,⟨#[]⟩,⟨#[]⟩,⟨#[]⟩,⟨#[]⟩,⟨#[]⟩,⟨#[]⟩,⟨#[]⟩,⟨#[]⟩,⟨#[]⟩,⟨#[]⟩,⟨#[]⟩,⟨#[]⟩,⟨#[]⟩,⟨#[]⟩,⟨#[]⟩,⟨#[]⟩,⟨#[]⟩,⟨#[]⟩,⟨#[]⟩,⟨#[]⟩,⟨#[]⟩,⟨#[]⟩,⟨#[]⟩,⟨#[]⟩,⟨#[]⟩,⟨#[]⟩,⟨#[]⟩,⟨#[]⟩,⟨#[]⟩,⟨#[]⟩,⟨#[]⟩,⟨#[]⟩,⟨#[]⟩,⟨#[]⟩,⟨#[]⟩,⟨#[]⟩,⟨#[]⟩,⟨#[]⟩,⟨#[]⟩,⟨#[]⟩,⟨#[]⟩,⟨#[]⟩,⟨#[]⟩,⟨#[]⟩,⟨#[]⟩,⟨#[]⟩,⟨#[]⟩,⟨#[]⟩,⟨#[]⟩,⟨#[]⟩,⟨#[]⟩,⟨#[]⟩,⟨#[]⟩,⟨#[]⟩]
theorem Sq:aC Tryz.prog env 170 [] [] (.agg (JZ.map fun s=> .p (.sc (.string s)))) []:=ec names (K:=Xe) Sp (n:=10000000) (by kernel_rfl)
end Go.Proofs.YtdmmllcjgjmbbaaGreatDoor.N
end
