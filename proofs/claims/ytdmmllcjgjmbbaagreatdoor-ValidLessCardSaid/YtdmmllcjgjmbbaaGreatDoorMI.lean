import Derived.Test.YtdmmllcjgjmbbaaGreatDoorMH
open Go.Lit renaming int→acB
open List renaming drop_succ_cons→acH,take_succ_cons→acP,drop_zero→ab1,take_zero→acU,getD_eq_getElem?_getD→ch,flatMap_cons→adE,length_cons→ml
open Nat renaming le_of_ble_eq_true→en,add_mul→po,zero_add→pw
open Go.DataW renaming trod→abO
open Go.Proofs.Tryz renaming prog→acb
open Go.Fn renaming func→acm
open Go.IntKind renaming i64→sb
open Go.Value renaming int→sT
open True renaming intro→adV
noncomputable section
section
namespace Go.Am
open Go.RowKit
structure Ty where
 p:Int
 r:Int
structure Im where
 mo:ByteArray
 nm:ByteArray
 ty:Int
structure Fu where
 ty:Int
 lo:Int
 l:List Ins
structure Li where
 mn:Int
 mx:Int
 cap:Bool
structure Gl where
 mu:Bool
 l:List Ins
structure Ex where
 nm:ByteArray
 kind:Int
 ix:Int
structure El where
 l:List Ins
 fs:List Int
structure Da where
 l:List Ins
 bs:List Int
abbrev pL (l:List Ins):PV:= .ps l.length 8 (aq l)
abbrev pT (k:IntKind) (l:List Int):PV:= .ps l.length 1 (dZ k l)
abbrev cP (x:Ty):List PV:=[.sc (.int .i64 x.p),.sc (.int .i64 x.r)]
abbrev bK (x:Im):List PV:=[.sc (.string x.mo),.sc (.string x.nm),.sc (.int .i64 x.ty)]
abbrev bG (x:Fu):List PV:=[.sc (.int .i64 x.ty),.sc (.int .i64 x.lo),pL x.l]
abbrev bN (x:Li):List PV:=[.sc (.int .u32 x.mn),.sc (.int .u32 x.mx),.sc (.bool x.cap)]
abbrev dD (x:Gl):List PV:=[.sc (.bool x.mu),pL x.l]
abbrev aS (x:Ex):List PV:=[.sc (.string x.nm),.sc (.int .i64 x.kind),.sc (.int .u32 x.ix)]
abbrev bA (x:El):List PV:=[pL x.l,pT .u32 x.fs]
abbrev bU (x:Da):List PV:=[pL x.l,pT .u8 x.bs]
def Zo (k:IntKind) (l:List Int):Prop:=l.length≤maxLen ∧ ∀t∈l,(acB k t).wf=true
def Cs (l:List Ins):Prop:=l.length≤maxLen∧F0 l
def U5 (x:Ty):Prop:=(acB .i64 x.p).wf=true∧(acB .i64 x.r).wf=true
def U6 (x:Im):Prop:=x.mo.size≤maxLen∧x.nm.size≤maxLen∧(acB .i64 x.ty).wf=true
def QW (x:Fu):Prop:=(acB .i64 x.ty).wf=true∧(acB .i64 x.lo).wf=true∧Cs x.l
def Mn (x:Li):Prop:=(acB .u32 x.mn).wf=true∧(acB .u32 x.mx).wf=true
def U7 (x:Gl):Prop:=Cs x.l
def U8 (x:Ex):Prop:=x.nm.size≤maxLen∧(acB .i64 x.kind).wf=true∧(acB .u32 x.ix).wf=true
def U9 (x:El):Prop:=Cs x.l∧Zo .u32 x.fs
def Va (x:Da):Prop:=Cs x.l∧Zo .u8 x.bs
structure Mo where
 tys:List Ty
 aQ:List Im
 fns:List Fu
 fR:List Li
 gA:List Li
 gls:List Gl
 exs:List Ex
 st:Bool
 sn:Int
 els:List El
 bk:List Da
def m0 {α:Type} (w:α→Prop) (l:List α):Prop:=l.length≤maxLen ∧ ∀x∈l,w x
structure Mo.wf (M:Mo):Prop where
 tys:m0 U5 M.tys
 aQ:m0 U6 M.aQ
 fns:m0 QW M.fns
 fR:m0 Mn M.fR
 gA:m0 Mn M.gA
 gls:m0 U7 M.gls
 exs:m0 U8 M.exs
 sn:(acB .u32 M.sn).wf=true
 els:m0 U9 M.els
 bk:m0 Va M.bk
abbrev Mo.aI (M:Mo):List PV:=[.ps M.tys.length 2 (M.tys.flatMap cP),.ps M.aQ.length 3 (M.aQ.flatMap bK),.ps M.fns.length 3 (M.fns.flatMap bG),.ps M.fR.length 3 (M.fR.flatMap bN),.ps M.gA.length 3 (M.gA.flatMap bN),
 .ps M.gls.length 2 (M.gls.flatMap dD),.ps M.exs.length 3 (M.exs.flatMap aS),.sc (.bool M.st),.sc (.int .u32 M.sn),.ps M.els.length 2 (M.els.flatMap bA),.ps M.bk.length 2 (M.bk.flatMap bU)]
theorem bp {α:Type} {z:Nat} {enc:α→List PV} (hz : ∀x,(enc x).length=z) : ∀{l:List α} {k:Nat} {x:α},l[k]? = some x → ∀j,j<z→(l.flatMap enc).getD (k*z+j) .bw=(enc x).getD j .bw
 |y::r,0,x,h,j,hj=>by
  simp only[List.getElem?_cons_zero,Option.some.injEq] at h
  subst h
  rw[adE,Nat.zero_mul,pw,ch,ch,List.getElem?_append_left (by rw[hz];exact hj)]
 |y::r,k+1,x,h,j,hj=>by
  simp only[List.getElem?_cons_succ] at h
  have ih:=bp hz h j hj
  rw[adE,ch,List.getElem?_append_right (by rw[hz,po];omega),hz,show(k+1)*z+j-z=k*z+j by rw[po];omega,←ch]
  exact ih
theorem D3 {α:Type} {z:Nat} {enc:α→List PV} (hz : ∀x,(enc x).length=z) : ∀l:List α,(l.flatMap enc).length=l.length*z
 |[]=>by simp
 |x::r=>by rw[adE,List.length_append,hz,D3 hz r,ml,po];omega
section
variable {H:Type} {enc:TypeId×Value→H} {P:Program} {w:World} {base:Nat} {spare:Nat→Bool} {held:Bool}
theorem dz {t:TypeId} {ts:List TypeId} {fs:Array Field} (ht:P.underlying t=some (.struct fs)) (hz:P.cellsOf t=ts.length) (hf:(fs.toList.map fun f=>(f.offset,f.type))=ts.zipIdx.map fun q=>(q.2,q.1))
  (h1 : ∀t∈ts,P.cellsOf t=1) {fuel:Nat} {cs:List Value} {x:DataW H×List MemPlace} (h:abO enc P w base spare held fuel t cs=some x) :
  ∃m,cs.length=ts.length ∧ ∀(i:Nat) (u:TypeId),ts[i]? = some u → ∃y,abO enc P w base spare held m u ((cs.drop i).take 1)=some y:=by
 obtain⟨m,rfl,hlen,hg⟩:=jm ht h
 rw[hz] at hlen
 refine⟨m,hlen,fun i u hi=> ?_⟩
 obtain⟨f,q1,q2,q3⟩:=UU (fs:=fs) (i:=i) (o:=i) (t:=u) (by rw[hf,List.getElem?_map,List.getElem?_zipIdx,hi];simp)
 obtain⟨y,hy⟩:=hg i f q1
 rw[q2,q3,h1 u (List.mem_of_getElem? hi)] at hy
 exact⟨y,hy⟩
structure Ff (P:Program) (tM sD sE sF nw sG sH sJ sK uN uO vI zT rS uP uQ uR uS tL tI ti tu tn tt ts tb t8 tk:TypeId):Prop where
 ins : ∃fs,UT P tL tI ti tu tn tt fs
 us:P.underlying ts=some .string
 ub:P.underlying tb=some .bool
 u8:P.underlying t8=some (.slice tk)
 uk:P.underlying tk=some (.int .u8)
 one:[ti,tu,tL,tt,ts,tb,t8,tk,sD,sE,sF,nw,sG,sH,sJ,sK].all (fun t=>P.cellsOf t==1)=true
 sl : ∀q∈[(sD,uN),(sE,uO),(sF,vI),(nw,rS),(sG,uP),(sH,uQ),(sJ,uR),(sK,uS)],P.underlying q.1=some (.slice q.2)
 st : ∀q∈[(tM,[sD,sE,sF,nw,nw,sG,sH,tb,tu,sJ,sK]),(uN,[ti,ti]),(uO,[ts,ts,ti]),(zT,[ti,tL]),(rS,[tu,tu,tb]),(uP,[tb,tL]),(uQ,[ts,ti,tu]),(uR,[tL,tt]),(uS,[tL,t8])],
  ∃fs,P.underlying q.1=some (.struct fs)∧P.cellsOf q.1=q.2.length∧(fs.toList.map fun f=>(f.offset,f.type))=q.2.zipIdx.map fun q=>(q.2,q.1)
 fu : ∃fs,P.underlying vI=some (.struct fs)∧P.cellsOf vI=3∧(fs.toList.map fun f=>(f.offset,f.type))=[(0,ti),(1,zT)]
theorem ox {tt tu:TypeId} {k:IntKind} (ht:P.underlying tt=some (.slice tu)) (hu:P.underlying tu=some (.int k)) (h1:P.cellsOf tu=1) {fuel:Nat} {cs:List Value} {x:DataW H×List MemPlace}
  (h:abO enc P w base spare held fuel tt cs=some x) : ∃l:List Int,Zo k l∧bL w [pT k l] cs:=by
 obtain⟨l,w1,w2,k1⟩:=pU ht hu h1 h
 exact⟨l,⟨w1,w2⟩,k1⟩
end
section
variable {H:Type} {enc:TypeId×Value→H} {P:Program} {w:World} {base:Nat} {spare:Nat→Bool} {held:Bool} {tM sD sE sF nw sG sH sJ sK uN uO vI zT rS uP uQ uR uS tL tI ti tu tn tt ts tb t8 tk:TypeId}
theorem Ff.c1 (T:Ff P tM sD sE sF nw sG sH sJ sK uN uO vI zT rS uP uQ uR uS tL tI ti tu tn tt ts tb t8 tk) {t:TypeId} (h:t∈[ti,tu,tL,tt,ts,tb,t8,tk,sD,sE,sF,nw,sG,sH,sJ,sK]):P.cellsOf t=1:=by
 simpa using List.all_eq_true.1 T.one t h
theorem zU (T:Ff P tM sD sE sF nw sG sH sJ sK uN uO vI zT rS uP uQ uR uS tL tI ti tu tn tt ts tb t8 tk) {fuel:Nat} {cs:List Value} {x:DataW H×List MemPlace} (h:abO enc P w base spare held fuel tt cs=some x) : ∃l:List Int,Zo .u32 l∧bL w [pT .u32 l] cs:=by
 obtain⟨fs,I⟩:=T.ins
 exact ox I.kt I.ku (T.c1 (by simp)) h
theorem zV (T:Ff P tM sD sE sF nw sG sH sJ sK uN uO vI zT rS uP uQ uR uS tL tI ti tu tn tt ts tb t8 tk) {fuel:Nat} {cs:List Value} {x:DataW H×List MemPlace} (h:abO enc P w base spare held fuel t8 cs=some x) : ∃l:List Int,Zo .u8 l∧bL w [pT .u8 l] cs:=
 ox T.u8 T.uk (T.c1 (by simp)) h
theorem jB (T:Ff P tM sD sE sF nw sG sH sJ sK uN uO vI zT rS uP uQ uR uS tL tI ti tu tn tt ts tb t8 tk) {fuel:Nat} {cs:List Value} {x:DataW H×List MemPlace} (h:abO enc P w base spare held fuel tL cs=some x) : ∃l:List Ins,Cs l∧bL w [pL l] cs:=by
 obtain⟨fs,I⟩:=T.ins
 exact DW I fuel cs x h
theorem F4 (T:Ff P tM sD sE sF nw sG sH sJ sK uN uO vI zT rS uP uQ uR uS tL tI ti tu tn tt ts tb t8 tk) {fuel:Nat} {cs:List Value} {x:DataW H×List MemPlace} (h:abO enc P w base spare held fuel uN cs=some x) : ∃y:Ty,U5 y∧bL w (cP y) cs:=by
 obtain⟨fs,I⟩:=T.ins
 obtain⟨fs',q1,q2,q3⟩:=T.st (uN,[ti,ti]) (by simp)
 obtain⟨m,hlen,get⟩:=dz q1 q2 q3 (by simp[T.c1]) h
 match cs,hlen with
 |[u0,u1],_=>
  obtain⟨y0,e0⟩:=get 0 ti rfl
  obtain⟨y1,e1⟩:=get 1 ti rfl
  simp only[ab1,acH,acP,acU] at e0 e1
  obtain⟨n0,w0,k0⟩:=bM I.ki e0
  obtain⟨n1,w1,k1⟩:=bM I.ki e1
  exact⟨⟨n0,n1⟩,⟨w0,w1⟩,k0.cat (k1)⟩
theorem F5 (T:Ff P tM sD sE sF nw sG sH sJ sK uN uO vI zT rS uP uQ uR uS tL tI ti tu tn tt ts tb t8 tk) {fuel:Nat} {cs:List Value} {x:DataW H×List MemPlace} (h:abO enc P w base spare held fuel uO cs=some x) : ∃y:Im,U6 y∧bL w (bK y) cs:=by
 obtain⟨fs,I⟩:=T.ins
 obtain⟨fs',q1,q2,q3⟩:=T.st (uO,[ts,ts,ti]) (by simp)
 obtain⟨m,hlen,get⟩:=dz q1 q2 q3 (by simp[T.c1]) h
 match cs,hlen with
 |[u0,u1,u2],_=>
  obtain⟨y0,e0⟩:=get 0 ts rfl
  obtain⟨y1,e1⟩:=get 1 ts rfl
  obtain⟨y2,e2⟩:=get 2 ti rfl
  simp only[ab1,acH,acP,acU] at e0 e1 e2
  obtain⟨n0,w0,k0⟩:=jl T.us e0
  obtain⟨n1,w1,k1⟩:=jl T.us e1
  obtain⟨n2,w2,k2⟩:=bM I.ki e2
  exact⟨⟨n0,n1,n2⟩,⟨w0,w1,w2⟩,k0.cat (k1.cat (k2))⟩
theorem xZ (T:Ff P tM sD sE sF nw sG sH sJ sK uN uO vI zT rS uP uQ uR uS tL tI ti tu tn tt ts tb t8 tk) {fuel:Nat} {cs:List Value} {x:DataW H×List MemPlace} (h:abO enc P w base spare held fuel rS cs=some x) : ∃y:Li,Mn y∧bL w (bN y) cs:=by
 obtain⟨fs,I⟩:=T.ins
 obtain⟨fs',q1,q2,q3⟩:=T.st (rS,[tu,tu,tb]) (by simp)
 obtain⟨m,hlen,get⟩:=dz q1 q2 q3 (by simp[T.c1]) h
 match cs,hlen with
 |[u0,u1,u2],_=>
  obtain⟨y0,e0⟩:=get 0 tu rfl
  obtain⟨y1,e1⟩:=get 1 tu rfl
  obtain⟨y2,e2⟩:=get 2 tb rfl
  simp only[ab1,acH,acP,acU] at e0 e1 e2
  obtain⟨n0,w0,k0⟩:=bM I.ku e0
  obtain⟨n1,w1,k1⟩:=bM I.ku e1
  obtain⟨n2,k2⟩:=lq T.ub e2
  exact⟨⟨n0,n1,n2⟩,⟨w0,w1⟩,k0.cat (k1.cat (k2))⟩
theorem F6 (T:Ff P tM sD sE sF nw sG sH sJ sK uN uO vI zT rS uP uQ uR uS tL tI ti tu tn tt ts tb t8 tk) {fuel:Nat} {cs:List Value} {x:DataW H×List MemPlace} (h:abO enc P w base spare held fuel uP cs=some x) : ∃y:Gl,U7 y∧bL w (dD y) cs:=by
 obtain⟨fs,I⟩:=T.ins
 obtain⟨fs',q1,q2,q3⟩:=T.st (uP,[tb,tL]) (by simp)
 obtain⟨m,hlen,get⟩:=dz q1 q2 q3 (by simp[T.c1]) h
 match cs,hlen with
 |[u0,u1],_=>
  obtain⟨y0,e0⟩:=get 0 tb rfl
  obtain⟨y1,e1⟩:=get 1 tL rfl
  simp only[ab1,acH,acP,acU] at e0 e1
  obtain⟨n0,k0⟩:=lq T.ub e0
  obtain⟨n1,w1,k1⟩:=jB T e1
  exact⟨⟨n0,n1⟩,w1,k0.cat (k1)⟩
theorem F7 (T:Ff P tM sD sE sF nw sG sH sJ sK uN uO vI zT rS uP uQ uR uS tL tI ti tu tn tt ts tb t8 tk) {fuel:Nat} {cs:List Value} {x:DataW H×List MemPlace} (h:abO enc P w base spare held fuel uQ cs=some x) : ∃y:Ex,U8 y∧bL w (aS y) cs:=by
 obtain⟨fs,I⟩:=T.ins
 obtain⟨fs',q1,q2,q3⟩:=T.st (uQ,[ts,ti,tu]) (by simp)
 obtain⟨m,hlen,get⟩:=dz q1 q2 q3 (by simp[T.c1]) h
 match cs,hlen with
 |[u0,u1,u2],_=>
  obtain⟨y0,e0⟩:=get 0 ts rfl
  obtain⟨y1,e1⟩:=get 1 ti rfl
  obtain⟨y2,e2⟩:=get 2 tu rfl
  simp only[ab1,acH,acP,acU] at e0 e1 e2
  obtain⟨n0,w0,k0⟩:=jl T.us e0
  obtain⟨n1,w1,k1⟩:=bM I.ki e1
  obtain⟨n2,w2,k2⟩:=bM I.ku e2
  exact⟨⟨n0,n1,n2⟩,⟨w0,w1,w2⟩,k0.cat (k1.cat (k2))⟩
theorem F8 (T:Ff P tM sD sE sF nw sG sH sJ sK uN uO vI zT rS uP uQ uR uS tL tI ti tu tn tt ts tb t8 tk) {fuel:Nat} {cs:List Value} {x:DataW H×List MemPlace} (h:abO enc P w base spare held fuel uR cs=some x) : ∃y:El,U9 y∧bL w (bA y) cs:=by
 obtain⟨fs,I⟩:=T.ins
 obtain⟨fs',q1,q2,q3⟩:=T.st (uR,[tL,tt]) (by simp)
 obtain⟨m,hlen,get⟩:=dz q1 q2 q3 (by simp[T.c1]) h
 match cs,hlen with
 |[u0,u1],_=>
  obtain⟨y0,e0⟩:=get 0 tL rfl
  obtain⟨y1,e1⟩:=get 1 tt rfl
  simp only[ab1,acH,acP,acU] at e0 e1
  obtain⟨n0,w0,k0⟩:=jB T e0
  obtain⟨n1,w1,k1⟩:=zU T e1
  exact⟨⟨n0,n1⟩,⟨w0,w1⟩,k0.cat (k1)⟩
theorem F9 (T:Ff P tM sD sE sF nw sG sH sJ sK uN uO vI zT rS uP uQ uR uS tL tI ti tu tn tt ts tb t8 tk) {fuel:Nat} {cs:List Value} {x:DataW H×List MemPlace} (h:abO enc P w base spare held fuel uS cs=some x) : ∃y:Da,Va y∧bL w (bU y) cs:=by
 obtain⟨fs,I⟩:=T.ins
 obtain⟨fs',q1,q2,q3⟩:=T.st (uS,[tL,t8]) (by simp)
 obtain⟨m,hlen,get⟩:=dz q1 q2 q3 (by simp[T.c1]) h
 match cs,hlen with
 |[u0,u1],_=>
  obtain⟨y0,e0⟩:=get 0 tL rfl
  obtain⟨y1,e1⟩:=get 1 t8 rfl
  simp only[ab1,acH,acP,acU] at e0 e1
  obtain⟨n0,w0,k0⟩:=jB T e0
  obtain⟨n1,w1,k1⟩:=zV T e1
  exact⟨⟨n0,n1⟩,⟨w0,w1⟩,k0.cat (k1)⟩
theorem Ga (T:Ff P tM sD sE sF nw sG sH sJ sK uN uO vI zT rS uP uQ uR uS tL tI ti tu tn tt ts tb t8 tk) {fuel:Nat} {cs:List Value} {x:DataW H×List MemPlace} (h:abO enc P w base spare held fuel vI cs=some x) : ∃y:Fu,QW y∧bL w (bG y) cs:=by
 obtain⟨fs,I⟩:=T.ins
 obtain⟨fs0,r1,r2,r3⟩:=T.fu
 obtain⟨fs',q1,q2,q3⟩:=T.st (zT,[ti,tL]) (by simp)
 obtain⟨m,rfl,hlen,hg⟩:=jm r1 h
 rw[r2] at hlen
 obtain⟨f0,a1,a2,a3⟩:=UU (fs:=fs0) (i:=0) (o:=0) (t:=ti) (by rw[r3];rfl)
 obtain⟨f1,b1,b2,b3⟩:=UU (fs:=fs0) (i:=1) (o:=1) (t:=zT) (by rw[r3];rfl)
 obtain⟨y0,e0⟩:=hg 0 f0 a1
 obtain⟨y1,e1⟩:=hg 1 f1 b1
 rw[a2,a3,T.c1 (t:=ti) (by simp)] at e0
 rw[b2,b3,q2] at e1
 match cs,hlen with
 |[u0,u1,u2],_=>
  simp only[ab1,acH,acP,acU,ml,List.length_nil,pw,Nat.reduceAdd] at e0 e1
  obtain⟨n,_,get⟩:=dz q1 q2 q3 (by simp[T.c1]) e1
  obtain⟨z0,g0⟩:=get 0 ti rfl
  obtain⟨z1,g1⟩:=get 1 tL rfl
  simp only[ab1,acH,acP,acU] at g0 g1
  obtain⟨n0,w0,k0⟩:=bM I.ki e0
  obtain⟨n1,w1,k1⟩:=bM I.ki g0
  obtain⟨n2,w2,k2⟩:=jB T g1
  exact⟨⟨n0,n1,n2⟩,⟨w0,w1,w2⟩,k0.cat (k1.cat k2)⟩
theorem eC {α:Type} {mJ:α→List PV} {wf:α→Prop} {lt te:TypeId} {z:Nat} (hl:P.underlying lt=some (.slice te)) (hz:P.cellsOf te=z) (h1:1≤z) {fuel:Nat} {cs:List Value} {x:DataW H×List MemPlace} (h:abO enc P w base spare held fuel lt cs=some x)
  (hE : ∀(fuel:Nat) (us:List Value) y,abO enc P w base spare held fuel te us=some y → ∃a:α,wf a∧bL w (mJ a) us) : ∃l:List α,m0 wf l∧bL w [.ps l.length z (l.flatMap mJ)] cs:=by
 obtain⟨l,a,b,c⟩:=kj (mJ:=mJ) (wf:=wf) hl (by omega) h fun n _ us y hy=>hE n us y hy
 rw[hz] at c
 exact⟨l,⟨a,b⟩,c⟩
theorem Gb (T:Ff P tM sD sE sF nw sG sH sJ sK uN uO vI zT rS uP uQ uR uS tL tI ti tu tn tt ts tb t8 tk) {fuel:Nat} {cs:List Value} {x:DataW H×List MemPlace} (h:abO enc P w base spare held fuel tM cs=some x) : ∃M:Mo,M.wf∧bL w M.aI cs:=by
 obtain⟨fs,I⟩:=T.ins
 obtain⟨fs',q1,q2,q3⟩:=T.st (tM,[sD,sE,sF,nw,nw,sG,sH,tb,tu,sJ,sK]) (by simp)
 obtain⟨m,hlen,get⟩:=dz q1 q2 q3 (by simp[T.c1]) h
 have z : ∀t ts',(t,ts')∈[(tM,[sD,sE,sF,nw,nw,sG,sH,tb,tu,sJ,sK]),(uN,[ti,ti]),(uO,[ts,ts,ti]),(zT,[ti,tL]),(rS,[tu,tu,tb]),(uP,[tb,tL]),(uQ,[ts,ti,tu]),(uR,[tL,tt]),(uS,[tL,t8])]→P.cellsOf t=ts'.length:=
  fun t ts' hm=>by
   obtain⟨_,_,e,_⟩:=T.st (t,ts') hm
   exact e
 obtain⟨_,_,z3,_⟩:=T.fu
 match cs,hlen with
 |[u0,u1,u2,u3,u4,u5,u6,u7,u8,u9,u10],_=>
  obtain⟨y0,e0⟩:=get 0 sD rfl
  obtain⟨y1,e1⟩:=get 1 sE rfl
  obtain⟨y2,e2⟩:=get 2 sF rfl
  obtain⟨y3,e3⟩:=get 3 nw rfl
  obtain⟨y4,e4⟩:=get 4 nw rfl
  obtain⟨y5,e5⟩:=get 5 sG rfl
  obtain⟨y6,e6⟩:=get 6 sH rfl
  obtain⟨y7,e7⟩:=get 7 tb rfl
  obtain⟨y8,e8⟩:=get 8 tu rfl
  obtain⟨y9,e9⟩:=get 9 sJ rfl
  obtain⟨y10,e10⟩:=get 10 sK rfl
  simp only[ab1,acH,acP,acU] at e0 e1 e2 e3 e4 e5 e6 e7 e8 e9 e10
  obtain⟨n0,w0,k0⟩:=eC (mJ:=cP) (wf:=U5) (T.sl (sD,uN) (by simp)) (z uN [ti,ti] (by simp)) (en rfl) e0 fun _ _ _ g=>F4 T g
  obtain⟨n1,w1,k1⟩:=eC (mJ:=bK) (wf:=U6) (T.sl (sE,uO) (by simp)) (z uO [ts,ts,ti] (by simp)) (en rfl) e1 fun _ _ _ g=>F5 T g
  obtain⟨n2,w2,k2⟩:=eC (mJ:=bG) (wf:=QW) (T.sl (sF,vI) (by simp)) z3 (en rfl) e2 fun _ _ _ g=>Ga T g
  obtain⟨n3,w3,k3⟩:=eC (mJ:=bN) (wf:=Mn) (T.sl (nw,rS) (by simp)) (z rS [tu,tu,tb] (by simp)) (en rfl) e3 fun _ _ _ g=>xZ T g
  obtain⟨n4,w4,k4⟩:=eC (mJ:=bN) (wf:=Mn) (T.sl (nw,rS) (by simp)) (z rS [tu,tu,tb] (by simp)) (en rfl) e4 fun _ _ _ g=>xZ T g
  obtain⟨n5,w5,k5⟩:=eC (mJ:=dD) (wf:=U7) (T.sl (sG,uP) (by simp)) (z uP [tb,tL] (by simp)) (en rfl) e5 fun _ _ _ g=>F6 T g
  obtain⟨n6,w6,k6⟩:=eC (mJ:=aS) (wf:=U8) (T.sl (sH,uQ) (by simp)) (z uQ [ts,ti,tu] (by simp)) (en rfl) e6 fun _ _ _ g=>F7 T g
  obtain⟨n7,k7⟩:=lq T.ub e7
  obtain⟨n8,w8,k8⟩:=bM I.ku e8
  obtain⟨n9,w9,k9⟩:=eC (mJ:=bA) (wf:=U9) (T.sl (sJ,uR) (by simp)) (z uR [tL,tt] (by simp)) (en rfl) e9 fun _ _ _ g=>F8 T g
  obtain⟨n10,w10,k10⟩:=eC (mJ:=bU) (wf:=Va) (T.sl (sK,uS) (by simp)) (z uS [tL,t8] (by simp)) (en rfl) e10 fun _ _ _ g=>F9 T g
  exact⟨⟨n0,n1,n2,n3,n4,n5,n6,n7,n8,n9,n10⟩,⟨w0,w1,w2,w3,w4,w5,w6,w8,w9,w10⟩,k0.cat (k1.cat (k2.cat (k3.cat (k4.cat (k5.cat (k6.cat (k7.cat (k8.cat (k9.cat (k10))))))))))⟩
end
end Go.Am
end
section
set_option linter.unusedSimpArgs false
set_option linter.unusedVariables false
namespace Go.Proofs.YtdmmllcjgjmbbaaGreatDoor.N
open Go Go.Am
def rT (M:Mo):Mem:=[.ac [.fn (.func 87) [] [.mp 1 0]],.pc M.aI]
def haC (M:Mo) (g N i:Nat) (s e a:Int) (f:FuncId) (args:List AV) (m:Mem):Option (AV×Mem):=some (.au [sI .i64 e,sI .i64 a],[.ac [.fn (.func 87) [] [.mp 1 0]],.pc M.aI])
def D4 (M:Mo):Mem:=[.ac [.fn (.func 88) [] []],.pc M.aI]
def hbC (M:Mo) (g N i:Nat) (s e a:Int) (f:FuncId) (args:List AV) (m:Mem):Option (AV×Mem):=some (.au [sI .i64 e,sI .i64 a],[.ac [.fn (.func 88) [] []],.pc M.aI])
def D5 (M:Mo):Mem:=[.pc M.aI]
def hcC (M:Mo) (g N i:Nat) (s e a:Int) (f:FuncId) (args:List AV) (m:Mem):Option (AV×Mem):=some (.au [sI .i64 e,sI .i64 a],[.pc M.aI])
def zW (M:Mo):Mem:=[.pc M.aI,.ac [.fn (.func 88) [] []]]
def hdC (M:Mo) (g N i:Nat) (s e a:Int) (f:FuncId) (args:List AV) (m:Mem):Option (AV×Mem):=some (.au [sI .i64 e,sI .i64 a],[.pc M.aI,.ac [.fn (.func 88) [] []]])
def rU (M:Mo) (L L1:List ByteArray) (c0 c1 c2 c3:Int):Mem:=[.pc M.aI,.ac [.vm 3],.ac [.vm 4],.ob (.map [.int .i64 0,.int .i64 1,.int .i64 2,.int .i64 3] [0,1,2,3] 4) [sI .i64 c0,sI .i64 c1,sI .i64 c2,sI .i64 c3],.ob (.smap L) []]
def heC (M:Mo) (g N i:Nat) (s e a:Int) (L L1:List ByteArray) (c0 c1 c2 c3:Int) (f:FuncId) (args:List AV) (m:Mem):Option (AV×Mem):=some (.au [sI .i64 e,sI .i64 a],[.pc M.aI,.ac [.vm 3],.ac [.vm 4],.ob (.map [.int .i64 0,.int .i64 1,.int .i64 2,.int .i64 3] [0,1,2,3] 4) [sI .i64 c0,sI .i64 c1,sI .i64 c2,sI .i64 c3],.ob (.smap L1) []])
def Zp:bH:=aT aH aA [(90,0)] [] []
def acX:Sc:= .fin
def Vb (M:Mo) (g:Nat) (N:Nat) (s:Int):az:=
 (.at (ak acb env 90 0 [sI .i64 s,.fn (acm g) [] [.mp 0 0,.mp 1 0],.mp 2 0,sI .i64 (↑N:Int),sI .i64 0] ([.ac [.fn (acm 87) [] [.mp 1 0]],.pc M.aI,.pc [sP 0,sP 0,sP 0,sP 0]]) 2 29))
theorem QX (M:Mo) (g:Nat) (N:Nat) (s:Int):aG acb env Zp 1000000 90 ([sI sb s,sI sb (↑N:Int),AV.fn (acm g) [] [AV.mp 0 0,AV.mp 1 0]]) ([aU.ac [AV.fn (acm 87) [] [AV.mp 1 0]],aU.pc M.aI]) acX=Vb M g N s:=by kernel_rfl
def Zq (M:Mo) (g:Nat) (N:Nat) (i:Nat) (s e a:Int):bH:=aT (haC M g N i s e a) aA [(90,0)] [(90,0,1),(90,0,2)] []
def acY:Sc:= .fin
def Gc (M:Mo) (g:Nat) (N:Nat) (i:Nat) (s e a:Int):az:=
 (.test (decide ((↑i:Int)<(↑N:Int)))
 (.call ⟨g,[sI .i64 (↑i:Int),.mp 0 0,.mp 1 0],[.ac [.fn (acm 87) [] [.mp 1 0]],.pc M.aI],.au [sI .i64 e,sI .i64 a],[.ac [.fn (acm 87) [] [.mp 1 0]],.pc M.aI]⟩
 (.test (e != 0)
 (.out (.ret (.agg [sI .i64 e,sI .i64 s,sI .i64 (↑i:Int),sI .i64 a]) [.ac [.fn (acm 87) [] [.mp 1 0]],.pc M.aI]))
 (.at (ak acb env 90 0 [sI .i64 s,.fn (acm g) [] [.mp 0 0,.mp 1 0],.mp 2 0,sI .i64 (↑N:Int),sI .i64 (sb.wrap ((↑i:Int)+1))] ([.ac [.fn (acm 87) [] [.mp 1 0]],.pc M.aI,.pc [sP 0,sP 0,sP 0,sP 0]]) 2 29))))
 (.out (.ret (.agg [sI .i64 0,sI .i64 0,sI .i64 0,sI .i64 0]) [.ac [.fn (acm 87) [] [.mp 1 0]],.pc M.aI])))
theorem HL (M:Mo) (g:Nat) (N:Nat) (i:Nat) (s e a:Int):grow acb env (Zq M g N i s e a) 1000000 true (ak acb env 90 0 ([sI sb s,AV.fn (acm g) [] [AV.mp 0 0,AV.mp 1 0],AV.mp 2 0,sI sb (↑N:Int),sI sb (↑i:Int)]) ([aU.ac [AV.fn (acm 87) [] [AV.mp 1 0]],aU.pc M.aI]++[aU.pc [sP 0,sP 0,sP 0,sP 0]]) 2 29) acY atEnd=Gc M g N i s e a:=by kernel_rfl
def Zr:bH:=aT aH aA [(90,0)] [] []
def acZ:Sc:= .fin
def Vc (M:Mo) (g:Nat) (N:Nat) (s:Int):az:=
 (.at (ak acb env 90 0 [sI .i64 s,.fn (acm g) [] [.mp 0 0,.mp 1 0],.mp 2 0,sI .i64 (↑N:Int),sI .i64 0] ([.ac [.fn (acm 88) [] []],.pc M.aI,.pc [sP 0,sP 0,sP 0,sP 0]]) 2 29))
theorem QY (M:Mo) (g:Nat) (N:Nat) (s:Int):aG acb env Zr 1000000 90 ([sI sb s,sI sb (↑N:Int),AV.fn (acm g) [] [AV.mp 0 0,AV.mp 1 0]]) ([aU.ac [AV.fn (acm 88) [] []],aU.pc M.aI]) acZ=Vc M g N s:=by kernel_rfl
def Zs (M:Mo) (g:Nat) (N:Nat) (i:Nat) (s e a:Int):bH:=aT (hbC M g N i s e a) aA [(90,0)] [(90,0,1),(90,0,2)] []
def ac0:Sc:= .fin
def Gd (M:Mo) (g:Nat) (N:Nat) (i:Nat) (s e a:Int):az:=
 (.test (decide ((↑i:Int)<(↑N:Int)))
 (.call ⟨g,[sI .i64 (↑i:Int),.mp 0 0,.mp 1 0],[.ac [.fn (acm 88) [] []],.pc M.aI],.au [sI .i64 e,sI .i64 a],[.ac [.fn (acm 88) [] []],.pc M.aI]⟩
 (.test (e != 0)
 (.out (.ret (.agg [sI .i64 e,sI .i64 s,sI .i64 (↑i:Int),sI .i64 a]) [.ac [.fn (acm 88) [] []],.pc M.aI]))
 (.at (ak acb env 90 0 [sI .i64 s,.fn (acm g) [] [.mp 0 0,.mp 1 0],.mp 2 0,sI .i64 (↑N:Int),sI .i64 (sb.wrap ((↑i:Int)+1))] ([.ac [.fn (acm 88) [] []],.pc M.aI,.pc [sP 0,sP 0,sP 0,sP 0]]) 2 29))))
 (.out (.ret (.agg [sI .i64 0,sI .i64 0,sI .i64 0,sI .i64 0]) [.ac [.fn (acm 88) [] []],.pc M.aI])))
theorem HM (M:Mo) (g:Nat) (N:Nat) (i:Nat) (s e a:Int):grow acb env (Zs M g N i s e a) 1000000 true (ak acb env 90 0 ([sI sb s,AV.fn (acm g) [] [AV.mp 0 0,AV.mp 1 0],AV.mp 2 0,sI sb (↑N:Int),sI sb (↑i:Int)]) ([aU.ac [AV.fn (acm 88) [] []],aU.pc M.aI]++[aU.pc [sP 0,sP 0,sP 0,sP 0]]) 2 29) ac0 atEnd=Gd M g N i s e a:=by kernel_rfl
def Zt:bH:=aT aH aA [(90,0)] [] []
def ac1:Sc:= .fin
def Vd (M:Mo) (g:Nat) (N:Nat) (s:Int):az:=
 (.at (ak acb env 90 0 [sI .i64 s,.fn (acm g) [] [.mp 0 0],.mp 1 0,sI .i64 (↑N:Int),sI .i64 0] ([.pc M.aI,.pc [sP 0,sP 0,sP 0,sP 0]]) 1 29))
theorem QZ (M:Mo) (g:Nat) (N:Nat) (s:Int):aG acb env Zt 1000000 90 ([sI sb s,sI sb (↑N:Int),AV.fn (acm g) [] [AV.mp 0 0]]) ([aU.pc M.aI]) ac1=Vd M g N s:=by kernel_rfl
def Zu (M:Mo) (g:Nat) (N:Nat) (i:Nat) (s e a:Int):bH:=aT (hcC M g N i s e a) aA [(90,0)] [(90,0,1),(90,0,2)] []
def ac2:Sc:= .fin
def Ge (M:Mo) (g:Nat) (N:Nat) (i:Nat) (s e a:Int):az:=
 (.test (decide ((↑i:Int)<(↑N:Int)))
 (.call ⟨g,[sI .i64 (↑i:Int),.mp 0 0],[.pc M.aI],.au [sI .i64 e,sI .i64 a],[.pc M.aI]⟩
 (.test (e != 0)
 (.out (.ret (.agg [sI .i64 e,sI .i64 s,sI .i64 (↑i:Int),sI .i64 a]) [.pc M.aI]))
 (.at (ak acb env 90 0 [sI .i64 s,.fn (acm g) [] [.mp 0 0],.mp 1 0,sI .i64 (↑N:Int),sI .i64 (sb.wrap ((↑i:Int)+1))] ([.pc M.aI,.pc [sP 0,sP 0,sP 0,sP 0]]) 1 29))))
 (.out (.ret (.agg [sI .i64 0,sI .i64 0,sI .i64 0,sI .i64 0]) [.pc M.aI])))
theorem HN (M:Mo) (g:Nat) (N:Nat) (i:Nat) (s e a:Int):grow acb env (Zu M g N i s e a) 1000000 true (ak acb env 90 0 ([sI sb s,AV.fn (acm g) [] [AV.mp 0 0],AV.mp 1 0,sI sb (↑N:Int),sI sb (↑i:Int)]) ([aU.pc M.aI]++[aU.pc [sP 0,sP 0,sP 0,sP 0]]) 1 29) ac2 atEnd=Ge M g N i s e a:=by kernel_rfl
def Zv:bH:=aT aH aA [(90,0)] [] []
def ac3:Sc:= .fin
def Ve (M:Mo) (g:Nat) (N:Nat) (s:Int):az:=
 (.at (ak acb env 90 0 [sI .i64 s,.fn (acm g) [] [.mp 0 0,.mp 1 0],.mp 2 0,sI .i64 (↑N:Int),sI .i64 0] ([.pc M.aI,.ac [.fn (acm 88) [] []],.pc [sP 0,sP 0,sP 0,sP 0]]) 2 29))
theorem Q0 (M:Mo) (g:Nat) (N:Nat) (s:Int):aG acb env Zv 1000000 90 ([sI sb s,sI sb (↑N:Int),AV.fn (acm g) [] [AV.mp 0 0,AV.mp 1 0]]) ([aU.pc M.aI,aU.ac [AV.fn (acm 88) [] []]]) ac3=Ve M g N s:=by kernel_rfl
def Zw (M:Mo) (g:Nat) (N:Nat) (i:Nat) (s e a:Int):bH:=aT (hdC M g N i s e a) aA [(90,0)] [(90,0,1),(90,0,2)] []
def ac4:Sc:= .fin
def Gf (M:Mo) (g:Nat) (N:Nat) (i:Nat) (s e a:Int):az:=
 (.test (decide ((↑i:Int)<(↑N:Int)))
 (.call ⟨g,[sI .i64 (↑i:Int),.mp 0 0,.mp 1 0],[.pc M.aI,.ac [.fn (acm 88) [] []]],.au [sI .i64 e,sI .i64 a],[.pc M.aI,.ac [.fn (acm 88) [] []]]⟩
 (.test (e != 0)
 (.out (.ret (.agg [sI .i64 e,sI .i64 s,sI .i64 (↑i:Int),sI .i64 a]) [.pc M.aI,.ac [.fn (acm 88) [] []]]))
 (.at (ak acb env 90 0 [sI .i64 s,.fn (acm g) [] [.mp 0 0,.mp 1 0],.mp 2 0,sI .i64 (↑N:Int),sI .i64 (sb.wrap ((↑i:Int)+1))] ([.pc M.aI,.ac [.fn (acm 88) [] []],.pc [sP 0,sP 0,sP 0,sP 0]]) 2 29))))
 (.out (.ret (.agg [sI .i64 0,sI .i64 0,sI .i64 0,sI .i64 0]) [.pc M.aI,.ac [.fn (acm 88) [] []]])))
theorem HO (M:Mo) (g:Nat) (N:Nat) (i:Nat) (s e a:Int):grow acb env (Zw M g N i s e a) 1000000 true (ak acb env 90 0 ([sI sb s,AV.fn (acm g) [] [AV.mp 0 0,AV.mp 1 0],AV.mp 2 0,sI sb (↑N:Int),sI sb (↑i:Int)]) ([aU.pc M.aI,aU.ac [AV.fn (acm 88) [] []]]++[aU.pc [sP 0,sP 0,sP 0,sP 0]]) 2 29) ac4 atEnd=Gf M g N i s e a:=by kernel_rfl
def Zx:bH:=aT aH aA [(90,0)] [] []
def ac5:Sc:= .fin
def Vf (M:Mo) (g:Nat) (N:Nat) (s:Int) (L:List ByteArray) (L1:List ByteArray) (c0 c1 c2 c3:Int):az:=
 (.at (ak acb env 90 0 [sI .i64 s,.fn (acm g) [] [.mp 0 0,.mp 1 0,.mp 2 0],.mp 5 0,sI .i64 (↑N:Int),sI .i64 0] ([.pc M.aI,.ac [.vm 3],.ac [.vm 4],.ob (aD.map [sT sb 0,sT sb 1,sT sb 2,sT sb 3] [0,1,2,3] 4) [sI .i64 c0,sI .i64 c1,sI .i64 c2,sI .i64 c3],.ob (aD.smap L) [],.pc [sP 0,sP 0,sP 0,sP 0]]) 5 29))
theorem Q1 (M:Mo) (g:Nat) (N:Nat) (s:Int) (L:List ByteArray) (L1:List ByteArray) (c0 c1 c2 c3:Int):aG acb env Zx 1000000 90 ([sI sb s,sI sb (↑N:Int),AV.fn (acm g) [] [AV.mp 0 0,AV.mp 1 0,AV.mp 2 0]]) ([aU.pc M.aI,aU.ac [AV.vm 3],aU.ac [AV.vm 4],aU.ob (aD.map [sT sb 0,sT sb 1,sT sb 2,sT sb 3] [0,1,2,3] 4) [sI sb c0,sI sb c1,sI sb c2,sI sb c3],aU.ob (aD.smap L) []]) ac5=Vf M g N s L L1 c0 c1 c2 c3:=by kernel_rfl
def Zy (M:Mo) (g:Nat) (N:Nat) (i:Nat) (s e a:Int) (L:List ByteArray) (L1:List ByteArray) (c0 c1 c2 c3:Int):bH:=aT (heC M g N i s e a L L1 c0 c1 c2 c3) aA [(90,0)] [(90,0,1),(90,0,2)] []
def ac6:Sc:= .fin
def Ct (M:Mo) (g:Nat) (N:Nat) (i:Nat) (s e a:Int) (L:List ByteArray) (L1:List ByteArray) (c0 c1 c2 c3:Int):az:=
 (.test (decide ((↑i:Int)<(↑N:Int)))
 (.call ⟨g,[sI .i64 (↑i:Int),.mp 0 0,.mp 1 0,.mp 2 0],[.pc M.aI,.ac [.vm 3],.ac [.vm 4],.ob (aD.map [sT sb 0,sT sb 1,sT sb 2,sT sb 3] [0,1,2,3] 4) [sI .i64 c0,sI .i64 c1,sI .i64 c2,sI .i64 c3],.ob (aD.smap L) []],.au [sI .i64 e,sI .i64 a],[.pc M.aI,.ac [.vm 3],.ac [.vm 4],.ob (aD.map [sT sb 0,sT sb 1,sT sb 2,sT sb 3] [0,1,2,3] 4) [sI .i64 c0,sI .i64 c1,sI .i64 c2,sI .i64 c3],.ob (aD.smap L1) []]⟩
 (.test (e != 0)
 (.out (.ret (.agg [sI .i64 e,sI .i64 s,sI .i64 (↑i:Int),sI .i64 a]) [.pc M.aI,.ac [.vm 3],.ac [.vm 4],.ob (aD.map [sT sb 0,sT sb 1,sT sb 2,sT sb 3] [0,1,2,3] 4) [sI .i64 c0,sI .i64 c1,sI .i64 c2,sI .i64 c3],.ob (aD.smap L1) []]))
 (.at (ak acb env 90 0 [sI .i64 s,.fn (acm g) [] [.mp 0 0,.mp 1 0,.mp 2 0],.mp 5 0,sI .i64 (↑N:Int),sI .i64 (sb.wrap ((↑i:Int)+1))] ([.pc M.aI,.ac [.vm 3],.ac [.vm 4],.ob (aD.map [sT sb 0,sT sb 1,sT sb 2,sT sb 3] [0,1,2,3] 4) [sI .i64 c0,sI .i64 c1,sI .i64 c2,sI .i64 c3],.ob (aD.smap L1) [],.pc [sP 0,sP 0,sP 0,sP 0]]) 5 29))))
 (.out (.ret (.agg [sI .i64 0,sI .i64 0,sI .i64 0,sI .i64 0]) [.pc M.aI,.ac [.vm 3],.ac [.vm 4],.ob (aD.map [sT sb 0,sT sb 1,sT sb 2,sT sb 3] [0,1,2,3] 4) [sI .i64 c0,sI .i64 c1,sI .i64 c2,sI .i64 c3],.ob (aD.smap L) []])))
theorem Cu (M:Mo) (g:Nat) (N:Nat) (i:Nat) (s e a:Int) (L:List ByteArray) (L1:List ByteArray) (c0 c1 c2 c3:Int):grow acb env (Zy M g N i s e a L L1 c0 c1 c2 c3) 1000000 true (ak acb env 90 0 ([sI sb s,AV.fn (acm g) [] [AV.mp 0 0,AV.mp 1 0,AV.mp 2 0],AV.mp 5 0,sI sb (↑N:Int),sI sb (↑i:Int)]) ([aU.pc M.aI,aU.ac [AV.vm 3],aU.ac [AV.vm 4],aU.ob (aD.map [sT sb 0,sT sb 1,sT sb 2,sT sb 3] [0,1,2,3] 4) [sI sb c0,sI sb c1,sI sb c2,sI sb c3],aU.ob (aD.smap L) []]++[aU.pc [sP 0,sP 0,sP 0,sP 0]]) 5 29) ac6 atEnd=Ct M g N i s e a L L1 c0 c1 c2 c3:=by kernel_rfl
def jq (s:Int) (e a:Nat→Int):Nat→Nat→AV
 |0,_=> .agg [sI .i64 0,sI .i64 0,sI .i64 0,sI .i64 0]
 |r+1,i=>if e i≠0 then .agg [sI .i64 (e i),sI .i64 s,sI .i64 i,sI .i64 (a i)] else jq s e a r (i+1)
theorem HP {M:Mo} {g N:Nat} (hN:N≤1000000000) (s:Int) (e a:Nat→Int) (h : ∀i,i<N→an acb env g [sI .i64 i,.mp 0 0,.mp 1 0] (rT M) (.au [sI .i64 (e i),sI .i64 (a i)]) (rT M)) :
  an acb env 90 [sI .i64 s,sI .i64 N,.fn (.func g) [] [.mp 0 0,.mp 1 0]] (rT M) (jq s e a N 0) (rT M):=by
 have loop : ∀r i:Nat,i+r=N→cO acb env (ak acb env 90 0 [sI .i64 s,.fn (.func g) [] [.mp 0 0,.mp 1 0],.mp 2 0,sI .i64 N,sI .i64 i] (rT M++[.pc [sP 0,sP 0,sP 0,sP 0]]) 2 29) (.ret (jq s e a r i) (rT M)):=by
  intro r
  induction r with
  |zero=>
   intro i hi
   obtain rfl:i=N:=by omega
   have hd:decide ((i:Int)<(i:Int))=false:=decide_eq_false (by omega)
   refine aj aM (HL M g i i s 0 0) ?_
   simp only[Gc,az.ok,hd]
   exact⟨fun q=>(by cases q),fun _=>(by first | exact adV | rfl)⟩
  |succ r ih=>
   intro i hi
   have hd:decide ((i:Int)<(N:Int))=true:=decide_eq_true (by omega)
   have w:sb.wrap ((i:Int)+1)=((i+1:Nat):Int):=by rw[aN (by omega) (by omega)];rfl
   have k:=ih (i+1) (by omega)
   refine aj aM (HL M g N i s (e i) (a i)) ?_
   simp only[Gc,az.ok,hd,w]
   refine⟨fun _=>⟨h i (by omega),fun q=> ?_,fun q=> ?_⟩,fun q=>(by cases q)⟩
   · rw[jq,if_pos (by simpa using q)];rfl
   · rw[jq,if_neg (by simpa using q)];exact k
 exact af aM (QX M g N s) (loop N 0 (by omega))
theorem Q2 {M:Mo} {g N:Nat} (hN:N≤1000000000) (s:Int) (e a:Nat→Int) (h : ∀i,i<N→an acb env g [sI .i64 i,.mp 0 0,.mp 1 0] (D4 M) (.au [sI .i64 (e i),sI .i64 (a i)]) (D4 M)) :
  an acb env 90 [sI .i64 s,sI .i64 N,.fn (.func g) [] [.mp 0 0,.mp 1 0]] (D4 M) (jq s e a N 0) (D4 M):=by
 have loop : ∀r i:Nat,i+r=N→cO acb env (ak acb env 90 0 [sI .i64 s,.fn (.func g) [] [.mp 0 0,.mp 1 0],.mp 2 0,sI .i64 N,sI .i64 i] (D4 M++[.pc [sP 0,sP 0,sP 0,sP 0]]) 2 29) (.ret (jq s e a r i) (D4 M)):=by
  intro r
  induction r with
  |zero=>
   intro i hi
   obtain rfl:i=N:=by omega
   have hd:decide ((i:Int)<(i:Int))=false:=decide_eq_false (by omega)
   refine aj aM (HM M g i i s 0 0) ?_
   simp only[Gd,az.ok,hd]
   exact⟨fun q=>(by cases q),fun _=>(by first | exact adV | rfl)⟩
  |succ r ih=>
   intro i hi
   have hd:decide ((i:Int)<(N:Int))=true:=decide_eq_true (by omega)
   have w:sb.wrap ((i:Int)+1)=((i+1:Nat):Int):=by rw[aN (by omega) (by omega)];rfl
   have k:=ih (i+1) (by omega)
   refine aj aM (HM M g N i s (e i) (a i)) ?_
   simp only[Gd,az.ok,hd,w]
   refine⟨fun _=>⟨h i (by omega),fun q=> ?_,fun q=> ?_⟩,fun q=>(by cases q)⟩
   · rw[jq,if_pos (by simpa using q)];rfl
   · rw[jq,if_neg (by simpa using q)];exact k
 exact af aM (QY M g N s) (loop N 0 (by omega))
theorem HQ {M:Mo} {g N:Nat} (hN:N≤1000000000) (s:Int) (e a:Nat→Int) (h : ∀i,i<N→an acb env g [sI .i64 i,.mp 0 0] (D5 M) (.au [sI .i64 (e i),sI .i64 (a i)]) (D5 M)) :
  an acb env 90 [sI .i64 s,sI .i64 N,.fn (.func g) [] [.mp 0 0]] (D5 M) (jq s e a N 0) (D5 M):=by
 have loop : ∀r i:Nat,i+r=N→cO acb env (ak acb env 90 0 [sI .i64 s,.fn (.func g) [] [.mp 0 0],.mp 1 0,sI .i64 N,sI .i64 i] (D5 M++[.pc [sP 0,sP 0,sP 0,sP 0]]) 1 29) (.ret (jq s e a r i) (D5 M)):=by
  intro r
  induction r with
  |zero=>
   intro i hi
   obtain rfl:i=N:=by omega
   have hd:decide ((i:Int)<(i:Int))=false:=decide_eq_false (by omega)
   refine aj aM (HN M g i i s 0 0) ?_
   simp only[Ge,az.ok,hd]
   exact⟨fun q=>(by cases q),fun _=>(by first | exact adV | rfl)⟩
  |succ r ih=>
   intro i hi
   have hd:decide ((i:Int)<(N:Int))=true:=decide_eq_true (by omega)
   have w:sb.wrap ((i:Int)+1)=((i+1:Nat):Int):=by rw[aN (by omega) (by omega)];rfl
   have k:=ih (i+1) (by omega)
   refine aj aM (HN M g N i s (e i) (a i)) ?_
   simp only[Ge,az.ok,hd,w]
   refine⟨fun _=>⟨h i (by omega),fun q=> ?_,fun q=> ?_⟩,fun q=>(by cases q)⟩
   · rw[jq,if_pos (by simpa using q)];rfl
   · rw[jq,if_neg (by simpa using q)];exact k
 exact af aM (QZ M g N s) (loop N 0 (by omega))
theorem HR {M:Mo} {g N:Nat} (hN:N≤1000000000) (s:Int) (e a:Nat→Int) (h : ∀i,i<N→an acb env g [sI .i64 i,.mp 0 0,.mp 1 0] (zW M) (.au [sI .i64 (e i),sI .i64 (a i)]) (zW M)) :
  an acb env 90 [sI .i64 s,sI .i64 N,.fn (.func g) [] [.mp 0 0,.mp 1 0]] (zW M) (jq s e a N 0) (zW M):=by
 have loop : ∀r i:Nat,i+r=N→cO acb env (ak acb env 90 0 [sI .i64 s,.fn (.func g) [] [.mp 0 0,.mp 1 0],.mp 2 0,sI .i64 N,sI .i64 i] (zW M++[.pc [sP 0,sP 0,sP 0,sP 0]]) 2 29) (.ret (jq s e a r i) (zW M)):=by
  intro r
  induction r with
  |zero=>
   intro i hi
   obtain rfl:i=N:=by omega
   have hd:decide ((i:Int)<(i:Int))=false:=decide_eq_false (by omega)
   refine aj aM (HO M g i i s 0 0) ?_
   simp only[Gf,az.ok,hd]
   exact⟨fun q=>(by cases q),fun _=>(by first | exact adV | rfl)⟩
  |succ r ih=>
   intro i hi
   have hd:decide ((i:Int)<(N:Int))=true:=decide_eq_true (by omega)
   have w:sb.wrap ((i:Int)+1)=((i+1:Nat):Int):=by rw[aN (by omega) (by omega)];rfl
   have k:=ih (i+1) (by omega)
   refine aj aM (HO M g N i s (e i) (a i)) ?_
   simp only[Gf,az.ok,hd,w]
   refine⟨fun _=>⟨h i (by omega),fun q=> ?_,fun q=> ?_⟩,fun q=>(by cases q)⟩
   · rw[jq,if_pos (by simpa using q)];rfl
   · rw[jq,if_neg (by simpa using q)];exact k
 exact af aM (Q0 M g N s) (loop N 0 (by omega))
theorem Q3 {M:Mo} {g N:Nat} (hN:N≤1000000000) (s:Int) (e a:Nat→Int) (L:Nat→List ByteArray) (c0 c1 c2 c3:Int) (h : ∀i,i<N→an acb env g [sI .i64 i,.mp 0 0,.mp 1 0,.mp 2 0] (rU M (L i) [] c0 c1 c2 c3) (.au [sI .i64 (e i),sI .i64 (a i)]) (rU M (L (i+1)) [] c0 c1 c2 c3)) :
  ∃L',an acb env 90 [sI .i64 s,sI .i64 N,.fn (.func g) [] [.mp 0 0,.mp 1 0,.mp 2 0]] (rU M (L 0) [] c0 c1 c2 c3) (jq s e a N 0) (rU M L' [] c0 c1 c2 c3):=by
 have loop : ∀r i:Nat,i+r=N → ∃L',cO acb env (ak acb env 90 0 [sI .i64 s,.fn (.func g) [] [.mp 0 0,.mp 1 0,.mp 2 0],.mp 5 0,sI .i64 N,sI .i64 i] (rU M (L i) [] c0 c1 c2 c3++[.pc [sP 0,sP 0,sP 0,sP 0]]) 5 29) (.ret (jq s e a r i) (rU M L' [] c0 c1 c2 c3)):=by
  intro r
  induction r with
  |zero=>
   intro i hi
   obtain rfl:i=N:=by omega
   have hd:decide ((i:Int)<(i:Int))=false:=decide_eq_false (by omega)
   refine⟨L i,aj aM (Cu M g i i s 0 0 (L i) [] c0 c1 c2 c3) ?_⟩
   simp only[Ct,az.ok,hd]
   exact⟨fun q=>(by cases q),fun _=>(by first | exact adV | rfl)⟩
  |succ r ih=>
   intro i hi
   have hd:decide ((i:Int)<(N:Int))=true:=decide_eq_true (by omega)
   have w:sb.wrap ((i:Int)+1)=((i+1:Nat):Int):=by rw[aN (by omega) (by omega)];rfl
   obtain⟨L',k⟩:=ih (i+1) (by omega)
   by_cases z:e i=0
   · refine⟨L',aj aM (Cu M g N i s (e i) (a i) (L i) (L (i+1)) c0 c1 c2 c3) ?_⟩
     simp only[Ct,az.ok,hd,w]
     refine⟨fun _=>⟨h i (by omega),fun q=>absurd z (by simpa using q),fun q=> ?_⟩,fun q=>(by cases q)⟩
     rw[jq,if_neg (by simpa using q)];exact k
   · refine⟨L (i+1),aj aM (Cu M g N i s (e i) (a i) (L i) (L (i+1)) c0 c1 c2 c3) ?_⟩
     simp only[Ct,az.ok,hd,w]
     refine⟨fun _=>⟨h i (by omega),fun q=> ?_,fun q=>absurd (by simpa using q) z⟩,fun q=>(by cases q)⟩
     rw[jq,if_pos (by simpa using q)];rfl
 obtain⟨L',k⟩:=loop N 0 (by omega)
 exact⟨L',af aM (Q1 M g N s (L 0) [] c0 c1 c2 c3) k⟩
end Go.Proofs.YtdmmllcjgjmbbaaGreatDoor.N
end
