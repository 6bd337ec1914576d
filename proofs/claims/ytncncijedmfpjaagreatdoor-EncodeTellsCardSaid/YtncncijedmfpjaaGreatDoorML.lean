import Derived.Test.YtncncijedmfpjaaGreatDoorMK
import Derived.Test.YtncncijedmfpjaaGreatDoorMI
import Derived.Test.YtncncijedmfpjaaGreatDoorMH
open Go.Lit renaming int→ajG
open List renaming length_append→dC,drop_zero→aeI,drop_succ_cons→ajH,take_succ_cons→ajJ,getElem?_eq_some_iff→dT,take_zero→ajL,flatMap→ajO,getD_eq_getElem?_getD→de,nil_append→Hm,flatMap_cons→aju,length_nil→aeK,length_cons→ml,map→aeM
open Nat renaming le_of_ble_eq_true→fg,ble_eq→ajp,add_mul→pj,zero_add→pn
open Go.DataW renaming trod→aec
open Go.Proofs.Tryz renaming prog→ae
open Go.IntKind renaming i64→re,u32→aeG
open Option renaming none→ae1,some→ae2
open Int renaming toNat_natCast→afm
open Bool renaming and_eq_true→di,and_true→ajQ
noncomputable section
section
namespace Go.Am
open Go.RowKit
structure Ty where
 p:Int
 r:Int
structure Im where
 mo:ByteArray
 nm:ByteArray
 ty:Int
structure Fu where
 ty:Int
 lo:Int
 l:List Ins
structure Li where
 mn:Int
 mx:Int
 cap:Bool
structure Gl where
 mu:Bool
 l:List Ins
structure Ex where
 nm:ByteArray
 kind:Int
 ix:Int
structure El where
 l:List Ins
 fs:List Int
structure Da where
 l:List Ins
 bs:List Int
abbrev pL (l:List Ins):PV:= .ps l.length 8 (aj l)
abbrev pT (k:IntKind) (l:List Int):PV:= .ps l.length 1 (bN k l)
abbrev bK (x:Ty):List PV:=[.sc (.int .i64 x.p),.sc (.int .i64 x.r)]
abbrev bh (x:Im):List PV:=[.sc (.string x.mo),.sc (.string x.nm),.sc (.int .i64 x.ty)]
abbrev aG (x:Fu):List PV:=[.sc (.int .i64 x.ty),.sc (.int .i64 x.lo),pL x.l]
abbrev aF (x:Li):List PV:=[.sc (.int .u32 x.mn),.sc (.int .u32 x.mx),.sc (.bool x.cap)]
abbrev bn (x:Gl):List PV:=[.sc (.bool x.mu),pL x.l]
abbrev bu (x:Ex):List PV:=[.sc (.string x.nm),.sc (.int .i64 x.kind),.sc (.int .u32 x.ix)]
abbrev aN (x:El):List PV:=[pL x.l,pT .u32 x.fs]
abbrev aZ (x:Da):List PV:=[pL x.l,pT .u8 x.bs]
def wfT (k:IntKind) (l:List Int):Prop:=l.length≤maxLen ∧ ∀t∈l,(ajG k t).wf=true
def DE (l:List Ins):Prop:=l.length≤maxLen∧qn l
def aan (x:Ty):Prop:=(ajG .i64 x.p).wf=true∧(ajG .i64 x.r).wf=true
def aao (x:Im):Prop:=x.mo.size≤maxLen∧x.nm.size≤maxLen∧(ajG .i64 x.ty).wf=true
def aap (x:Fu):Prop:=(ajG .i64 x.ty).wf=true∧(ajG .i64 x.lo).wf=true∧DE x.l
def uj (x:Li):Prop:=(ajG .u32 x.mn).wf=true∧(ajG .u32 x.mx).wf=true
def aaq (x:Gl):Prop:=DE x.l
def aar (x:Ex):Prop:=x.nm.size≤maxLen∧(ajG .i64 x.kind).wf=true∧(ajG .u32 x.ix).wf=true
def aas (x:El):Prop:=DE x.l∧wfT .u32 x.fs
def aat (x:Da):Prop:=DE x.l∧wfT .u8 x.bs
structure Mo where
 tys:List Ty
 aX:List Im
 fns:List Fu
 b8:List Li
 b9:List Li
 gls:List Gl
 exs:List Ex
 st:Bool
 sn:Int
 els:List El
 bp:List Da
def qu {α:Type} (w:α→Prop) (l:List α):Prop:=l.length≤maxLen ∧ ∀x∈l,w x
structure Mo.wf (M:Mo):Prop where
 tys:qu aan M.tys
 aX:qu aao M.aX
 fns:qu aap M.fns
 b8:qu uj M.b8
 b9:qu uj M.b9
 gls:qu aaq M.gls
 exs:qu aar M.exs
 sn:(ajG .u32 M.sn).wf=true
 els:qu aas M.els
 bp:qu aat M.bp
abbrev Mo.aJ (M:Mo):List PV:=[.ps M.tys.length 2 (M.tys.flatMap bK),.ps M.aX.length 3 (M.aX.flatMap bh),.ps M.fns.length 3 (M.fns.flatMap aG),.ps M.b8.length 3 (M.b8.flatMap aF),.ps M.b9.length 3 (M.b9.flatMap aF),
 .ps M.gls.length 2 (M.gls.flatMap bn),.ps M.exs.length 3 (M.exs.flatMap bu),.sc (.bool M.st),.sc (.int .u32 M.sn),.ps M.els.length 2 (M.els.flatMap aN),.ps M.bp.length 2 (M.bp.flatMap aZ)]
theorem aW {α:Type} {z:Nat} {enc:α→List PV} (hz : ∀x,(enc x).length=z) : ∀{l:List α} {k:Nat} {x:α},l[k]? = some x → ∀j,j<z→(l.flatMap enc).getD (k*z+j) .bz=(enc x).getD j .bz
 |y::r,0,x,h,j,hj=>by
  simp only[List.getElem?_cons_zero,Option.some.injEq] at h
  subst h
  rw[aju,Nat.zero_mul,pn,de,de,List.getElem?_append_left (by rw[hz];exact hj)]
 |y::r,k+1,x,h,j,hj=>by
  simp only[List.getElem?_cons_succ] at h
  have ih:=aW hz h j hj
  rw[aju,de,List.getElem?_append_right (by rw[hz,pj];omega),hz,show(k+1)*z+j-z=k*z+j by rw[pj];omega,←de]
  exact ih
theorem FR {α:Type} {z:Nat} {enc:α→List PV} (hz : ∀x,(enc x).length=z) : ∀l:List α,(l.flatMap enc).length=l.length*z
 |[]=>by simp
 |x::r=>by rw[aju,dC,hz,FR hz r,ml,pj];omega
section
variable {H:Type} {enc:TypeId×Value→H} {P:Program} {w:World} {base:Nat} {spare:Nat→Bool} {held:Bool}
theorem dN {t:TypeId} {ts:List TypeId} {fs:Array Field} (ht:P.underlying t=some (.struct fs)) (hz:P.cellsOf t=ts.length) (hf:(fs.toList.map fun f=>(f.offset,f.type))=ts.zipIdx.map fun q=>(q.2,q.1))
  (h1 : ∀t∈ts,P.cellsOf t=1) {fuel:Nat} {cs:List Value} {x:DataW H×List MemPlace} (h:aec enc P w base spare held fuel t cs=some x) :
  ∃m,cs.length=ts.length ∧ ∀(i:Nat) (u:TypeId),ts[i]? = some u → ∃y,aec enc P w base spare held m u ((cs.drop i).take 1)=some y:=by
 obtain⟨m,rfl,hlen,hg⟩:=jF ht h
 rw[hz] at hlen
 refine⟨m,hlen,fun i u hi=> ?_⟩
 obtain⟨f,q1,q2,q3⟩:=Zs (fs:=fs) (i:=i) (o:=i) (t:=u) (by rw[hf,List.getElem?_map,List.getElem?_zipIdx,hi];simp)
 obtain⟨y,hy⟩:=hg i f q1
 rw[q2,q3,h1 u (List.mem_of_getElem? hi)] at hy
 exact⟨y,hy⟩
structure HL (P:Program) (tM sX sY sZ nM td th tj tq uY uZ vQ AB sw va vc ve vf tL tI ti tu tn tt ts tb t8 tk:TypeId):Prop where
 ins : ∃fs,Zr P tL tI ti tu tn tt fs
 us:P.underlying ts=some .string
 ub:P.underlying tb=some .bool
 u8:P.underlying t8=some (.slice tk)
 uk:P.underlying tk=some (.int .u8)
 one:[ti,tu,tL,tt,ts,tb,t8,tk,sX,sY,sZ,nM,td,th,tj,tq].all (fun t=>P.cellsOf t==1)=true
 sl : ∀q∈[(sX,uY),(sY,uZ),(sZ,vQ),(nM,sw),(td,va),(th,vc),(tj,ve),(tq,vf)],P.underlying q.1=some (.slice q.2)
 st : ∀q∈[(tM,[sX,sY,sZ,nM,nM,td,th,tb,tu,tj,tq]),(uY,[ti,ti]),(uZ,[ts,ts,ti]),(AB,[ti,tL]),(sw,[tu,tu,tb]),(va,[tb,tL]),(vc,[ts,ti,tu]),(ve,[tL,tt]),(vf,[tL,t8])],
  ∃fs,P.underlying q.1=some (.struct fs)∧P.cellsOf q.1=q.2.length∧(fs.toList.map fun f=>(f.offset,f.type))=q.2.zipIdx.map fun q=>(q.2,q.1)
 fu : ∃fs,P.underlying vQ=some (.struct fs)∧P.cellsOf vQ=3∧(fs.toList.map fun f=>(f.offset,f.type))=[(0,ti),(1,AB)]
theorem oM {tt tu:TypeId} {k:IntKind} (ht:P.underlying tt=some (.slice tu)) (hu:P.underlying tu=some (.int k)) (h1:P.cellsOf tu=1) {fuel:Nat} {cs:List Value} {x:DataW H×List MemPlace}
  (h:aec enc P w base spare held fuel tt cs=some x) : ∃l:List Int,wfT k l∧cq w [pT k l] cs:=by
 obtain⟨l,w1,w2,k1⟩:=qm ht hu h1 h
 exact⟨l,⟨w1,w2⟩,k1⟩
end
section
variable {H:Type} {enc:TypeId×Value→H} {P:Program} {w:World} {base:Nat} {spare:Nat→Bool} {held:Bool} {tM sX sY sZ nM td th tj tq uY uZ vQ AB sw va vc ve vf tL tI ti tu tn tt ts tb t8 tk:TypeId}
theorem HL.c1 (T:HL P tM sX sY sZ nM td th tj tq uY uZ vQ AB sw va vc ve vf tL tI ti tu tn tt ts tb t8 tk) {t:TypeId} (h:t∈[ti,tu,tL,tt,ts,tb,t8,tk,sX,sY,sZ,nM,td,th,tj,tq]):P.cellsOf t=1:=by
 simpa using List.all_eq_true.1 T.one t h
theorem AD (T:HL P tM sX sY sZ nM td th tj tq uY uZ vQ AB sw va vc ve vf tL tI ti tu tn tt ts tb t8 tk) {fuel:Nat} {cs:List Value} {x:DataW H×List MemPlace} (h:aec enc P w base spare held fuel tt cs=some x) : ∃l:List Int,wfT .u32 l∧cq w [pT .u32 l] cs:=by
 obtain⟨fs,I⟩:=T.ins
 exact oM I.kt I.ku (T.c1 (by simp)) h
theorem AE (T:HL P tM sX sY sZ nM td th tj tq uY uZ vQ AB sw va vc ve vf tL tI ti tu tn tt ts tb t8 tk) {fuel:Nat} {cs:List Value} {x:DataW H×List MemPlace} (h:aec enc P w base spare held fuel t8 cs=some x) : ∃l:List Int,wfT .u8 l∧cq w [pT .u8 l] cs:=
 oM T.u8 T.uk (T.c1 (by simp)) h
theorem jQ (T:HL P tM sX sY sZ nM td th tj tq uY uZ vQ AB sw va vc ve vf tL tI ti tu tn tt ts tb t8 tk) {fuel:Nat} {cs:List Value} {x:DataW H×List MemPlace} (h:aec enc P w base spare held fuel tL cs=some x) : ∃l:List Ins,DE l∧cq w [pL l] cs:=by
 obtain⟨fs,I⟩:=T.ins
 exact Fv I fuel cs x h
theorem IS (T:HL P tM sX sY sZ nM td th tj tq uY uZ vQ AB sw va vc ve vf tL tI ti tu tn tt ts tb t8 tk) {fuel:Nat} {cs:List Value} {x:DataW H×List MemPlace} (h:aec enc P w base spare held fuel uY cs=some x) : ∃y:Ty,aan y∧cq w (bK y) cs:=by
 obtain⟨fs,I⟩:=T.ins
 obtain⟨fs',q1,q2,q3⟩:=T.st (uY,[ti,ti]) (by simp)
 obtain⟨m,hlen,get⟩:=dN q1 q2 q3 (by simp[T.c1]) h
 match cs,hlen with
 |[u0,u1],_=>
  obtain⟨y0,e0⟩:=get 0 ti rfl
  obtain⟨y1,e1⟩:=get 1 ti rfl
  simp only[aeI,ajH,ajJ,ajL] at e0 e1
  obtain⟨n0,w0,k0⟩:=cr I.ki e0
  obtain⟨n1,w1,k1⟩:=cr I.ki e1
  exact⟨⟨n0,n1⟩,⟨w0,w1⟩,k0.cat (k1)⟩
theorem IT (T:HL P tM sX sY sZ nM td th tj tq uY uZ vQ AB sw va vc ve vf tL tI ti tu tn tt ts tb t8 tk) {fuel:Nat} {cs:List Value} {x:DataW H×List MemPlace} (h:aec enc P w base spare held fuel uZ cs=some x) : ∃y:Im,aao y∧cq w (bh y) cs:=by
 obtain⟨fs,I⟩:=T.ins
 obtain⟨fs',q1,q2,q3⟩:=T.st (uZ,[ts,ts,ti]) (by simp)
 obtain⟨m,hlen,get⟩:=dN q1 q2 q3 (by simp[T.c1]) h
 match cs,hlen with
 |[u0,u1,u2],_=>
  obtain⟨y0,e0⟩:=get 0 ts rfl
  obtain⟨y1,e1⟩:=get 1 ts rfl
  obtain⟨y2,e2⟩:=get 2 ti rfl
  simp only[aeI,ajH,ajJ,ajL] at e0 e1 e2
  obtain⟨n0,w0,k0⟩:=jE T.us e0
  obtain⟨n1,w1,k1⟩:=jE T.us e1
  obtain⟨n2,w2,k2⟩:=cr I.ki e2
  exact⟨⟨n0,n1,n2⟩,⟨w0,w1,w2⟩,k0.cat (k1.cat (k2))⟩
theorem yh (T:HL P tM sX sY sZ nM td th tj tq uY uZ vQ AB sw va vc ve vf tL tI ti tu tn tt ts tb t8 tk) {fuel:Nat} {cs:List Value} {x:DataW H×List MemPlace} (h:aec enc P w base spare held fuel sw cs=some x) : ∃y:Li,uj y∧cq w (aF y) cs:=by
 obtain⟨fs,I⟩:=T.ins
 obtain⟨fs',q1,q2,q3⟩:=T.st (sw,[tu,tu,tb]) (by simp)
 obtain⟨m,hlen,get⟩:=dN q1 q2 q3 (by simp[T.c1]) h
 match cs,hlen with
 |[u0,u1,u2],_=>
  obtain⟨y0,e0⟩:=get 0 tu rfl
  obtain⟨y1,e1⟩:=get 1 tu rfl
  obtain⟨y2,e2⟩:=get 2 tb rfl
  simp only[aeI,ajH,ajJ,ajL] at e0 e1 e2
  obtain⟨n0,w0,k0⟩:=cr I.ku e0
  obtain⟨n1,w1,k1⟩:=cr I.ku e1
  obtain⟨n2,k2⟩:=lP T.ub e2
  exact⟨⟨n0,n1,n2⟩,⟨w0,w1⟩,k0.cat (k1.cat (k2))⟩
theorem IU (T:HL P tM sX sY sZ nM td th tj tq uY uZ vQ AB sw va vc ve vf tL tI ti tu tn tt ts tb t8 tk) {fuel:Nat} {cs:List Value} {x:DataW H×List MemPlace} (h:aec enc P w base spare held fuel va cs=some x) : ∃y:Gl,aaq y∧cq w (bn y) cs:=by
 obtain⟨fs,I⟩:=T.ins
 obtain⟨fs',q1,q2,q3⟩:=T.st (va,[tb,tL]) (by simp)
 obtain⟨m,hlen,get⟩:=dN q1 q2 q3 (by simp[T.c1]) h
 match cs,hlen with
 |[u0,u1],_=>
  obtain⟨y0,e0⟩:=get 0 tb rfl
  obtain⟨y1,e1⟩:=get 1 tL rfl
  simp only[aeI,ajH,ajJ,ajL] at e0 e1
  obtain⟨n0,k0⟩:=lP T.ub e0
  obtain⟨n1,w1,k1⟩:=jQ T e1
  exact⟨⟨n0,n1⟩,w1,k0.cat (k1)⟩
theorem IV (T:HL P tM sX sY sZ nM td th tj tq uY uZ vQ AB sw va vc ve vf tL tI ti tu tn tt ts tb t8 tk) {fuel:Nat} {cs:List Value} {x:DataW H×List MemPlace} (h:aec enc P w base spare held fuel vc cs=some x) : ∃y:Ex,aar y∧cq w (bu y) cs:=by
 obtain⟨fs,I⟩:=T.ins
 obtain⟨fs',q1,q2,q3⟩:=T.st (vc,[ts,ti,tu]) (by simp)
 obtain⟨m,hlen,get⟩:=dN q1 q2 q3 (by simp[T.c1]) h
 match cs,hlen with
 |[u0,u1,u2],_=>
  obtain⟨y0,e0⟩:=get 0 ts rfl
  obtain⟨y1,e1⟩:=get 1 ti rfl
  obtain⟨y2,e2⟩:=get 2 tu rfl
  simp only[aeI,ajH,ajJ,ajL] at e0 e1 e2
  obtain⟨n0,w0,k0⟩:=jE T.us e0
  obtain⟨n1,w1,k1⟩:=cr I.ki e1
  obtain⟨n2,w2,k2⟩:=cr I.ku e2
  exact⟨⟨n0,n1,n2⟩,⟨w0,w1,w2⟩,k0.cat (k1.cat (k2))⟩
theorem IW (T:HL P tM sX sY sZ nM td th tj tq uY uZ vQ AB sw va vc ve vf tL tI ti tu tn tt ts tb t8 tk) {fuel:Nat} {cs:List Value} {x:DataW H×List MemPlace} (h:aec enc P w base spare held fuel ve cs=some x) : ∃y:El,aas y∧cq w (aN y) cs:=by
 obtain⟨fs,I⟩:=T.ins
 obtain⟨fs',q1,q2,q3⟩:=T.st (ve,[tL,tt]) (by simp)
 obtain⟨m,hlen,get⟩:=dN q1 q2 q3 (by simp[T.c1]) h
 match cs,hlen with
 |[u0,u1],_=>
  obtain⟨y0,e0⟩:=get 0 tL rfl
  obtain⟨y1,e1⟩:=get 1 tt rfl
  simp only[aeI,ajH,ajJ,ajL] at e0 e1
  obtain⟨n0,w0,k0⟩:=jQ T e0
  obtain⟨n1,w1,k1⟩:=AD T e1
  exact⟨⟨n0,n1⟩,⟨w0,w1⟩,k0.cat (k1)⟩
theorem IX (T:HL P tM sX sY sZ nM td th tj tq uY uZ vQ AB sw va vc ve vf tL tI ti tu tn tt ts tb t8 tk) {fuel:Nat} {cs:List Value} {x:DataW H×List MemPlace} (h:aec enc P w base spare held fuel vf cs=some x) : ∃y:Da,aat y∧cq w (aZ y) cs:=by
 obtain⟨fs,I⟩:=T.ins
 obtain⟨fs',q1,q2,q3⟩:=T.st (vf,[tL,t8]) (by simp)
 obtain⟨m,hlen,get⟩:=dN q1 q2 q3 (by simp[T.c1]) h
 match cs,hlen with
 |[u0,u1],_=>
  obtain⟨y0,e0⟩:=get 0 tL rfl
  obtain⟨y1,e1⟩:=get 1 t8 rfl
  simp only[aeI,ajH,ajJ,ajL] at e0 e1
  obtain⟨n0,w0,k0⟩:=jQ T e0
  obtain⟨n1,w1,k1⟩:=AE T e1
  exact⟨⟨n0,n1⟩,⟨w0,w1⟩,k0.cat (k1)⟩
theorem IY (T:HL P tM sX sY sZ nM td th tj tq uY uZ vQ AB sw va vc ve vf tL tI ti tu tn tt ts tb t8 tk) {fuel:Nat} {cs:List Value} {x:DataW H×List MemPlace} (h:aec enc P w base spare held fuel vQ cs=some x) : ∃y:Fu,aap y∧cq w (aG y) cs:=by
 obtain⟨fs,I⟩:=T.ins
 obtain⟨fs0,r1,r2,r3⟩:=T.fu
 obtain⟨fs',q1,q2,q3⟩:=T.st (AB,[ti,tL]) (by simp)
 obtain⟨m,rfl,hlen,hg⟩:=jF r1 h
 rw[r2] at hlen
 obtain⟨f0,a1,a2,a3⟩:=Zs (fs:=fs0) (i:=0) (o:=0) (t:=ti) (by rw[r3];rfl)
 obtain⟨f1,b1,b2,b3⟩:=Zs (fs:=fs0) (i:=1) (o:=1) (t:=AB) (by rw[r3];rfl)
 obtain⟨y0,e0⟩:=hg 0 f0 a1
 obtain⟨y1,e1⟩:=hg 1 f1 b1
 rw[a2,a3,T.c1 (t:=ti) (by simp)] at e0
 rw[b2,b3,q2] at e1
 match cs,hlen with
 |[u0,u1,u2],_=>
  simp only[aeI,ajH,ajJ,ajL,ml,aeK,pn,Nat.reduceAdd] at e0 e1
  obtain⟨n,_,get⟩:=dN q1 q2 q3 (by simp[T.c1]) e1
  obtain⟨z0,g0⟩:=get 0 ti rfl
  obtain⟨z1,g1⟩:=get 1 tL rfl
  simp only[aeI,ajH,ajJ,ajL] at g0 g1
  obtain⟨n0,w0,k0⟩:=cr I.ki e0
  obtain⟨n1,w1,k1⟩:=cr I.ki g0
  obtain⟨n2,w2,k2⟩:=jQ T g1
  exact⟨⟨n0,n1,n2⟩,⟨w0,w1,w2⟩,k0.cat (k1.cat k2)⟩
theorem eL {α:Type} {m0:α→List PV} {wf:α→Prop} {lt te:TypeId} {z:Nat} (hl:P.underlying lt=some (.slice te)) (hz:P.cellsOf te=z) (h1:1≤z) {fuel:Nat} {cs:List Value} {x:DataW H×List MemPlace} (h:aec enc P w base spare held fuel lt cs=some x)
  (hE : ∀(fuel:Nat) (us:List Value) y,aec enc P w base spare held fuel te us=some y → ∃a:α,wf a∧cq w (m0 a) us) : ∃l:List α,qu wf l∧cq w [.ps l.length z (l.flatMap m0)] cs:=by
 obtain⟨l,a,b,c⟩:=kI (m0:=m0) (wf:=wf) hl (by omega) h fun n _ us y hy=>hE n us y hy
 rw[hz] at c
 exact⟨l,⟨a,b⟩,c⟩
theorem HS (T:HL P tM sX sY sZ nM td th tj tq uY uZ vQ AB sw va vc ve vf tL tI ti tu tn tt ts tb t8 tk) {fuel:Nat} {cs:List Value} {x:DataW H×List MemPlace} (h:aec enc P w base spare held fuel tM cs=some x) : ∃M:Mo,M.wf∧cq w M.aJ cs:=by
 obtain⟨fs,I⟩:=T.ins
 obtain⟨fs',q1,q2,q3⟩:=T.st (tM,[sX,sY,sZ,nM,nM,td,th,tb,tu,tj,tq]) (by simp)
 obtain⟨m,hlen,get⟩:=dN q1 q2 q3 (by simp[T.c1]) h
 have z : ∀t ts',(t,ts')∈[(tM,[sX,sY,sZ,nM,nM,td,th,tb,tu,tj,tq]),(uY,[ti,ti]),(uZ,[ts,ts,ti]),(AB,[ti,tL]),(sw,[tu,tu,tb]),(va,[tb,tL]),(vc,[ts,ti,tu]),(ve,[tL,tt]),(vf,[tL,t8])]→P.cellsOf t=ts'.length:=
  fun t ts' hm=>by
   obtain⟨_,_,e,_⟩:=T.st (t,ts') hm
   exact e
 obtain⟨_,_,z3,_⟩:=T.fu
 match cs,hlen with
 |[u0,u1,u2,u3,u4,u5,u6,u7,u8,u9,u10],_=>
  obtain⟨y0,e0⟩:=get 0 sX rfl
  obtain⟨y1,e1⟩:=get 1 sY rfl
  obtain⟨y2,e2⟩:=get 2 sZ rfl
  obtain⟨y3,e3⟩:=get 3 nM rfl
  obtain⟨y4,e4⟩:=get 4 nM rfl
  obtain⟨y5,e5⟩:=get 5 td rfl
  obtain⟨y6,e6⟩:=get 6 th rfl
  obtain⟨y7,e7⟩:=get 7 tb rfl
  obtain⟨y8,e8⟩:=get 8 tu rfl
  obtain⟨y9,e9⟩:=get 9 tj rfl
  obtain⟨y10,e10⟩:=get 10 tq rfl
  simp only[aeI,ajH,ajJ,ajL] at e0 e1 e2 e3 e4 e5 e6 e7 e8 e9 e10
  obtain⟨n0,w0,k0⟩:=eL (m0:=bK) (wf:=aan) (T.sl (sX,uY) (by simp)) (z uY [ti,ti] (by simp)) (fg rfl) e0 fun _ _ _ g=>IS T g
  obtain⟨n1,w1,k1⟩:=eL (m0:=bh) (wf:=aao) (T.sl (sY,uZ) (by simp)) (z uZ [ts,ts,ti] (by simp)) (fg rfl) e1 fun _ _ _ g=>IT T g
  obtain⟨n2,w2,k2⟩:=eL (m0:=aG) (wf:=aap) (T.sl (sZ,vQ) (by simp)) z3 (fg rfl) e2 fun _ _ _ g=>IY T g
  obtain⟨n3,w3,k3⟩:=eL (m0:=aF) (wf:=uj) (T.sl (nM,sw) (by simp)) (z sw [tu,tu,tb] (by simp)) (fg rfl) e3 fun _ _ _ g=>yh T g
  obtain⟨n4,w4,k4⟩:=eL (m0:=aF) (wf:=uj) (T.sl (nM,sw) (by simp)) (z sw [tu,tu,tb] (by simp)) (fg rfl) e4 fun _ _ _ g=>yh T g
  obtain⟨n5,w5,k5⟩:=eL (m0:=bn) (wf:=aaq) (T.sl (td,va) (by simp)) (z va [tb,tL] (by simp)) (fg rfl) e5 fun _ _ _ g=>IU T g
  obtain⟨n6,w6,k6⟩:=eL (m0:=bu) (wf:=aar) (T.sl (th,vc) (by simp)) (z vc [ts,ti,tu] (by simp)) (fg rfl) e6 fun _ _ _ g=>IV T g
  obtain⟨n7,k7⟩:=lP T.ub e7
  obtain⟨n8,w8,k8⟩:=cr I.ku e8
  obtain⟨n9,w9,k9⟩:=eL (m0:=aN) (wf:=aas) (T.sl (tj,ve) (by simp)) (z ve [tL,tt] (by simp)) (fg rfl) e9 fun _ _ _ g=>IW T g
  obtain⟨n10,w10,k10⟩:=eL (m0:=aZ) (wf:=aat) (T.sl (tq,vf) (by simp)) (z vf [tL,t8] (by simp)) (fg rfl) e10 fun _ _ _ g=>IX T g
  exact⟨⟨n0,n1,n2,n3,n4,n5,n6,n7,n8,n9,n10⟩,⟨w0,w1,w2,w3,w4,w5,w6,w8,w9,w10⟩,k0.cat (k1.cat (k2.cat (k3.cat (k4.cat (k5.cat (k6.cat (k7.cat (k8.cat (k9.cat (k10))))))))))⟩
end
end Go.Am
end
section
set_option linter.unusedSimpArgs false
set_option linter.unusedVariables false
namespace Go.Proofs.YtncncijedmfpjaaGreatDoor.N
open Go Go.Am
def aau:bA:=aM aE aC [(63,0)] [] []
def agq:Sc:= .fin
def UL (M:Mo):aA:=
 (.at (ah ae env 63 0 [.mp 0 0,bB,.p (.ps M.aX.length 3 (ajO bh M.aX)),sI .i64 (↑M.aX.length:Int),sI .i64 0] ([.pc M.aJ]) 0 37))
theorem Qb (M:Mo):aI ae env aau 1000000 63 ([AV.agg (aeM AV.p M.aJ)]) ([]) agq=UL M:=by kernel_rfl
def aav:bA:=aM aE aC [(108,0)] [] []
def agr:Sc:= .fin
def UM (M:Mo):aA:=
 (.at (ah ae env 108 0 [.mp 0 0,bB,.p (.ps M.fns.length 3 (ajO aG M.fns)),sI .i64 (↑M.fns.length:Int),sI .i64 0] ([.pc M.aJ]) 0 66))
theorem Qc (M:Mo):aI ae env aav 1000000 108 ([AV.agg (aeM AV.p M.aJ)]) ([]) agr=UM M:=by kernel_rfl
def UN:bA:=aM aE aC [(63,0),(63,2)] [(63,0,1)] [(63,5,0),(63,5,1)]
def aaw:Sc:= .fin
def yj (M:Mo) (n:Nat) (k:Nat) (i:Nat) (cs:List PV) (a:List PV):aA:=
 (.test (decide ((↑i:Int)<(↑k:Int)))
 (.must (aP (↑i:Int) k&&true&&true)
 (.must (isStr (aq cs (aB i*3))&&(isStr (aq cs (aB i*3+1))&&(isInt re (aq cs (aB i*3+1+1))&&true))&&true)
 (.at (ah ae env 63 0 [.mp 0 0,.os (some 1) 2 1 [.sc (.string (bg (aq cs (aB i*3)))),.sc (.string (bg (aq cs (aB i*3+1))))],.p (.ps k 3 cs),sI .i64 (↑k:Int),sI .i64 (re.wrap ((↑i:Int)+1))] ([.pc M.aJ,.tok]) 0 37))))
 (.at (ah ae env 63 2 [bB,.p (.ps M.exs.length 3 (ajO bu M.exs)),sI .i64 (↑M.exs.length:Int),sI .i64 0] ([]) 0 37)))
theorem Bv (M:Mo) (n:Nat) (k:Nat) (i:Nat) (cs:List PV) (a:List PV):grow ae env UN 1000000 true (ah ae env 63 0 ([AV.mp 0 0,AV.os ae1 0 0 [],AV.p (PV.ps k 3 cs),sI re (↑k:Int),sI re (↑i:Int)]) ([bq.pc M.aJ]) 0 37) aaw atEnd=yj M n k i cs a:=by kernel_rfl
def UO:bA:=aM aE aC [(63,0),(63,2)] [(63,0,1)] [(63,5,0),(63,5,1),(63,6,6)]
def aax:Sc:= .fin
def yl (M:Mo) (n:Nat) (k:Nat) (i:Nat) (cs:List PV) (a:List PV):aA:=
 (.test (decide ((↑i:Int)<(↑k:Int)))
 (.must (aP (↑i:Int) k&&true&&true)
 (.must (isStr (aq cs (aB i*3))&&(isStr (aq cs (aB i*3+1))&&(isInt re (aq cs (aB i*3+1+1))&&true))&&true)
 (.must (((n+2)*16).ble aR&&(n+2).ble aR&&true)
 (.at (ah ae env 63 0 [.mp 0 0,.os (some 1) (n+2) 1 (a++[.sc (.string (bg (aq cs (aB i*3)))),.sc (.string (bg (aq cs (aB i*3+1))))]),.p (.ps k 3 cs),sI .i64 (↑k:Int),sI .i64 (re.wrap ((↑i:Int)+1))] ([.pc M.aJ,.tok]) 0 37)))))
 (.at (ah ae env 63 2 [.os (some 0) n 1 a,.p (.ps M.exs.length 3 (ajO bu M.exs)),sI .i64 (↑M.exs.length:Int),sI .i64 0] ([.tok]) 0 37)))
theorem Bw (M:Mo) (n:Nat) (k:Nat) (i:Nat) (cs:List PV) (a:List PV):grow ae env UO 1000000 true (ah ae env 63 0 ([AV.mp 0 0,AV.os (ae2 1) n 1 a,AV.p (PV.ps k 3 cs),sI re (↑k:Int),sI re (↑i:Int)]) ([bq.pc M.aJ,bq.tok]) 0 37) aax atEnd=yl M n k i cs a:=by kernel_rfl
def UP:bA:=aM aE aC [(63,0),(63,2)] [(63,0,3)] [(63,10,0),(63,10,1)]
def aay:Sc:= .fin
def ym (n:Nat) (k:Nat) (i:Nat) (cs:List PV) (a:List PV):aA:=
 (.test (decide ((↑i:Int)<(↑k:Int)))
 (.must (aP (↑i:Int) k&&true&&true)
 (.must (isStr (aq cs (aB i*3))&&(isInt re (aq cs (aB i*3+1))&&(isInt aeG (aq cs (aB i*3+1+1))&&true))&&true)
 (.at (ah ae env 63 2 [.os (some 0) 1 1 [.sc (.string (bg (aq cs (aB i*3))))],.p (.ps k 3 cs),sI .i64 (↑k:Int),sI .i64 (re.wrap ((↑i:Int)+1))] ([.tok]) 0 37))))
 (.out (.ret (bB) [])))
theorem Bx (n:Nat) (k:Nat) (i:Nat) (cs:List PV) (a:List PV):grow ae env UP 1000000 true (ah ae env 63 2 ([AV.os ae1 0 0 [],AV.p (PV.ps k 3 cs),sI re (↑k:Int),sI re (↑i:Int)]) ([]) 0 37) aay atEnd=ym n k i cs a:=by kernel_rfl
def UQ:bA:=aM aE aC [(63,0),(63,2)] [(63,0,3)] [(63,10,0),(63,10,1),(63,11,4)]
def aaz:Sc:= .fin
def yp (n:Nat) (k:Nat) (i:Nat) (cs:List PV) (a:List PV):aA:=
 (.test (decide ((↑i:Int)<(↑k:Int)))
 (.must (aP (↑i:Int) k&&true&&true)
 (.must (isStr (aq cs (aB i*3))&&(isInt re (aq cs (aB i*3+1))&&(isInt aeG (aq cs (aB i*3+1+1))&&true))&&true)
 (.must (((n+1)*16).ble aR&&(n+1).ble aR&&true)
 (.at (ah ae env 63 2 [.os (some 0) (n+1) 1 (a++[.sc (.string (bg (aq cs (aB i*3))))]),.p (.ps k 3 cs),sI .i64 (↑k:Int),sI .i64 (re.wrap ((↑i:Int)+1))] ([.tok]) 0 37)))))
 (.out (.ret (.os (some 0) n 1 a) [.tok])))
theorem By (n:Nat) (k:Nat) (i:Nat) (cs:List PV) (a:List PV):grow ae env UQ 1000000 true (ah ae env 63 2 ([AV.os (ae2 0) n 1 a,AV.p (PV.ps k 3 cs),sI re (↑k:Int),sI re (↑i:Int)]) ([bq.tok]) 0 37) aaz atEnd=yp n k i cs a:=by kernel_rfl
def UR:bA:=aM aE aC [(108,0),(108,2)] [(108,0,1)] [(108,5,0),(108,5,1)]
def aaA:Sc:= .fin
def yq (M:Mo) (n:Nat) (k:Nat) (i:Nat) (cs:List PV) (a:List PV):aA:=
 (.test (decide ((↑i:Int)<(↑k:Int)))
 (.must (aP (↑i:Int) k&&true&&true)
 (.must (isInt re (aq cs (aB i*3))&&(isInt re (aq cs (aB i*3+1))&&(aO (aq cs (aB i*3+1+1))&&true))&&true)
 (.at (ah ae env 108 0 [.mp 0 0,.os (some 1) 1 1 [.ps (an (aq cs (aB i*3+1+1))) (aD (aq cs (aB i*3+1+1))) (ak (aq cs (aB i*3+1+1)))],.p (.ps k 3 cs),sI .i64 (↑k:Int),sI .i64 (re.wrap ((↑i:Int)+1))] ([.pc M.aJ,.tok]) 0 66))))
 (.at (ah ae env 108 2 [.mp 0 0,bB,.p (.ps M.gls.length 2 (ajO bn M.gls)),sI .i64 (↑M.gls.length:Int),sI .i64 0] ([.pc M.aJ]) 0 66)))
theorem Bz (M:Mo) (n:Nat) (k:Nat) (i:Nat) (cs:List PV) (a:List PV):grow ae env UR 1000000 true (ah ae env 108 0 ([AV.mp 0 0,AV.os ae1 0 0 [],AV.p (PV.ps k 3 cs),sI re (↑k:Int),sI re (↑i:Int)]) ([bq.pc M.aJ]) 0 66) aaA atEnd=yq M n k i cs a:=by kernel_rfl
def US:bA:=aM aE aC [(108,0),(108,2)] [(108,0,1)] [(108,5,0),(108,5,1),(108,6,5)]
def aaB:Sc:= .fin
def yu (M:Mo) (n:Nat) (k:Nat) (i:Nat) (cs:List PV) (a:List PV):aA:=
 (.test (decide ((↑i:Int)<(↑k:Int)))
 (.must (aP (↑i:Int) k&&true&&true)
 (.must (isInt re (aq cs (aB i*3))&&(isInt re (aq cs (aB i*3+1))&&(aO (aq cs (aB i*3+1+1))&&true))&&true)
 (.must (((n+1)*24).ble aR&&(n+1).ble aR&&true)
 (.at (ah ae env 108 0 [.mp 0 0,.os (some 1) (n+1) 1 (a++[.ps (an (aq cs (aB i*3+1+1))) (aD (aq cs (aB i*3+1+1))) (ak (aq cs (aB i*3+1+1)))]),.p (.ps k 3 cs),sI .i64 (↑k:Int),sI .i64 (re.wrap ((↑i:Int)+1))] ([.pc M.aJ,.tok]) 0 66)))))
 (.at (ah ae env 108 2 [.mp 0 0,.os (some 1) n 1 a,.p (.ps M.gls.length 2 (ajO bn M.gls)),sI .i64 (↑M.gls.length:Int),sI .i64 0] ([.pc M.aJ,.tok]) 0 66)))
theorem BA (M:Mo) (n:Nat) (k:Nat) (i:Nat) (cs:List PV) (a:List PV):grow ae env US 1000000 true (ah ae env 108 0 ([AV.mp 0 0,AV.os (ae2 1) n 1 a,AV.p (PV.ps k 3 cs),sI re (↑k:Int),sI re (↑i:Int)]) ([bq.pc M.aJ,bq.tok]) 0 66) aaB atEnd=yu M n k i cs a:=by kernel_rfl
def UT:bA:=aM aE aC [(108,2),(108,4)] [(108,0,3)] [(108,10,0),(108,10,1)]
def aaC:Sc:= .fin
def yw (M:Mo) (n:Nat) (k:Nat) (i:Nat) (cs:List PV) (a:List PV):aA:=
 (.test (decide ((↑i:Int)<(↑k:Int)))
 (.must (aP (↑i:Int) k&&true&&true)
 (.must (isBool (aq cs (aB i*2))&&(aO (aq cs (aB i*2+1))&&true)&&true)
 (.at (ah ae env 108 2 [.mp 0 0,.os (some 1) 1 1 [.ps (an (aq cs (aB i*2+1))) (aD (aq cs (aB i*2+1))) (ak (aq cs (aB i*2+1)))],.p (.ps k 2 cs),sI .i64 (↑k:Int),sI .i64 (re.wrap ((↑i:Int)+1))] ([.pc M.aJ,.tok]) 0 66))))
 (.at (ah ae env 108 4 [.mp 0 0,bB,.p (.ps M.els.length 2 (ajO aN M.els)),sI .i64 (↑M.els.length:Int),sI .i64 0] ([.pc M.aJ]) 0 66)))
theorem BB (M:Mo) (n:Nat) (k:Nat) (i:Nat) (cs:List PV) (a:List PV):grow ae env UT 1000000 true (ah ae env 108 2 ([AV.mp 0 0,AV.os ae1 0 0 [],AV.p (PV.ps k 2 cs),sI re (↑k:Int),sI re (↑i:Int)]) ([bq.pc M.aJ]) 0 66) aaC atEnd=yw M n k i cs a:=by kernel_rfl
def UU:bA:=aM aE aC [(108,2),(108,4)] [(108,0,3)] [(108,10,0),(108,10,1),(108,11,4)]
def aaD:Sc:= .fin
def yx (M:Mo) (n:Nat) (k:Nat) (i:Nat) (cs:List PV) (a:List PV):aA:=
 (.test (decide ((↑i:Int)<(↑k:Int)))
 (.must (aP (↑i:Int) k&&true&&true)
 (.must (isBool (aq cs (aB i*2))&&(aO (aq cs (aB i*2+1))&&true)&&true)
 (.must (((n+1)*24).ble aR&&(n+1).ble aR&&true)
 (.at (ah ae env 108 2 [.mp 0 0,.os (some 1) (n+1) 1 (a++[.ps (an (aq cs (aB i*2+1))) (aD (aq cs (aB i*2+1))) (ak (aq cs (aB i*2+1)))]),.p (.ps k 2 cs),sI .i64 (↑k:Int),sI .i64 (re.wrap ((↑i:Int)+1))] ([.pc M.aJ,.tok]) 0 66)))))
 (.at (ah ae env 108 4 [.mp 0 0,.os (some 1) n 1 a,.p (.ps M.els.length 2 (ajO aN M.els)),sI .i64 (↑M.els.length:Int),sI .i64 0] ([.pc M.aJ,.tok]) 0 66)))
theorem BC (M:Mo) (n:Nat) (k:Nat) (i:Nat) (cs:List PV) (a:List PV):grow ae env UU 1000000 true (ah ae env 108 2 ([AV.mp 0 0,AV.os (ae2 1) n 1 a,AV.p (PV.ps k 2 cs),sI re (↑k:Int),sI re (↑i:Int)]) ([bq.pc M.aJ,bq.tok]) 0 66) aaD atEnd=yx M n k i cs a:=by kernel_rfl
def UW:bA:=aM aE aC [(108,4),(108,6)] [(108,0,5)] [(108,15,0),(108,15,1)]
def aaE:Sc:= .fin
def yy (M:Mo) (n:Nat) (k:Nat) (i:Nat) (cs:List PV) (a:List PV):aA:=
 (.test (decide ((↑i:Int)<(↑k:Int)))
 (.must (aP (↑i:Int) k&&true&&true)
 (.must (aO (aq cs (aB i*2))&&(aO (aq cs (aB i*2+1))&&true)&&true)
 (.at (ah ae env 108 4 [.mp 0 0,.os (some 1) 1 1 [.ps (an (aq cs (aB i*2))) (aD (aq cs (aB i*2))) (ak (aq cs (aB i*2)))],.p (.ps k 2 cs),sI .i64 (↑k:Int),sI .i64 (re.wrap ((↑i:Int)+1))] ([.pc M.aJ,.tok]) 0 66))))
 (.at (ah ae env 108 6 [bB,.p (.ps M.bp.length 2 (ajO aZ M.bp)),sI .i64 (↑M.bp.length:Int),sI .i64 0] ([]) 0 66)))
theorem BD (M:Mo) (n:Nat) (k:Nat) (i:Nat) (cs:List PV) (a:List PV):grow ae env UW 1000000 true (ah ae env 108 4 ([AV.mp 0 0,AV.os ae1 0 0 [],AV.p (PV.ps k 2 cs),sI re (↑k:Int),sI re (↑i:Int)]) ([bq.pc M.aJ]) 0 66) aaE atEnd=yy M n k i cs a:=by kernel_rfl
def UX:bA:=aM aE aC [(108,4),(108,6)] [(108,0,5)] [(108,15,0),(108,15,1),(108,16,4)]
def aaF:Sc:= .fin
def yz (M:Mo) (n:Nat) (k:Nat) (i:Nat) (cs:List PV) (a:List PV):aA:=
 (.test (decide ((↑i:Int)<(↑k:Int)))
 (.must (aP (↑i:Int) k&&true&&true)
 (.must (aO (aq cs (aB i*2))&&(aO (aq cs (aB i*2+1))&&true)&&true)
 (.must (((n+1)*24).ble aR&&(n+1).ble aR&&true)
 (.at (ah ae env 108 4 [.mp 0 0,.os (some 1) (n+1) 1 (a++[.ps (an (aq cs (aB i*2))) (aD (aq cs (aB i*2))) (ak (aq cs (aB i*2)))]),.p (.ps k 2 cs),sI .i64 (↑k:Int),sI .i64 (re.wrap ((↑i:Int)+1))] ([.pc M.aJ,.tok]) 0 66)))))
 (.at (ah ae env 108 6 [.os (some 0) n 1 a,.p (.ps M.bp.length 2 (ajO aZ M.bp)),sI .i64 (↑M.bp.length:Int),sI .i64 0] ([.tok]) 0 66)))
theorem BE (M:Mo) (n:Nat) (k:Nat) (i:Nat) (cs:List PV) (a:List PV):grow ae env UX 1000000 true (ah ae env 108 4 ([AV.mp 0 0,AV.os (ae2 1) n 1 a,AV.p (PV.ps k 2 cs),sI re (↑k:Int),sI re (↑i:Int)]) ([bq.pc M.aJ,bq.tok]) 0 66) aaF atEnd=yz M n k i cs a:=by kernel_rfl
def UY:bA:=aM aE aC [(108,6)] [(108,0,7)] [(108,20,0),(108,20,1)]
def aaG:Sc:= .fin
def yA (n:Nat) (k:Nat) (i:Nat) (cs:List PV) (a:List PV):aA:=
 (.test (decide ((↑i:Int)<(↑k:Int)))
 (.must (aP (↑i:Int) k&&true&&true)
 (.must (aO (aq cs (aB i*2))&&(aO (aq cs (aB i*2+1))&&true)&&true)
 (.at (ah ae env 108 6 [.os (some 0) 1 1 [.ps (an (aq cs (aB i*2))) (aD (aq cs (aB i*2))) (ak (aq cs (aB i*2)))],.p (.ps k 2 cs),sI .i64 (↑k:Int),sI .i64 (re.wrap ((↑i:Int)+1))] ([.tok]) 0 66))))
 (.out (.ret (bB) [])))
theorem BF (n:Nat) (k:Nat) (i:Nat) (cs:List PV) (a:List PV):grow ae env UY 1000000 true (ah ae env 108 6 ([AV.os ae1 0 0 [],AV.p (PV.ps k 2 cs),sI re (↑k:Int),sI re (↑i:Int)]) ([]) 0 66) aaG atEnd=yA n k i cs a:=by kernel_rfl
def UZ:bA:=aM aE aC [(108,6)] [(108,0,7)] [(108,20,0),(108,20,1),(108,21,4)]
def aaH:Sc:= .fin
def yB (n:Nat) (k:Nat) (i:Nat) (cs:List PV) (a:List PV):aA:=
 (.test (decide ((↑i:Int)<(↑k:Int)))
 (.must (aP (↑i:Int) k&&true&&true)
 (.must (aO (aq cs (aB i*2))&&(aO (aq cs (aB i*2+1))&&true)&&true)
 (.must (((n+1)*24).ble aR&&(n+1).ble aR&&true)
 (.at (ah ae env 108 6 [.os (some 0) (n+1) 1 (a++[.ps (an (aq cs (aB i*2))) (aD (aq cs (aB i*2))) (ak (aq cs (aB i*2)))]),.p (.ps k 2 cs),sI .i64 (↑k:Int),sI .i64 (re.wrap ((↑i:Int)+1))] ([.tok]) 0 66)))))
 (.out (.ret (.os (some 0) n 1 a) [.tok])))
theorem BG (n:Nat) (k:Nat) (i:Nat) (cs:List PV) (a:List PV):grow ae env UZ 1000000 true (ah ae env 108 6 ([AV.os (ae2 0) n 1 a,AV.p (PV.ps k 2 cs),sI re (↑k:Int),sI re (↑i:Int)]) ([bq.tok]) 0 66) aaH atEnd=yB n k i cs a:=by kernel_rfl
structure _root_.Go.Am.Mo.fit (M:Mo):Prop where
 tys:M.tys.length≤1000000
 aX:M.aX.length≤1000000
 fns:M.fns.length≤1000000
 b8:M.b8.length≤1000000
 b9:M.b9.length≤1000000
 gls:M.gls.length≤1000000
 exs:M.exs.length≤1000000
 els:M.els.length≤1000000
 bp:M.bp.length≤1000000
theorem DF:(1000000000:Nat)≤aR:=fg (by kernel_rfl)
theorem lJ {α:Type} {l:List α} {f:α→List PV} {D:List PV→Nat→cm} {K:List PV→Prop} {o:Out} {B:Nat}
  (step : ∀(a:List PV) (i:Nat) (x:α),l[i]? = some x→(a++f x).length≤B→aU ae env (D (a++f x) (i+1)) o→aU ae env (D a i) o)
  (fin : ∀a:List PV,K a→aU ae env (D a l.length) o) :
  ∀(r i:Nat) (a:List PV),i+r=l.length→(a++(l.drop i).flatMap f).length≤B→K (a++(l.drop i).flatMap f)→aU ae env (D a i) o:=by
 intro r
 induction r with
 |zero=>
  intro i a hi hB h
  obtain rfl:i=l.length:=by omega
  rw[List.drop_length,List.flatMap_nil,List.append_nil] at h
  exact fin a h
 |succ r ih=>
  intro i a hi hB h
  have hl:i<l.length:=by omega
  rw[List.drop_eq_getElem_cons hl,aju,←List.append_assoc] at h hB
  refine step a i l[i] (List.getElem?_eq_getElem hl) ?_ (ih (i+1) _ (by omega) hB h)
  rw[dC] at hB
  omega
def IZ (a:List PV):Out:=if a=[] then .ret (.os none 0 0 []) [] else .ret (.os (some 0) a.length 1 a) [.tok]
def Me (x:Im):List PV:=[.sc (.string x.mo),.sc (.string x.nm)]
def TA (x:Ex):List PV:=[.sc (.string x.nm)]
def Yl (x:Fu):List PV:=[pL x.l]
def cdG (x:Gl):List PV:=[pL x.l]
def cdE (x:El):List PV:=[pL x.l]
def cdD (x:Da):List PV:=[pL x.l]
def Mf (M:Mo) (a:List PV) (i:Nat):cm:=
 if a=[] then ah ae env 63 0 [.mp 0 0,.os none 0 0 [],.p (.ps M.aX.length 3 (M.aX.flatMap bh)),sI .i64 M.aX.length,sI .i64 i] [.pc M.aJ] 0 37
 else ah ae env 63 0 [.mp 0 0,.os (some 1) a.length 1 a,.p (.ps M.aX.length 3 (M.aX.flatMap bh)),sI .i64 M.aX.length,sI .i64 i] [.pc M.aJ,.tok] 0 37
def I0 (M:Mo) (a:List PV) (i:Nat):cm:=
 if a=[] then ah ae env 63 2 [.os none 0 0 [],.p (.ps M.exs.length 3 (M.exs.flatMap bu)),sI .i64 M.exs.length,sI .i64 i] [] 0 37
 else ah ae env 63 2 [.os (some 0) a.length 1 a,.p (.ps M.exs.length 3 (M.exs.flatMap bu)),sI .i64 M.exs.length,sI .i64 i] [.tok] 0 37
theorem Mg (M:Mo) (hM:M.fit) (o:Out) (a:List PV) (i:Nat) (x:Im) (hx:M.aX[i]? = some x) (hB:(a++Me x).length≤10000000) (h:aU ae env (Mf M (a++Me x) (i+1)) o):aU ae env (Mf M a i) o:=by
 have hi:i<M.aX.length:=(dT.1 hx).1
 have c:=aW (z:=3) (enc:=bh) (fun _=>rfl) hx
 have c0:(M.aX.flatMap bh).getD (i*3) .bz = .sc (.string x.mo):=c 0 (by decide)
 have c1:(M.aX.flatMap bh).getD (i*3+1) .bz = .sc (.string x.nm):=c 1 (by decide)
 have c2:(M.aX.flatMap bh).getD (i*3+1+1) .bz = .sc (.int .i64 x.ty):=c 2 (by decide)
 have hl:=hM.aX
 have hL:=DF
 have w:re.wrap ((i:Int)+1)=((i+1:Nat):Int):=by rw[aQ (by omega) (by omega)];rfl
 have hd:decide ((i:Int)<(M.aX.length:Int))=true:=by simp;omega
 unfold Mf at h ⊢
 by_cases e:a=[]
 · subst e
   rw[if_neg (by simp[Me]),Hm] at h
   rw[if_pos rfl]
   refine af aH (Bv M 0 M.aX.length i (M.aX.flatMap bh) []) ?_
   simp only[yj,aV,aA.ok,isStr,isInt,aO,isBool,bg,au,bf,an,aD,ak,aP,afm,c0,c1,c2,hd,w]
   exact⟨fun _=>⟨by first | (simp;done) | (simp;omega),rfl,h⟩,fun q=>by cases q⟩
 · rw[if_neg (by simp[e])] at h
   rw[if_neg e]
   refine af aH (Bw M a.length M.aX.length i (M.aX.flatMap bh) a) ?_
   rw[dC] at h hB
   have hB:a.length+2≤10000000:=hB
   simp only[yl,aV,aA.ok,isStr,isInt,aO,isBool,bg,au,bf,an,aD,ak,aP,afm,c0,c1,c2,hd,w]
   exact⟨fun _=>⟨by first | (simp;done) | (simp;omega),rfl,by simp only[ajQ,di,ajp];omega,h⟩,fun q=>by cases q⟩
theorem Qd (M:Mo) (o:Out) (a:List PV) (h:aU ae env (I0 M a 0) o):aU ae env (Mf M a M.aX.length) o:=by
 have hd:decide ((M.aX.length:Int)<(M.aX.length:Int))=false:=by simp
 unfold I0 at h
 unfold Mf
 by_cases e:a=[]
 · subst e
   rw[if_pos rfl] at h ⊢
   refine af aH (Bv M 0 M.aX.length M.aX.length (M.aX.flatMap bh) []) ?_
   simp only[yj,aV,aA.ok,hd]
   exact⟨fun q=>(by cases q),fun _=>h⟩
 · rw[if_neg e] at h ⊢
   refine af aH (Bw M a.length M.aX.length M.aX.length (M.aX.flatMap bh) a) ?_
   simp only[yl,aV,aA.ok,hd]
   exact⟨fun q=>(by cases q),fun _=>h⟩
theorem Mh (M:Mo) (hM:M.fit) (o:Out) (a:List PV) (i:Nat) (x:Ex) (hx:M.exs[i]? = some x) (hB:(a++TA x).length≤10000000) (h:aU ae env (I0 M (a++TA x) (i+1)) o):aU ae env (I0 M a i) o:=by
 have hi:i<M.exs.length:=(dT.1 hx).1
 have c:=aW (z:=3) (enc:=bu) (fun _=>rfl) hx
 have c0:(M.exs.flatMap bu).getD (i*3) .bz = .sc (.string x.nm):=c 0 (by decide)
 have c1:(M.exs.flatMap bu).getD (i*3+1) .bz = .sc (.int .i64 x.kind):=c 1 (by decide)
 have c2:(M.exs.flatMap bu).getD (i*3+1+1) .bz = .sc (.int .u32 x.ix):=c 2 (by decide)
 have hl:=hM.exs
 have hL:=DF
 have w:re.wrap ((i:Int)+1)=((i+1:Nat):Int):=by rw[aQ (by omega) (by omega)];rfl
 have hd:decide ((i:Int)<(M.exs.length:Int))=true:=by simp;omega
 unfold I0 at h ⊢
 by_cases e:a=[]
 · subst e
   rw[if_neg (by simp[TA]),Hm] at h
   rw[if_pos rfl]
   refine af aH (Bx 0 M.exs.length i (M.exs.flatMap bu) []) ?_
   simp only[ym,aV,aA.ok,isStr,isInt,aO,isBool,bg,au,bf,an,aD,ak,aP,afm,c0,c1,c2,hd,w]
   exact⟨fun _=>⟨by first | (simp;done) | (simp;omega),rfl,h⟩,fun q=>by cases q⟩
 · rw[if_neg (by simp[e])] at h
   rw[if_neg e]
   refine af aH (By a.length M.exs.length i (M.exs.flatMap bu) a) ?_
   rw[dC] at h hB
   have hB:a.length+1≤10000000:=hB
   simp only[yp,aV,aA.ok,isStr,isInt,aO,isBool,bg,au,bf,an,aD,ak,aP,afm,c0,c1,c2,hd,w]
   exact⟨fun _=>⟨by first | (simp;done) | (simp;omega),rfl,by simp only[ajQ,di,ajp];omega,h⟩,fun q=>by cases q⟩
theorem Qe (M:Mo) (o:Out) (a:List PV) (h:IZ a=o):aU ae env (I0 M a M.exs.length) o:=by
 have hd:decide ((M.exs.length:Int)<(M.exs.length:Int))=false:=by simp
 unfold IZ at h
 unfold I0
 by_cases e:a=[]
 · subst e
   rw[if_pos rfl] at h ⊢
   refine af aH (Bx 0 M.exs.length M.exs.length (M.exs.flatMap bu) []) ?_
   simp only[ym,aV,aA.ok,hd]
   exact⟨fun q=>(by cases q),fun _=>h⟩
 · rw[if_neg e] at h ⊢
   refine af aH (By a.length M.exs.length M.exs.length (M.exs.flatMap bu) a) ?_
   simp only[yp,aV,aA.ok,hd]
   exact⟨fun q=>(by cases q),fun _=>h⟩
def Mi (M:Mo) (a:List PV) (i:Nat):cm:=
 if a=[] then ah ae env 108 0 [.mp 0 0,.os none 0 0 [],.p (.ps M.fns.length 3 (M.fns.flatMap aG)),sI .i64 M.fns.length,sI .i64 i] [.pc M.aJ] 0 66
 else ah ae env 108 0 [.mp 0 0,.os (some 1) a.length 1 a,.p (.ps M.fns.length 3 (M.fns.flatMap aG)),sI .i64 M.fns.length,sI .i64 i] [.pc M.aJ,.tok] 0 66
def I1 (M:Mo) (a:List PV) (i:Nat):cm:=
 if a=[] then ah ae env 108 2 [.mp 0 0,.os none 0 0 [],.p (.ps M.gls.length 2 (M.gls.flatMap bn)),sI .i64 M.gls.length,sI .i64 i] [.pc M.aJ] 0 66
 else ah ae env 108 2 [.mp 0 0,.os (some 1) a.length 1 a,.p (.ps M.gls.length 2 (M.gls.flatMap bn)),sI .i64 M.gls.length,sI .i64 i] [.pc M.aJ,.tok] 0 66
def I2 (M:Mo) (a:List PV) (i:Nat):cm:=
 if a=[] then ah ae env 108 4 [.mp 0 0,.os none 0 0 [],.p (.ps M.els.length 2 (M.els.flatMap aN)),sI .i64 M.els.length,sI .i64 i] [.pc M.aJ] 0 66
 else ah ae env 108 4 [.mp 0 0,.os (some 1) a.length 1 a,.p (.ps M.els.length 2 (M.els.flatMap aN)),sI .i64 M.els.length,sI .i64 i] [.pc M.aJ,.tok] 0 66
def I3 (M:Mo) (a:List PV) (i:Nat):cm:=
 if a=[] then ah ae env 108 6 [.os none 0 0 [],.p (.ps M.bp.length 2 (M.bp.flatMap aZ)),sI .i64 M.bp.length,sI .i64 i] [] 0 66
 else ah ae env 108 6 [.os (some 0) a.length 1 a,.p (.ps M.bp.length 2 (M.bp.flatMap aZ)),sI .i64 M.bp.length,sI .i64 i] [.tok] 0 66
theorem Mj (M:Mo) (hM:M.fit) (o:Out) (a:List PV) (i:Nat) (x:Fu) (hx:M.fns[i]? = some x) (hB:(a++Yl x).length≤10000000) (h:aU ae env (Mi M (a++Yl x) (i+1)) o):aU ae env (Mi M a i) o:=by
 have hi:i<M.fns.length:=(dT.1 hx).1
 have c:=aW (z:=3) (enc:=aG) (fun _=>rfl) hx
 have c0:(M.fns.flatMap aG).getD (i*3) .bz = .sc (.int .i64 x.ty):=c 0 (by decide)
 have c1:(M.fns.flatMap aG).getD (i*3+1) .bz = .sc (.int .i64 x.lo):=c 1 (by decide)
 have c2:(M.fns.flatMap aG).getD (i*3+1+1) .bz=pL x.l:=c 2 (by decide)
 have hl:=hM.fns
 have hL:=DF
 have w:re.wrap ((i:Int)+1)=((i+1:Nat):Int):=by rw[aQ (by omega) (by omega)];rfl
 have hd:decide ((i:Int)<(M.fns.length:Int))=true:=by simp;omega
 unfold Mi at h ⊢
 by_cases e:a=[]
 · subst e
   rw[if_neg (by simp[Yl]),Hm] at h
   rw[if_pos rfl]
   refine af aH (Bz M 0 M.fns.length i (M.fns.flatMap aG) []) ?_
   simp only[yq,aV,aA.ok,isStr,isInt,aO,isBool,bg,au,bf,an,aD,ak,aP,afm,c0,c1,c2,hd,w]
   exact⟨fun _=>⟨by first | (simp;done) | (simp;omega),rfl,h⟩,fun q=>by cases q⟩
 · rw[if_neg (by simp[e])] at h
   rw[if_neg e]
   refine af aH (BA M a.length M.fns.length i (M.fns.flatMap aG) a) ?_
   rw[dC] at h hB
   have hB:a.length+1≤10000000:=hB
   simp only[yu,aV,aA.ok,isStr,isInt,aO,isBool,bg,au,bf,an,aD,ak,aP,afm,c0,c1,c2,hd,w]
   exact⟨fun _=>⟨by first | (simp;done) | (simp;omega),rfl,by simp only[ajQ,di,ajp];omega,h⟩,fun q=>by cases q⟩
theorem Qf (M:Mo) (o:Out) (a:List PV) (h:aU ae env (I1 M a 0) o):aU ae env (Mi M a M.fns.length) o:=by
 have hd:decide ((M.fns.length:Int)<(M.fns.length:Int))=false:=by simp
 unfold I1 at h
 unfold Mi
 by_cases e:a=[]
 · subst e
   rw[if_pos rfl] at h ⊢
   refine af aH (Bz M 0 M.fns.length M.fns.length (M.fns.flatMap aG) []) ?_
   simp only[yq,aV,aA.ok,hd]
   exact⟨fun q=>(by cases q),fun _=>h⟩
 · rw[if_neg e] at h ⊢
   refine af aH (BA M a.length M.fns.length M.fns.length (M.fns.flatMap aG) a) ?_
   simp only[yu,aV,aA.ok,hd]
   exact⟨fun q=>(by cases q),fun _=>h⟩
theorem Ml (M:Mo) (hM:M.fit) (o:Out) (a:List PV) (i:Nat) (x:Gl) (hx:M.gls[i]? = some x) (hB:(a++cdG x).length≤10000000) (h:aU ae env (I1 M (a++cdG x) (i+1)) o):aU ae env (I1 M a i) o:=by
 have hi:i<M.gls.length:=(dT.1 hx).1
 have c:=aW (z:=2) (enc:=bn) (fun _=>rfl) hx
 have c0:(M.gls.flatMap bn).getD (i*2) .bz = .sc (.bool x.mu):=c 0 (by decide)
 have c1:(M.gls.flatMap bn).getD (i*2+1) .bz=pL x.l:=c 1 (by decide)
 have hl:=hM.gls
 have hL:=DF
 have w:re.wrap ((i:Int)+1)=((i+1:Nat):Int):=by rw[aQ (by omega) (by omega)];rfl
 have hd:decide ((i:Int)<(M.gls.length:Int))=true:=by simp;omega
 unfold I1 at h ⊢
 by_cases e:a=[]
 · subst e
   rw[if_neg (by simp[cdG]),Hm] at h
   rw[if_pos rfl]
   refine af aH (BB M 0 M.gls.length i (M.gls.flatMap bn) []) ?_
   simp only[yw,aV,aA.ok,isStr,isInt,aO,isBool,bg,au,bf,an,aD,ak,aP,afm,c0,c1,hd,w]
   exact⟨fun _=>⟨by first | (simp;done) | (simp;omega),rfl,h⟩,fun q=>by cases q⟩
 · rw[if_neg (by simp[e])] at h
   rw[if_neg e]
   refine af aH (BC M a.length M.gls.length i (M.gls.flatMap bn) a) ?_
   rw[dC] at h hB
   have hB:a.length+1≤10000000:=hB
   simp only[yx,aV,aA.ok,isStr,isInt,aO,isBool,bg,au,bf,an,aD,ak,aP,afm,c0,c1,hd,w]
   exact⟨fun _=>⟨by first | (simp;done) | (simp;omega),rfl,by simp only[ajQ,di,ajp];omega,h⟩,fun q=>by cases q⟩
theorem Qg (M:Mo) (o:Out) (a:List PV) (h:aU ae env (I2 M a 0) o):aU ae env (I1 M a M.gls.length) o:=by
 have hd:decide ((M.gls.length:Int)<(M.gls.length:Int))=false:=by simp
 unfold I2 at h
 unfold I1
 by_cases e:a=[]
 · subst e
   rw[if_pos rfl] at h ⊢
   refine af aH (BB M 0 M.gls.length M.gls.length (M.gls.flatMap bn) []) ?_
   simp only[yw,aV,aA.ok,hd]
   exact⟨fun q=>(by cases q),fun _=>h⟩
 · rw[if_neg e] at h ⊢
   refine af aH (BC M a.length M.gls.length M.gls.length (M.gls.flatMap bn) a) ?_
   simp only[yx,aV,aA.ok,hd]
   exact⟨fun q=>(by cases q),fun _=>h⟩
theorem Mm (M:Mo) (hM:M.fit) (o:Out) (a:List PV) (i:Nat) (x:El) (hx:M.els[i]? = some x) (hB:(a++cdE x).length≤10000000) (h:aU ae env (I2 M (a++cdE x) (i+1)) o):aU ae env (I2 M a i) o:=by
 have hi:i<M.els.length:=(dT.1 hx).1
 have c:=aW (z:=2) (enc:=aN) (fun _=>rfl) hx
 have c0:(M.els.flatMap aN).getD (i*2) .bz=pL x.l:=c 0 (by decide)
 have c1:(M.els.flatMap aN).getD (i*2+1) .bz=pT .u32 x.fs:=c 1 (by decide)
 have hl:=hM.els
 have hL:=DF
 have w:re.wrap ((i:Int)+1)=((i+1:Nat):Int):=by rw[aQ (by omega) (by omega)];rfl
 have hd:decide ((i:Int)<(M.els.length:Int))=true:=by simp;omega
 unfold I2 at h ⊢
 by_cases e:a=[]
 · subst e
   rw[if_neg (by simp[cdE]),Hm] at h
   rw[if_pos rfl]
   refine af aH (BD M 0 M.els.length i (M.els.flatMap aN) []) ?_
   simp only[yy,aV,aA.ok,isStr,isInt,aO,isBool,bg,au,bf,an,aD,ak,aP,afm,c0,c1,hd,w]
   exact⟨fun _=>⟨by first | (simp;done) | (simp;omega),rfl,h⟩,fun q=>by cases q⟩
 · rw[if_neg (by simp[e])] at h
   rw[if_neg e]
   refine af aH (BE M a.length M.els.length i (M.els.flatMap aN) a) ?_
   rw[dC] at h hB
   have hB:a.length+1≤10000000:=hB
   simp only[yz,aV,aA.ok,isStr,isInt,aO,isBool,bg,au,bf,an,aD,ak,aP,afm,c0,c1,hd,w]
   exact⟨fun _=>⟨by first | (simp;done) | (simp;omega),rfl,by simp only[ajQ,di,ajp];omega,h⟩,fun q=>by cases q⟩
theorem Qh (M:Mo) (o:Out) (a:List PV) (h:aU ae env (I3 M a 0) o):aU ae env (I2 M a M.els.length) o:=by
 have hd:decide ((M.els.length:Int)<(M.els.length:Int))=false:=by simp
 unfold I3 at h
 unfold I2
 by_cases e:a=[]
 · subst e
   rw[if_pos rfl] at h ⊢
   refine af aH (BD M 0 M.els.length M.els.length (M.els.flatMap aN) []) ?_
   simp only[yy,aV,aA.ok,hd]
   exact⟨fun q=>(by cases q),fun _=>h⟩
 · rw[if_neg e] at h ⊢
   refine af aH (BE M a.length M.els.length M.els.length (M.els.flatMap aN) a) ?_
   simp only[yz,aV,aA.ok,hd]
   exact⟨fun q=>(by cases q),fun _=>h⟩
theorem Mn (M:Mo) (hM:M.fit) (o:Out) (a:List PV) (i:Nat) (x:Da) (hx:M.bp[i]? = some x) (hB:(a++cdD x).length≤10000000) (h:aU ae env (I3 M (a++cdD x) (i+1)) o):aU ae env (I3 M a i) o:=by
 have hi:i<M.bp.length:=(dT.1 hx).1
 have c:=aW (z:=2) (enc:=aZ) (fun _=>rfl) hx
 have c0:(M.bp.flatMap aZ).getD (i*2) .bz=pL x.l:=c 0 (by decide)
 have c1:(M.bp.flatMap aZ).getD (i*2+1) .bz=pT .u8 x.bs:=c 1 (by decide)
 have hl:=hM.bp
 have hL:=DF
 have w:re.wrap ((i:Int)+1)=((i+1:Nat):Int):=by rw[aQ (by omega) (by omega)];rfl
 have hd:decide ((i:Int)<(M.bp.length:Int))=true:=by simp;omega
 unfold I3 at h ⊢
 by_cases e:a=[]
 · subst e
   rw[if_neg (by simp[cdD]),Hm] at h
   rw[if_pos rfl]
   refine af aH (BF 0 M.bp.length i (M.bp.flatMap aZ) []) ?_
   simp only[yA,aV,aA.ok,isStr,isInt,aO,isBool,bg,au,bf,an,aD,ak,aP,afm,c0,c1,hd,w]
   exact⟨fun _=>⟨by first | (simp;done) | (simp;omega),rfl,h⟩,fun q=>by cases q⟩
 · rw[if_neg (by simp[e])] at h
   rw[if_neg e]
   refine af aH (BG a.length M.bp.length i (M.bp.flatMap aZ) a) ?_
   rw[dC] at h hB
   have hB:a.length+1≤10000000:=hB
   simp only[yB,aV,aA.ok,isStr,isInt,aO,isBool,bg,au,bf,an,aD,ak,aP,afm,c0,c1,hd,w]
   exact⟨fun _=>⟨by first | (simp;done) | (simp;omega),rfl,by simp only[ajQ,di,ajp];omega,h⟩,fun q=>by cases q⟩
theorem Qi (M:Mo) (o:Out) (a:List PV) (h:IZ a=o):aU ae env (I3 M a M.bp.length) o:=by
 have hd:decide ((M.bp.length:Int)<(M.bp.length:Int))=false:=by simp
 unfold IZ at h
 unfold I3
 by_cases e:a=[]
 · subst e
   rw[if_pos rfl] at h ⊢
   refine af aH (BF 0 M.bp.length M.bp.length (M.bp.flatMap aZ) []) ?_
   simp only[yA,aV,aA.ok,hd]
   exact⟨fun q=>(by cases q),fun _=>h⟩
 · rw[if_neg e] at h ⊢
   refine af aH (BG a.length M.bp.length M.bp.length (M.bp.flatMap aZ) a) ?_
   simp only[yB,aV,aA.ok,hd]
   exact⟨fun q=>(by cases q),fun _=>h⟩
theorem fB {α:Type} {f:α→List PV} {n:Nat} (h : ∀x,(f x).length=n) (l:List α):(l.flatMap f).length=l.length*n:=FR h l
theorem um {f:FuncId} {args:List AV} {a:List PV} (h : ∀v m',IZ a = .ret v m'→az ae env f args [] v m'):az ae env f args [] (.p (.ps a.length 1 a)) []:=by
 by_cases e:a=[]
 · subst e
   exact az.nil (h _ _ (if_pos rfl)) (Nat.le_refl 1)
 · exact az.pure (h _ _ (if_neg e))
def Qj (M:Mo):List PV:=M.aX.flatMap Me++M.exs.flatMap TA
def U0 (M:Mo):List PV:=M.fns.flatMap Yl++M.gls.flatMap cdG++M.els.flatMap cdE++M.bp.flatMap cdD
theorem I4 (M:Mo) (hM:M.fit):az ae env 63 [.agg (M.aJ.map .p)] [] (.p (.ps (Qj M).length 1 (Qj M))) []:=by
 have h1:=hM.aX
 have h2:=hM.exs
 have l1:=fB (f:=Me) (n:=2) (fun _=>rfl) M.aX
 have l2:=fB (f:=TA) (n:=1) (fun _=>rfl) M.exs
 refine um fun v m' e=> ?_
 refine aa aH (Qb M) ?_
 have k2:=lJ (B:=10000000) (Mh M hM (.ret v m')) (Qe M _) M.exs.length 0 (M.aX.flatMap Me) (by omega) (by simp only[aeI,dC];omega) e
 have k1:=lJ (B:=10000000) (Mg M hM (.ret v m')) (Qd M _) M.aX.length 0 [] (by omega) (by simp only[aeI,dC,aeK];omega) k2
 unfold Mf at k1
 rw[if_pos rfl] at k1
 exact k1
theorem I5 (M:Mo) (hM:M.fit):az ae env 108 [.agg (M.aJ.map .p)] [] (.p (.ps (U0 M).length 1 (U0 M))) []:=by
 have h1:=hM.fns
 have h2:=hM.gls
 have h3:=hM.els
 have h4:=hM.bp
 have l1:=fB (f:=Yl) (n:=1) (fun _=>rfl) M.fns
 have l2:=fB (f:=cdG) (n:=1) (fun _=>rfl) M.gls
 have l3:=fB (f:=cdE) (n:=1) (fun _=>rfl) M.els
 have l4:=fB (f:=cdD) (n:=1) (fun _=>rfl) M.bp
 refine um fun v m' e=> ?_
 refine aa aH (Qc M) ?_
 have k4:=lJ (B:=10000000) (Mn M hM (.ret v m')) (Qi M _) M.bp.length 0 (M.fns.flatMap Yl++M.gls.flatMap cdG++M.els.flatMap cdE) (by omega) (by simp only[aeI,dC];omega) e
 have k3:=lJ (B:=10000000) (Mm M hM (.ret v m')) (Qh M _) M.els.length 0 (M.fns.flatMap Yl++M.gls.flatMap cdG) (by omega) (by simp only[aeI,dC];omega) k4
 have k2:=lJ (B:=10000000) (Ml M hM (.ret v m')) (Qg M _) M.gls.length 0 (M.fns.flatMap Yl) (by omega) (by simp only[aeI,dC];omega) k3
 have k1:=lJ (B:=10000000) (Mj M hM (.ret v m')) (Qf M _) M.fns.length 0 [] (by omega) (by simp only[aeI,dC,aeK];omega) k2
 unfold Mi at k1
 rw[if_pos rfl] at k1
 exact k1
end Go.Proofs.YtncncijedmfpjaaGreatDoor.N
end
