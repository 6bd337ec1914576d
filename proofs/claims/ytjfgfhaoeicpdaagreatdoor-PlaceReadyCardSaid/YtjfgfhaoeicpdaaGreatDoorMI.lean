import Derived.Test.YtjfgfhaoeicpdaaGreatDoorMH
open Go.Lit renaming int→aeq
open List renaming length_append→de,drop_zero→abj,drop_succ_cons→aes,take_succ_cons→aeM,getElem?_eq_some_iff→di,take_zero→aeQ,flatMap→aeR,getD_eq_getElem?_getD→cb,nil_append→M2,flatMap_cons→aeS,length_nil→abn,length_cons→ma,map→abG
open Nat renaming le_of_ble_eq_true→eh,ble_eq→aeT,add_mul→pf,zero_add→pj
open Go.DataW renaming trod→aa0
open Go.Proofs.Tryz renaming prog→ab5
open Go.IntKind renaming i64→rn,u32→abb
open Option renaming none→acb,some→acx
open Int renaming toNat_natCast→aep
open Bool renaming and_eq_true→ch,and_true→aeU
noncomputable section
section
namespace Go.Am
open Go.RowKit
structure Ty where
 p:Int
 r:Int
structure Im where
 mo:ByteArray
 nm:ByteArray
 ty:Int
structure Fu where
 ty:Int
 lo:Int
 l:List Ins
structure Li where
 mn:Int
 mx:Int
 cap:Bool
structure Gl where
 mu:Bool
 l:List Ins
structure Ex where
 nm:ByteArray
 kind:Int
 ix:Int
structure El where
 l:List Ins
 fs:List Int
structure Da where
 l:List Ins
 bs:List Int
abbrev pL (l:List Ins):PV:= .ps l.length 8 (aq l)
abbrev pT (k:IntKind) (l:List Int):PV:= .ps l.length 1 (dw k l)
abbrev bW (x:Ty):List PV:=[.sc (.int .i64 x.p),.sc (.int .i64 x.r)]
abbrev bQ (x:Im):List PV:=[.sc (.string x.mo),.sc (.string x.nm),.sc (.int .i64 x.ty)]
abbrev aV (x:Fu):List PV:=[.sc (.int .i64 x.ty),.sc (.int .i64 x.lo),pL x.l]
abbrev aN (x:Li):List PV:=[.sc (.int .u32 x.mn),.sc (.int .u32 x.mx),.sc (.bool x.cap)]
abbrev aY (x:Gl):List PV:=[.sc (.bool x.mu),pL x.l]
abbrev aW (x:Ex):List PV:=[.sc (.string x.nm),.sc (.int .i64 x.kind),.sc (.int .u32 x.ix)]
abbrev aX (x:El):List PV:=[pL x.l,pT .u32 x.fs]
abbrev bg (x:Da):List PV:=[pL x.l,pT .u8 x.bs]
def wfT (k:IntKind) (l:List Int):Prop:=l.length≤maxLen ∧ ∀t∈l,(aeq k t).wf=true
def CF (l:List Ins):Prop:=l.length≤maxLen∧Ky l
def Xr (x:Ty):Prop:=(aeq .i64 x.p).wf=true∧(aeq .i64 x.r).wf=true
def Xs (x:Im):Prop:=x.mo.size≤maxLen∧x.nm.size≤maxLen∧(aeq .i64 x.ty).wf=true
def Xt (x:Fu):Prop:=(aeq .i64 x.ty).wf=true∧(aeq .i64 x.lo).wf=true∧CF x.l
def KD (x:Li):Prop:=(aeq .u32 x.mn).wf=true∧(aeq .u32 x.mx).wf=true
def Xu (x:Gl):Prop:=CF x.l
def Xv (x:Ex):Prop:=x.nm.size≤maxLen∧(aeq .i64 x.kind).wf=true∧(aeq .u32 x.ix).wf=true
def Xw (x:El):Prop:=CF x.l∧wfT .u32 x.fs
def Xx (x:Da):Prop:=CF x.l∧wfT .u8 x.bs
structure Mo where
 tys:List Ty
 aZ:List Im
 fns:List Fu
 cj:List Li
 cM:List Li
 gls:List Gl
 exs:List Ex
 st:Bool
 sn:Int
 els:List El
 bt:List Da
def pH {α:Type} (w:α→Prop) (l:List α):Prop:=l.length≤maxLen ∧ ∀x∈l,w x
structure Mo.wf (M:Mo):Prop where
 tys:pH Xr M.tys
 aZ:pH Xs M.aZ
 fns:pH Xt M.fns
 cj:pH KD M.cj
 cM:pH KD M.cM
 gls:pH Xu M.gls
 exs:pH Xv M.exs
 sn:(aeq .u32 M.sn).wf=true
 els:pH Xw M.els
 bt:pH Xx M.bt
abbrev Mo.aJ (M:Mo):List PV:=[.ps M.tys.length 2 (M.tys.flatMap bW),.ps M.aZ.length 3 (M.aZ.flatMap bQ),.ps M.fns.length 3 (M.fns.flatMap aV),.ps M.cj.length 3 (M.cj.flatMap aN),.ps M.cM.length 3 (M.cM.flatMap aN),
 .ps M.gls.length 2 (M.gls.flatMap aY),.ps M.exs.length 3 (M.exs.flatMap aW),.sc (.bool M.st),.sc (.int .u32 M.sn),.ps M.els.length 2 (M.els.flatMap aX),.ps M.bt.length 2 (M.bt.flatMap bg)]
theorem bq {α:Type} {z:Nat} {enc:α→List PV} (hz : ∀x,(enc x).length=z) : ∀{l:List α} {k:Nat} {x:α},l[k]? = some x → ∀j,j<z→(l.flatMap enc).getD (k*z+j) .bK=(enc x).getD j .bK
 |y::r,0,x,h,j,hj=>by
  simp only[List.getElem?_cons_zero,Option.some.injEq] at h
  subst h
  rw[aeS,Nat.zero_mul,pj,cb,cb,List.getElem?_append_left (by rw[hz];exact hj)]
 |y::r,k+1,x,h,j,hj=>by
  simp only[List.getElem?_cons_succ] at h
  have ih:=bq hz h j hj
  rw[aeS,cb,List.getElem?_append_right (by rw[hz,pf];omega),hz,show(k+1)*z+j-z=k*z+j by rw[pf];omega,←cb]
  exact ih
theorem Eg {α:Type} {z:Nat} {enc:α→List PV} (hz : ∀x,(enc x).length=z) : ∀l:List α,(l.flatMap enc).length=l.length*z
 |[]=>by simp
 |x::r=>by rw[aeS,de,hz,Eg hz r,ma,pf];omega
section
variable {H:Type} {enc:TypeId×Value→H} {P:Program} {w:World} {base:Nat} {spare:Nat→Bool} {held:Bool}
theorem dB {t:TypeId} {ts:List TypeId} {fs:Array Field} (ht:P.underlying t=some (.struct fs)) (hz:P.cellsOf t=ts.length) (hf:(fs.toList.map fun f=>(f.offset,f.type))=ts.zipIdx.map fun q=>(q.2,q.1))
  (h1 : ∀t∈ts,P.cellsOf t=1) {fuel:Nat} {cs:List Value} {x:DataW H×List MemPlace} (h:aa0 enc P w base spare held fuel t cs=some x) :
  ∃m,cs.length=ts.length ∧ ∀(i:Nat) (u:TypeId),ts[i]? = some u → ∃y,aa0 enc P w base spare held m u ((cs.drop i).take 1)=some y:=by
 obtain⟨m,rfl,hlen,hg⟩:=jc ht h
 rw[hz] at hlen
 refine⟨m,hlen,fun i u hi=> ?_⟩
 obtain⟨f,q1,q2,q3⟩:=Xi (fs:=fs) (i:=i) (o:=i) (t:=u) (by rw[hf,List.getElem?_map,List.getElem?_zipIdx,hi];simp)
 obtain⟨y,hy⟩:=hg i f q1
 rw[q2,q3,h1 u (List.mem_of_getElem? hi)] at hy
 exact⟨y,hy⟩
structure FQ (P:Program) (tM sk so sr mY su sv sw sx uK uL vR z6 rG uM uN uO uP tL tI ti tu tn tt ts tb t8 tk:TypeId):Prop where
 ins : ∃fs,Xh P tL tI ti tu tn tt fs
 us:P.underlying ts=some .string
 ub:P.underlying tb=some .bool
 u8:P.underlying t8=some (.slice tk)
 uk:P.underlying tk=some (.int .u8)
 one:[ti,tu,tL,tt,ts,tb,t8,tk,sk,so,sr,mY,su,sv,sw,sx].all (fun t=>P.cellsOf t==1)=true
 sl : ∀q∈[(sk,uK),(so,uL),(sr,vR),(mY,rG),(su,uM),(sv,uN),(sw,uO),(sx,uP)],P.underlying q.1=some (.slice q.2)
 st : ∀q∈[(tM,[sk,so,sr,mY,mY,su,sv,tb,tu,sw,sx]),(uK,[ti,ti]),(uL,[ts,ts,ti]),(z6,[ti,tL]),(rG,[tu,tu,tb]),(uM,[tb,tL]),(uN,[ts,ti,tu]),(uO,[tL,tt]),(uP,[tL,t8])],
  ∃fs,P.underlying q.1=some (.struct fs)∧P.cellsOf q.1=q.2.length∧(fs.toList.map fun f=>(f.offset,f.type))=q.2.zipIdx.map fun q=>(q.2,q.1)
 fu : ∃fs,P.underlying vR=some (.struct fs)∧P.cellsOf vR=3∧(fs.toList.map fun f=>(f.offset,f.type))=[(0,ti),(1,z6)]
theorem nT {tt tu:TypeId} {k:IntKind} (ht:P.underlying tt=some (.slice tu)) (hu:P.underlying tu=some (.int k)) (h1:P.cellsOf tu=1) {fuel:Nat} {cs:List Value} {x:DataW H×List MemPlace}
  (h:aa0 enc P w base spare held fuel tt cs=some x) : ∃l:List Int,wfT k l∧bT w [pT k l] cs:=by
 obtain⟨l,w1,w2,k1⟩:=pG ht hu h1 h
 exact⟨l,⟨w1,w2⟩,k1⟩
end
section
variable {H:Type} {enc:TypeId×Value→H} {P:Program} {w:World} {base:Nat} {spare:Nat→Bool} {held:Bool} {tM sk so sr mY su sv sw sx uK uL vR z6 rG uM uN uO uP tL tI ti tu tn tt ts tb t8 tk:TypeId}
theorem FQ.c1 (T:FQ P tM sk so sr mY su sv sw sx uK uL vR z6 rG uM uN uO uP tL tI ti tu tn tt ts tb t8 tk) {t:TypeId} (h:t∈[ti,tu,tL,tt,ts,tb,t8,tk,sk,so,sr,mY,su,sv,sw,sx]):P.cellsOf t=1:=by
 simpa using List.all_eq_true.1 T.one t h
theorem z7 (T:FQ P tM sk so sr mY su sv sw sx uK uL vR z6 rG uM uN uO uP tL tI ti tu tn tt ts tb t8 tk) {fuel:Nat} {cs:List Value} {x:DataW H×List MemPlace} (h:aa0 enc P w base spare held fuel tt cs=some x) : ∃l:List Int,wfT .u32 l∧bT w [pT .u32 l] cs:=by
 obtain⟨fs,I⟩:=T.ins
 exact nT I.kt I.ku (T.c1 (by simp)) h
theorem z8 (T:FQ P tM sk so sr mY su sv sw sx uK uL vR z6 rG uM uN uO uP tL tI ti tu tn tt ts tb t8 tk) {fuel:Nat} {cs:List Value} {x:DataW H×List MemPlace} (h:aa0 enc P w base spare held fuel t8 cs=some x) : ∃l:List Int,wfT .u8 l∧bT w [pT .u8 l] cs:=
 nT T.u8 T.uk (T.c1 (by simp)) h
theorem jr (T:FQ P tM sk so sr mY su sv sw sx uK uL vR z6 rG uM uN uO uP tL tI ti tu tn tt ts tb t8 tk) {fuel:Nat} {cs:List Value} {x:DataW H×List MemPlace} (h:aa0 enc P w base spare held fuel tL cs=some x) : ∃l:List Ins,CF l∧bT w [pL l] cs:=by
 obtain⟨fs,I⟩:=T.ins
 exact D9 I fuel cs x h
theorem GB (T:FQ P tM sk so sr mY su sv sw sx uK uL vR z6 rG uM uN uO uP tL tI ti tu tn tt ts tb t8 tk) {fuel:Nat} {cs:List Value} {x:DataW H×List MemPlace} (h:aa0 enc P w base spare held fuel uK cs=some x) : ∃y:Ty,Xr y∧bT w (bW y) cs:=by
 obtain⟨fs,I⟩:=T.ins
 obtain⟨fs',q1,q2,q3⟩:=T.st (uK,[ti,ti]) (by simp)
 obtain⟨m,hlen,get⟩:=dB q1 q2 q3 (by simp[T.c1]) h
 match cs,hlen with
 |[u0,u1],_=>
  obtain⟨y0,e0⟩:=get 0 ti rfl
  obtain⟨y1,e1⟩:=get 1 ti rfl
  simp only[abj,aes,aeM,aeQ] at e0 e1
  obtain⟨n0,w0,k0⟩:=bU I.ki e0
  obtain⟨n1,w1,k1⟩:=bU I.ki e1
  exact⟨⟨n0,n1⟩,⟨w0,w1⟩,k0.cat (k1)⟩
theorem GC (T:FQ P tM sk so sr mY su sv sw sx uK uL vR z6 rG uM uN uO uP tL tI ti tu tn tt ts tb t8 tk) {fuel:Nat} {cs:List Value} {x:DataW H×List MemPlace} (h:aa0 enc P w base spare held fuel uL cs=some x) : ∃y:Im,Xs y∧bT w (bQ y) cs:=by
 obtain⟨fs,I⟩:=T.ins
 obtain⟨fs',q1,q2,q3⟩:=T.st (uL,[ts,ts,ti]) (by simp)
 obtain⟨m,hlen,get⟩:=dB q1 q2 q3 (by simp[T.c1]) h
 match cs,hlen with
 |[u0,u1,u2],_=>
  obtain⟨y0,e0⟩:=get 0 ts rfl
  obtain⟨y1,e1⟩:=get 1 ts rfl
  obtain⟨y2,e2⟩:=get 2 ti rfl
  simp only[abj,aes,aeM,aeQ] at e0 e1 e2
  obtain⟨n0,w0,k0⟩:=iZ T.us e0
  obtain⟨n1,w1,k1⟩:=iZ T.us e1
  obtain⟨n2,w2,k2⟩:=bU I.ki e2
  exact⟨⟨n0,n1,n2⟩,⟨w0,w1,w2⟩,k0.cat (k1.cat (k2))⟩
theorem yl (T:FQ P tM sk so sr mY su sv sw sx uK uL vR z6 rG uM uN uO uP tL tI ti tu tn tt ts tb t8 tk) {fuel:Nat} {cs:List Value} {x:DataW H×List MemPlace} (h:aa0 enc P w base spare held fuel rG cs=some x) : ∃y:Li,KD y∧bT w (aN y) cs:=by
 obtain⟨fs,I⟩:=T.ins
 obtain⟨fs',q1,q2,q3⟩:=T.st (rG,[tu,tu,tb]) (by simp)
 obtain⟨m,hlen,get⟩:=dB q1 q2 q3 (by simp[T.c1]) h
 match cs,hlen with
 |[u0,u1,u2],_=>
  obtain⟨y0,e0⟩:=get 0 tu rfl
  obtain⟨y1,e1⟩:=get 1 tu rfl
  obtain⟨y2,e2⟩:=get 2 tb rfl
  simp only[abj,aes,aeM,aeQ] at e0 e1 e2
  obtain⟨n0,w0,k0⟩:=bU I.ku e0
  obtain⟨n1,w1,k1⟩:=bU I.ku e1
  obtain⟨n2,k2⟩:=kP T.ub e2
  exact⟨⟨n0,n1,n2⟩,⟨w0,w1⟩,k0.cat (k1.cat (k2))⟩
theorem GD (T:FQ P tM sk so sr mY su sv sw sx uK uL vR z6 rG uM uN uO uP tL tI ti tu tn tt ts tb t8 tk) {fuel:Nat} {cs:List Value} {x:DataW H×List MemPlace} (h:aa0 enc P w base spare held fuel uM cs=some x) : ∃y:Gl,Xu y∧bT w (aY y) cs:=by
 obtain⟨fs,I⟩:=T.ins
 obtain⟨fs',q1,q2,q3⟩:=T.st (uM,[tb,tL]) (by simp)
 obtain⟨m,hlen,get⟩:=dB q1 q2 q3 (by simp[T.c1]) h
 match cs,hlen with
 |[u0,u1],_=>
  obtain⟨y0,e0⟩:=get 0 tb rfl
  obtain⟨y1,e1⟩:=get 1 tL rfl
  simp only[abj,aes,aeM,aeQ] at e0 e1
  obtain⟨n0,k0⟩:=kP T.ub e0
  obtain⟨n1,w1,k1⟩:=jr T e1
  exact⟨⟨n0,n1⟩,w1,k0.cat (k1)⟩
theorem GF (T:FQ P tM sk so sr mY su sv sw sx uK uL vR z6 rG uM uN uO uP tL tI ti tu tn tt ts tb t8 tk) {fuel:Nat} {cs:List Value} {x:DataW H×List MemPlace} (h:aa0 enc P w base spare held fuel uN cs=some x) : ∃y:Ex,Xv y∧bT w (aW y) cs:=by
 obtain⟨fs,I⟩:=T.ins
 obtain⟨fs',q1,q2,q3⟩:=T.st (uN,[ts,ti,tu]) (by simp)
 obtain⟨m,hlen,get⟩:=dB q1 q2 q3 (by simp[T.c1]) h
 match cs,hlen with
 |[u0,u1,u2],_=>
  obtain⟨y0,e0⟩:=get 0 ts rfl
  obtain⟨y1,e1⟩:=get 1 ti rfl
  obtain⟨y2,e2⟩:=get 2 tu rfl
  simp only[abj,aes,aeM,aeQ] at e0 e1 e2
  obtain⟨n0,w0,k0⟩:=iZ T.us e0
  obtain⟨n1,w1,k1⟩:=bU I.ki e1
  obtain⟨n2,w2,k2⟩:=bU I.ku e2
  exact⟨⟨n0,n1,n2⟩,⟨w0,w1,w2⟩,k0.cat (k1.cat (k2))⟩
theorem GG (T:FQ P tM sk so sr mY su sv sw sx uK uL vR z6 rG uM uN uO uP tL tI ti tu tn tt ts tb t8 tk) {fuel:Nat} {cs:List Value} {x:DataW H×List MemPlace} (h:aa0 enc P w base spare held fuel uO cs=some x) : ∃y:El,Xw y∧bT w (aX y) cs:=by
 obtain⟨fs,I⟩:=T.ins
 obtain⟨fs',q1,q2,q3⟩:=T.st (uO,[tL,tt]) (by simp)
 obtain⟨m,hlen,get⟩:=dB q1 q2 q3 (by simp[T.c1]) h
 match cs,hlen with
 |[u0,u1],_=>
  obtain⟨y0,e0⟩:=get 0 tL rfl
  obtain⟨y1,e1⟩:=get 1 tt rfl
  simp only[abj,aes,aeM,aeQ] at e0 e1
  obtain⟨n0,w0,k0⟩:=jr T e0
  obtain⟨n1,w1,k1⟩:=z7 T e1
  exact⟨⟨n0,n1⟩,⟨w0,w1⟩,k0.cat (k1)⟩
theorem GH (T:FQ P tM sk so sr mY su sv sw sx uK uL vR z6 rG uM uN uO uP tL tI ti tu tn tt ts tb t8 tk) {fuel:Nat} {cs:List Value} {x:DataW H×List MemPlace} (h:aa0 enc P w base spare held fuel uP cs=some x) : ∃y:Da,Xx y∧bT w (bg y) cs:=by
 obtain⟨fs,I⟩:=T.ins
 obtain⟨fs',q1,q2,q3⟩:=T.st (uP,[tL,t8]) (by simp)
 obtain⟨m,hlen,get⟩:=dB q1 q2 q3 (by simp[T.c1]) h
 match cs,hlen with
 |[u0,u1],_=>
  obtain⟨y0,e0⟩:=get 0 tL rfl
  obtain⟨y1,e1⟩:=get 1 t8 rfl
  simp only[abj,aes,aeM,aeQ] at e0 e1
  obtain⟨n0,w0,k0⟩:=jr T e0
  obtain⟨n1,w1,k1⟩:=z8 T e1
  exact⟨⟨n0,n1⟩,⟨w0,w1⟩,k0.cat (k1)⟩
theorem GI (T:FQ P tM sk so sr mY su sv sw sx uK uL vR z6 rG uM uN uO uP tL tI ti tu tn tt ts tb t8 tk) {fuel:Nat} {cs:List Value} {x:DataW H×List MemPlace} (h:aa0 enc P w base spare held fuel vR cs=some x) : ∃y:Fu,Xt y∧bT w (aV y) cs:=by
 obtain⟨fs,I⟩:=T.ins
 obtain⟨fs0,r1,r2,r3⟩:=T.fu
 obtain⟨fs',q1,q2,q3⟩:=T.st (z6,[ti,tL]) (by simp)
 obtain⟨m,rfl,hlen,hg⟩:=jc r1 h
 rw[r2] at hlen
 obtain⟨f0,a1,a2,a3⟩:=Xi (fs:=fs0) (i:=0) (o:=0) (t:=ti) (by rw[r3];rfl)
 obtain⟨f1,b1,b2,b3⟩:=Xi (fs:=fs0) (i:=1) (o:=1) (t:=z6) (by rw[r3];rfl)
 obtain⟨y0,e0⟩:=hg 0 f0 a1
 obtain⟨y1,e1⟩:=hg 1 f1 b1
 rw[a2,a3,T.c1 (t:=ti) (by simp)] at e0
 rw[b2,b3,q2] at e1
 match cs,hlen with
 |[u0,u1,u2],_=>
  simp only[abj,aes,aeM,aeQ,ma,abn,pj,Nat.reduceAdd] at e0 e1
  obtain⟨n,_,get⟩:=dB q1 q2 q3 (by simp[T.c1]) e1
  obtain⟨z0,g0⟩:=get 0 ti rfl
  obtain⟨z1,g1⟩:=get 1 tL rfl
  simp only[abj,aes,aeM,aeQ] at g0 g1
  obtain⟨n0,w0,k0⟩:=bU I.ki e0
  obtain⟨n1,w1,k1⟩:=bU I.ki g0
  obtain⟨n2,w2,k2⟩:=jr T g1
  exact⟨⟨n0,n1,n2⟩,⟨w0,w1,w2⟩,k0.cat (k1.cat k2)⟩
theorem eD {α:Type} {mm:α→List PV} {wf:α→Prop} {lt te:TypeId} {z:Nat} (hl:P.underlying lt=some (.slice te)) (hz:P.cellsOf te=z) (h1:1≤z) {fuel:Nat} {cs:List Value} {x:DataW H×List MemPlace} (h:aa0 enc P w base spare held fuel lt cs=some x)
  (hE : ∀(fuel:Nat) (us:List Value) y,aa0 enc P w base spare held fuel te us=some y → ∃a:α,wf a∧bT w (mm a) us) : ∃l:List α,pH wf l∧bT w [.ps l.length z (l.flatMap mm)] cs:=by
 obtain⟨l,a,b,c⟩:=jX (mm:=mm) (wf:=wf) hl (by omega) h fun n _ us y hy=>hE n us y hy
 rw[hz] at c
 exact⟨l,⟨a,b⟩,c⟩
theorem GJ (T:FQ P tM sk so sr mY su sv sw sx uK uL vR z6 rG uM uN uO uP tL tI ti tu tn tt ts tb t8 tk) {fuel:Nat} {cs:List Value} {x:DataW H×List MemPlace} (h:aa0 enc P w base spare held fuel tM cs=some x) : ∃M:Mo,M.wf∧bT w M.aJ cs:=by
 obtain⟨fs,I⟩:=T.ins
 obtain⟨fs',q1,q2,q3⟩:=T.st (tM,[sk,so,sr,mY,mY,su,sv,tb,tu,sw,sx]) (by simp)
 obtain⟨m,hlen,get⟩:=dB q1 q2 q3 (by simp[T.c1]) h
 have z : ∀t ts',(t,ts')∈[(tM,[sk,so,sr,mY,mY,su,sv,tb,tu,sw,sx]),(uK,[ti,ti]),(uL,[ts,ts,ti]),(z6,[ti,tL]),(rG,[tu,tu,tb]),(uM,[tb,tL]),(uN,[ts,ti,tu]),(uO,[tL,tt]),(uP,[tL,t8])]→P.cellsOf t=ts'.length:=
  fun t ts' hm=>by
   obtain⟨_,_,e,_⟩:=T.st (t,ts') hm
   exact e
 obtain⟨_,_,z3,_⟩:=T.fu
 match cs,hlen with
 |[u0,u1,u2,u3,u4,u5,u6,u7,u8,u9,u10],_=>
  obtain⟨y0,e0⟩:=get 0 sk rfl
  obtain⟨y1,e1⟩:=get 1 so rfl
  obtain⟨y2,e2⟩:=get 2 sr rfl
  obtain⟨y3,e3⟩:=get 3 mY rfl
  obtain⟨y4,e4⟩:=get 4 mY rfl
  obtain⟨y5,e5⟩:=get 5 su rfl
  obtain⟨y6,e6⟩:=get 6 sv rfl
  obtain⟨y7,e7⟩:=get 7 tb rfl
  obtain⟨y8,e8⟩:=get 8 tu rfl
  obtain⟨y9,e9⟩:=get 9 sw rfl
  obtain⟨y10,e10⟩:=get 10 sx rfl
  simp only[abj,aes,aeM,aeQ] at e0 e1 e2 e3 e4 e5 e6 e7 e8 e9 e10
  obtain⟨n0,w0,k0⟩:=eD (mm:=bW) (wf:=Xr) (T.sl (sk,uK) (by simp)) (z uK [ti,ti] (by simp)) (eh rfl) e0 fun _ _ _ g=>GB T g
  obtain⟨n1,w1,k1⟩:=eD (mm:=bQ) (wf:=Xs) (T.sl (so,uL) (by simp)) (z uL [ts,ts,ti] (by simp)) (eh rfl) e1 fun _ _ _ g=>GC T g
  obtain⟨n2,w2,k2⟩:=eD (mm:=aV) (wf:=Xt) (T.sl (sr,vR) (by simp)) z3 (eh rfl) e2 fun _ _ _ g=>GI T g
  obtain⟨n3,w3,k3⟩:=eD (mm:=aN) (wf:=KD) (T.sl (mY,rG) (by simp)) (z rG [tu,tu,tb] (by simp)) (eh rfl) e3 fun _ _ _ g=>yl T g
  obtain⟨n4,w4,k4⟩:=eD (mm:=aN) (wf:=KD) (T.sl (mY,rG) (by simp)) (z rG [tu,tu,tb] (by simp)) (eh rfl) e4 fun _ _ _ g=>yl T g
  obtain⟨n5,w5,k5⟩:=eD (mm:=aY) (wf:=Xu) (T.sl (su,uM) (by simp)) (z uM [tb,tL] (by simp)) (eh rfl) e5 fun _ _ _ g=>GD T g
  obtain⟨n6,w6,k6⟩:=eD (mm:=aW) (wf:=Xv) (T.sl (sv,uN) (by simp)) (z uN [ts,ti,tu] (by simp)) (eh rfl) e6 fun _ _ _ g=>GF T g
  obtain⟨n7,k7⟩:=kP T.ub e7
  obtain⟨n8,w8,k8⟩:=bU I.ku e8
  obtain⟨n9,w9,k9⟩:=eD (mm:=aX) (wf:=Xw) (T.sl (sw,uO) (by simp)) (z uO [tL,tt] (by simp)) (eh rfl) e9 fun _ _ _ g=>GG T g
  obtain⟨n10,w10,k10⟩:=eD (mm:=bg) (wf:=Xx) (T.sl (sx,uP) (by simp)) (z uP [tL,t8] (by simp)) (eh rfl) e10 fun _ _ _ g=>GH T g
  exact⟨⟨n0,n1,n2,n3,n4,n5,n6,n7,n8,n9,n10⟩,⟨w0,w1,w2,w3,w4,w5,w6,w8,w9,w10⟩,k0.cat (k1.cat (k2.cat (k3.cat (k4.cat (k5.cat (k6.cat (k7.cat (k8.cat (k9.cat (k10))))))))))⟩
end
end Go.Am
end
section
set_option linter.unusedSimpArgs false
set_option linter.unusedVariables false
namespace Go.Proofs.YtjfgfhaoeicpdaaGreatDoor.N
open Go Go.Am
def Xy:bD:=aQ aI av [(71,0)] [] []
def ab3:Sc:= .fin
def Td (M:Mo):aC:=
 (.at (ak ab5 env 71 0 [.mp 0 0,mq,.p (.ps M.aZ.length 3 (aeR bQ M.aZ)),sI .i64 (↑M.aZ.length:Int),sI .i64 0] ([.pc M.aJ]) 0 37))
theorem NO (M:Mo):aH ab5 env Xy 1000000 71 ([AV.agg (abG AV.p M.aJ)]) ([]) ab3=Td M:=by kernel_rfl
def Xz:bD:=aQ aI av [(98,0)] [] []
def ab4:Sc:= .fin
def Te (M:Mo):aC:=
 (.at (ak ab5 env 98 0 [.mp 0 0,mq,.p (.ps M.fns.length 3 (aeR aV M.fns)),sI .i64 (↑M.fns.length:Int),sI .i64 0] ([.pc M.aJ]) 0 66))
theorem NP (M:Mo):aH ab5 env Xz 1000000 98 ([AV.agg (abG AV.p M.aJ)]) ([]) ab4=Te M:=by kernel_rfl
def Tf:bD:=aQ aI av [(71,0),(71,2)] [(71,0,1)] [(71,5,0),(71,5,1)]
def XA:Sc:= .fin
def ym (M:Mo) (n:Nat) (k:Nat) (i:Nat) (cs:List PV) (a:List PV):aC:=
 (.test (decide ((↑i:Int)<(↑k:Int)))
 (.must (bp (↑i:Int) k&&true&&true)
 (.must (isStr (aB cs (aK i*3))&&(isStr (aB cs (aK i*3+1))&&(isInt rn (aB cs (aK i*3+1+1))&&true))&&true)
 (.at (ak ab5 env 71 0 [.mp 0 0,.os (some 1) 2 1 [.sc (.string (bI (aB cs (aK i*3)))),.sc (.string (bI (aB cs (aK i*3+1))))],.p (.ps k 3 cs),sI .i64 (↑k:Int),sI .i64 (rn.wrap ((↑i:Int)+1))] ([.pc M.aJ,.tok]) 0 37))))
 (.at (ak ab5 env 71 2 [mq,.p (.ps M.exs.length 3 (aeR aW M.exs)),sI .i64 (↑M.exs.length:Int),sI .i64 0] ([]) 0 37)))
theorem AZ (M:Mo) (n:Nat) (k:Nat) (i:Nat) (cs:List PV) (a:List PV):grow ab5 env Tf 1000000 true (ak ab5 env 71 0 ([AV.mp 0 0,AV.os acb 0 0 [],AV.p (PV.ps k 3 cs),sI rn (↑k:Int),sI rn (↑i:Int)]) ([aU.pc M.aJ]) 0 37) XA atEnd=ym M n k i cs a:=by kernel_rfl
def Tg:bD:=aQ aI av [(71,0),(71,2)] [(71,0,1)] [(71,5,0),(71,5,1),(71,6,6)]
def XB:Sc:= .fin
def yp (M:Mo) (n:Nat) (k:Nat) (i:Nat) (cs:List PV) (a:List PV):aC:=
 (.test (decide ((↑i:Int)<(↑k:Int)))
 (.must (bp (↑i:Int) k&&true&&true)
 (.must (isStr (aB cs (aK i*3))&&(isStr (aB cs (aK i*3+1))&&(isInt rn (aB cs (aK i*3+1+1))&&true))&&true)
 (.must (((n+2)*16).ble ef&&(n+2).ble ef&&true)
 (.at (ak ab5 env 71 0 [.mp 0 0,.os (some 1) (n+2) 1 (a++[.sc (.string (bI (aB cs (aK i*3)))),.sc (.string (bI (aB cs (aK i*3+1))))]),.p (.ps k 3 cs),sI .i64 (↑k:Int),sI .i64 (rn.wrap ((↑i:Int)+1))] ([.pc M.aJ,.tok]) 0 37)))))
 (.at (ak ab5 env 71 2 [.os (some 0) n 1 a,.p (.ps M.exs.length 3 (aeR aW M.exs)),sI .i64 (↑M.exs.length:Int),sI .i64 0] ([.tok]) 0 37)))
theorem A0 (M:Mo) (n:Nat) (k:Nat) (i:Nat) (cs:List PV) (a:List PV):grow ab5 env Tg 1000000 true (ak ab5 env 71 0 ([AV.mp 0 0,AV.os (acx 1) n 1 a,AV.p (PV.ps k 3 cs),sI rn (↑k:Int),sI rn (↑i:Int)]) ([aU.pc M.aJ,aU.tok]) 0 37) XB atEnd=yp M n k i cs a:=by kernel_rfl
def Th:bD:=aQ aI av [(71,0),(71,2)] [(71,0,3)] [(71,10,0),(71,10,1)]
def XC:Sc:= .fin
def yq (n:Nat) (k:Nat) (i:Nat) (cs:List PV) (a:List PV):aC:=
 (.test (decide ((↑i:Int)<(↑k:Int)))
 (.must (bp (↑i:Int) k&&true&&true)
 (.must (isStr (aB cs (aK i*3))&&(isInt rn (aB cs (aK i*3+1))&&(isInt abb (aB cs (aK i*3+1+1))&&true))&&true)
 (.at (ak ab5 env 71 2 [.os (some 0) 1 1 [.sc (.string (bI (aB cs (aK i*3))))],.p (.ps k 3 cs),sI .i64 (↑k:Int),sI .i64 (rn.wrap ((↑i:Int)+1))] ([.tok]) 0 37))))
 (.out (.ret (mq) [])))
theorem A1 (n:Nat) (k:Nat) (i:Nat) (cs:List PV) (a:List PV):grow ab5 env Th 1000000 true (ak ab5 env 71 2 ([AV.os acb 0 0 [],AV.p (PV.ps k 3 cs),sI rn (↑k:Int),sI rn (↑i:Int)]) ([]) 0 37) XC atEnd=yq n k i cs a:=by kernel_rfl
def Ti:bD:=aQ aI av [(71,0),(71,2)] [(71,0,3)] [(71,10,0),(71,10,1),(71,11,4)]
def XD:Sc:= .fin
def yu (n:Nat) (k:Nat) (i:Nat) (cs:List PV) (a:List PV):aC:=
 (.test (decide ((↑i:Int)<(↑k:Int)))
 (.must (bp (↑i:Int) k&&true&&true)
 (.must (isStr (aB cs (aK i*3))&&(isInt rn (aB cs (aK i*3+1))&&(isInt abb (aB cs (aK i*3+1+1))&&true))&&true)
 (.must (((n+1)*16).ble ef&&(n+1).ble ef&&true)
 (.at (ak ab5 env 71 2 [.os (some 0) (n+1) 1 (a++[.sc (.string (bI (aB cs (aK i*3))))]),.p (.ps k 3 cs),sI .i64 (↑k:Int),sI .i64 (rn.wrap ((↑i:Int)+1))] ([.tok]) 0 37)))))
 (.out (.ret (.os (some 0) n 1 a) [.tok])))
theorem A2 (n:Nat) (k:Nat) (i:Nat) (cs:List PV) (a:List PV):grow ab5 env Ti 1000000 true (ak ab5 env 71 2 ([AV.os (acx 0) n 1 a,AV.p (PV.ps k 3 cs),sI rn (↑k:Int),sI rn (↑i:Int)]) ([aU.tok]) 0 37) XD atEnd=yu n k i cs a:=by kernel_rfl
def Tj:bD:=aQ aI av [(98,0),(98,2)] [(98,0,1)] [(98,5,0),(98,5,1)]
def XE:Sc:= .fin
def yw (M:Mo) (n:Nat) (k:Nat) (i:Nat) (cs:List PV) (a:List PV):aC:=
 (.test (decide ((↑i:Int)<(↑k:Int)))
 (.must (bp (↑i:Int) k&&true&&true)
 (.must (isInt rn (aB cs (aK i*3))&&(isInt rn (aB cs (aK i*3+1))&&(bB (aB cs (aK i*3+1+1))&&true))&&true)
 (.at (ak ab5 env 98 0 [.mp 0 0,.os (some 1) 1 1 [.ps (aD (aB cs (aK i*3+1+1))) (bh (aB cs (aK i*3+1+1))) (au (aB cs (aK i*3+1+1)))],.p (.ps k 3 cs),sI .i64 (↑k:Int),sI .i64 (rn.wrap ((↑i:Int)+1))] ([.pc M.aJ,.tok]) 0 66))))
 (.at (ak ab5 env 98 2 [.mp 0 0,mq,.p (.ps M.gls.length 2 (aeR aY M.gls)),sI .i64 (↑M.gls.length:Int),sI .i64 0] ([.pc M.aJ]) 0 66)))
theorem A3 (M:Mo) (n:Nat) (k:Nat) (i:Nat) (cs:List PV) (a:List PV):grow ab5 env Tj 1000000 true (ak ab5 env 98 0 ([AV.mp 0 0,AV.os acb 0 0 [],AV.p (PV.ps k 3 cs),sI rn (↑k:Int),sI rn (↑i:Int)]) ([aU.pc M.aJ]) 0 66) XE atEnd=yw M n k i cs a:=by kernel_rfl
def Tk:bD:=aQ aI av [(98,0),(98,2)] [(98,0,1)] [(98,5,0),(98,5,1),(98,6,5)]
def XF:Sc:= .fin
def yx (M:Mo) (n:Nat) (k:Nat) (i:Nat) (cs:List PV) (a:List PV):aC:=
 (.test (decide ((↑i:Int)<(↑k:Int)))
 (.must (bp (↑i:Int) k&&true&&true)
 (.must (isInt rn (aB cs (aK i*3))&&(isInt rn (aB cs (aK i*3+1))&&(bB (aB cs (aK i*3+1+1))&&true))&&true)
 (.must (((n+1)*24).ble ef&&(n+1).ble ef&&true)
 (.at (ak ab5 env 98 0 [.mp 0 0,.os (some 1) (n+1) 1 (a++[.ps (aD (aB cs (aK i*3+1+1))) (bh (aB cs (aK i*3+1+1))) (au (aB cs (aK i*3+1+1)))]),.p (.ps k 3 cs),sI .i64 (↑k:Int),sI .i64 (rn.wrap ((↑i:Int)+1))] ([.pc M.aJ,.tok]) 0 66)))))
 (.at (ak ab5 env 98 2 [.mp 0 0,.os (some 1) n 1 a,.p (.ps M.gls.length 2 (aeR aY M.gls)),sI .i64 (↑M.gls.length:Int),sI .i64 0] ([.pc M.aJ,.tok]) 0 66)))
theorem A4 (M:Mo) (n:Nat) (k:Nat) (i:Nat) (cs:List PV) (a:List PV):grow ab5 env Tk 1000000 true (ak ab5 env 98 0 ([AV.mp 0 0,AV.os (acx 1) n 1 a,AV.p (PV.ps k 3 cs),sI rn (↑k:Int),sI rn (↑i:Int)]) ([aU.pc M.aJ,aU.tok]) 0 66) XF atEnd=yx M n k i cs a:=by kernel_rfl
def Tl:bD:=aQ aI av [(98,2),(98,4)] [(98,0,3)] [(98,10,0),(98,10,1)]
def XG:Sc:= .fin
def yy (M:Mo) (n:Nat) (k:Nat) (i:Nat) (cs:List PV) (a:List PV):aC:=
 (.test (decide ((↑i:Int)<(↑k:Int)))
 (.must (bp (↑i:Int) k&&true&&true)
 (.must (isBool (aB cs (aK i*2))&&(bB (aB cs (aK i*2+1))&&true)&&true)
 (.at (ak ab5 env 98 2 [.mp 0 0,.os (some 1) 1 1 [.ps (aD (aB cs (aK i*2+1))) (bh (aB cs (aK i*2+1))) (au (aB cs (aK i*2+1)))],.p (.ps k 2 cs),sI .i64 (↑k:Int),sI .i64 (rn.wrap ((↑i:Int)+1))] ([.pc M.aJ,.tok]) 0 66))))
 (.at (ak ab5 env 98 4 [.mp 0 0,mq,.p (.ps M.els.length 2 (aeR aX M.els)),sI .i64 (↑M.els.length:Int),sI .i64 0] ([.pc M.aJ]) 0 66)))
theorem A5 (M:Mo) (n:Nat) (k:Nat) (i:Nat) (cs:List PV) (a:List PV):grow ab5 env Tl 1000000 true (ak ab5 env 98 2 ([AV.mp 0 0,AV.os acb 0 0 [],AV.p (PV.ps k 2 cs),sI rn (↑k:Int),sI rn (↑i:Int)]) ([aU.pc M.aJ]) 0 66) XG atEnd=yy M n k i cs a:=by kernel_rfl
def Tm:bD:=aQ aI av [(98,2),(98,4)] [(98,0,3)] [(98,10,0),(98,10,1),(98,11,4)]
def XH:Sc:= .fin
def yz (M:Mo) (n:Nat) (k:Nat) (i:Nat) (cs:List PV) (a:List PV):aC:=
 (.test (decide ((↑i:Int)<(↑k:Int)))
 (.must (bp (↑i:Int) k&&true&&true)
 (.must (isBool (aB cs (aK i*2))&&(bB (aB cs (aK i*2+1))&&true)&&true)
 (.must (((n+1)*24).ble ef&&(n+1).ble ef&&true)
 (.at (ak ab5 env 98 2 [.mp 0 0,.os (some 1) (n+1) 1 (a++[.ps (aD (aB cs (aK i*2+1))) (bh (aB cs (aK i*2+1))) (au (aB cs (aK i*2+1)))]),.p (.ps k 2 cs),sI .i64 (↑k:Int),sI .i64 (rn.wrap ((↑i:Int)+1))] ([.pc M.aJ,.tok]) 0 66)))))
 (.at (ak ab5 env 98 4 [.mp 0 0,.os (some 1) n 1 a,.p (.ps M.els.length 2 (aeR aX M.els)),sI .i64 (↑M.els.length:Int),sI .i64 0] ([.pc M.aJ,.tok]) 0 66)))
theorem A6 (M:Mo) (n:Nat) (k:Nat) (i:Nat) (cs:List PV) (a:List PV):grow ab5 env Tm 1000000 true (ak ab5 env 98 2 ([AV.mp 0 0,AV.os (acx 1) n 1 a,AV.p (PV.ps k 2 cs),sI rn (↑k:Int),sI rn (↑i:Int)]) ([aU.pc M.aJ,aU.tok]) 0 66) XH atEnd=yz M n k i cs a:=by kernel_rfl
def Tn:bD:=aQ aI av [(98,4),(98,6)] [(98,0,5)] [(98,15,0),(98,15,1)]
def XI:Sc:= .fin
def yA (M:Mo) (n:Nat) (k:Nat) (i:Nat) (cs:List PV) (a:List PV):aC:=
 (.test (decide ((↑i:Int)<(↑k:Int)))
 (.must (bp (↑i:Int) k&&true&&true)
 (.must (bB (aB cs (aK i*2))&&(bB (aB cs (aK i*2+1))&&true)&&true)
 (.at (ak ab5 env 98 4 [.mp 0 0,.os (some 1) 1 1 [.ps (aD (aB cs (aK i*2))) (bh (aB cs (aK i*2))) (au (aB cs (aK i*2)))],.p (.ps k 2 cs),sI .i64 (↑k:Int),sI .i64 (rn.wrap ((↑i:Int)+1))] ([.pc M.aJ,.tok]) 0 66))))
 (.at (ak ab5 env 98 6 [mq,.p (.ps M.bt.length 2 (aeR bg M.bt)),sI .i64 (↑M.bt.length:Int),sI .i64 0] ([]) 0 66)))
theorem A7 (M:Mo) (n:Nat) (k:Nat) (i:Nat) (cs:List PV) (a:List PV):grow ab5 env Tn 1000000 true (ak ab5 env 98 4 ([AV.mp 0 0,AV.os acb 0 0 [],AV.p (PV.ps k 2 cs),sI rn (↑k:Int),sI rn (↑i:Int)]) ([aU.pc M.aJ]) 0 66) XI atEnd=yA M n k i cs a:=by kernel_rfl
def To:bD:=aQ aI av [(98,4),(98,6)] [(98,0,5)] [(98,15,0),(98,15,1),(98,16,4)]
def XJ:Sc:= .fin
def yB (M:Mo) (n:Nat) (k:Nat) (i:Nat) (cs:List PV) (a:List PV):aC:=
 (.test (decide ((↑i:Int)<(↑k:Int)))
 (.must (bp (↑i:Int) k&&true&&true)
 (.must (bB (aB cs (aK i*2))&&(bB (aB cs (aK i*2+1))&&true)&&true)
 (.must (((n+1)*24).ble ef&&(n+1).ble ef&&true)
 (.at (ak ab5 env 98 4 [.mp 0 0,.os (some 1) (n+1) 1 (a++[.ps (aD (aB cs (aK i*2))) (bh (aB cs (aK i*2))) (au (aB cs (aK i*2)))]),.p (.ps k 2 cs),sI .i64 (↑k:Int),sI .i64 (rn.wrap ((↑i:Int)+1))] ([.pc M.aJ,.tok]) 0 66)))))
 (.at (ak ab5 env 98 6 [.os (some 0) n 1 a,.p (.ps M.bt.length 2 (aeR bg M.bt)),sI .i64 (↑M.bt.length:Int),sI .i64 0] ([.tok]) 0 66)))
theorem A8 (M:Mo) (n:Nat) (k:Nat) (i:Nat) (cs:List PV) (a:List PV):grow ab5 env To 1000000 true (ak ab5 env 98 4 ([AV.mp 0 0,AV.os (acx 1) n 1 a,AV.p (PV.ps k 2 cs),sI rn (↑k:Int),sI rn (↑i:Int)]) ([aU.pc M.aJ,aU.tok]) 0 66) XJ atEnd=yB M n k i cs a:=by kernel_rfl
def Tp:bD:=aQ aI av [(98,6)] [(98,0,7)] [(98,20,0),(98,20,1)]
def XK:Sc:= .fin
def yC (n:Nat) (k:Nat) (i:Nat) (cs:List PV) (a:List PV):aC:=
 (.test (decide ((↑i:Int)<(↑k:Int)))
 (.must (bp (↑i:Int) k&&true&&true)
 (.must (bB (aB cs (aK i*2))&&(bB (aB cs (aK i*2+1))&&true)&&true)
 (.at (ak ab5 env 98 6 [.os (some 0) 1 1 [.ps (aD (aB cs (aK i*2))) (bh (aB cs (aK i*2))) (au (aB cs (aK i*2)))],.p (.ps k 2 cs),sI .i64 (↑k:Int),sI .i64 (rn.wrap ((↑i:Int)+1))] ([.tok]) 0 66))))
 (.out (.ret (mq) [])))
theorem A9 (n:Nat) (k:Nat) (i:Nat) (cs:List PV) (a:List PV):grow ab5 env Tp 1000000 true (ak ab5 env 98 6 ([AV.os acb 0 0 [],AV.p (PV.ps k 2 cs),sI rn (↑k:Int),sI rn (↑i:Int)]) ([]) 0 66) XK atEnd=yC n k i cs a:=by kernel_rfl
def Tq:bD:=aQ aI av [(98,6)] [(98,0,7)] [(98,20,0),(98,20,1),(98,21,4)]
def XL:Sc:= .fin
def yD (n:Nat) (k:Nat) (i:Nat) (cs:List PV) (a:List PV):aC:=
 (.test (decide ((↑i:Int)<(↑k:Int)))
 (.must (bp (↑i:Int) k&&true&&true)
 (.must (bB (aB cs (aK i*2))&&(bB (aB cs (aK i*2+1))&&true)&&true)
 (.must (((n+1)*24).ble ef&&(n+1).ble ef&&true)
 (.at (ak ab5 env 98 6 [.os (some 0) (n+1) 1 (a++[.ps (aD (aB cs (aK i*2))) (bh (aB cs (aK i*2))) (au (aB cs (aK i*2)))]),.p (.ps k 2 cs),sI .i64 (↑k:Int),sI .i64 (rn.wrap ((↑i:Int)+1))] ([.tok]) 0 66)))))
 (.out (.ret (.os (some 0) n 1 a) [.tok])))
theorem Ba (n:Nat) (k:Nat) (i:Nat) (cs:List PV) (a:List PV):grow ab5 env Tq 1000000 true (ak ab5 env 98 6 ([AV.os (acx 0) n 1 a,AV.p (PV.ps k 2 cs),sI rn (↑k:Int),sI rn (↑i:Int)]) ([aU.tok]) 0 66) XL atEnd=yD n k i cs a:=by kernel_rfl
structure _root_.Go.Am.Mo.fit (M:Mo):Prop where
 tys:M.tys.length≤1000000
 aZ:M.aZ.length≤1000000
 fns:M.fns.length≤1000000
 cj:M.cj.length≤1000000
 cM:M.cM.length≤1000000
 gls:M.gls.length≤1000000
 exs:M.exs.length≤1000000
 els:M.els.length≤1000000
 bt:M.bt.length≤1000000
theorem KE:(1000000000:Nat)≤ef:=eh (by kernel_rfl)
theorem oD {α:Type} {l:List α} {f:α→List PV} {D:List PV→Nat→cm} {K:List PV→Prop} {o:Out} {B:Nat}
  (step : ∀(a:List PV) (i:Nat) (x:α),l[i]? = some x→(a++f x).length≤B→bR ab5 env (D (a++f x) (i+1)) o→bR ab5 env (D a i) o)
  (fin : ∀a:List PV,K a→bR ab5 env (D a l.length) o) :
  ∀(r i:Nat) (a:List PV),i+r=l.length→(a++(l.drop i).flatMap f).length≤B→K (a++(l.drop i).flatMap f)→bR ab5 env (D a i) o:=by
 intro r
 induction r with
 |zero=>
  intro i a hi hB h
  obtain rfl:i=l.length:=by omega
  rw[List.drop_length,List.flatMap_nil,List.append_nil] at h
  exact fin a h
 |succ r ih=>
  intro i a hi hB h
  have hl:i<l.length:=by omega
  rw[List.drop_eq_getElem_cons hl,aeS,←List.append_assoc] at h hB
  refine step a i l[i] (List.getElem?_eq_getElem hl) ?_ (ih (i+1) _ (by omega) hB h)
  rw[de] at hB
  omega
def NQ (a:List PV):Out:=if a=[] then .ret (.os none 0 0 []) [] else .ret (.os (some 0) a.length 1 a) [.tok]
def V7 (x:Im):List PV:=[.sc (.string x.mo),.sc (.string x.nm)]
def nmE (x:Ex):List PV:=[.sc (.string x.nm)]
def V8 (x:Fu):List PV:=[pL x.l]
def XM (x:Gl):List PV:=[pL x.l]
def cdE (x:El):List PV:=[pL x.l]
def cdD (x:Da):List PV:=[pL x.l]
def KF (M:Mo) (a:List PV) (i:Nat):cm:=
 if a=[] then ak ab5 env 71 0 [.mp 0 0,.os none 0 0 [],.p (.ps M.aZ.length 3 (M.aZ.flatMap bQ)),sI .i64 M.aZ.length,sI .i64 i] [.pc M.aJ] 0 37
 else ak ab5 env 71 0 [.mp 0 0,.os (some 1) a.length 1 a,.p (.ps M.aZ.length 3 (M.aZ.flatMap bQ)),sI .i64 M.aZ.length,sI .i64 i] [.pc M.aJ,.tok] 0 37
def GK (M:Mo) (a:List PV) (i:Nat):cm:=
 if a=[] then ak ab5 env 71 2 [.os none 0 0 [],.p (.ps M.exs.length 3 (M.exs.flatMap aW)),sI .i64 M.exs.length,sI .i64 i] [] 0 37
 else ak ab5 env 71 2 [.os (some 0) a.length 1 a,.p (.ps M.exs.length 3 (M.exs.flatMap aW)),sI .i64 M.exs.length,sI .i64 i] [.tok] 0 37
theorem KG (M:Mo) (hM:M.fit) (o:Out) (a:List PV) (i:Nat) (x:Im) (hx:M.aZ[i]? = some x) (hB:(a++V7 x).length≤10000000) (h:bR ab5 env (KF M (a++V7 x) (i+1)) o):bR ab5 env (KF M a i) o:=by
 have hi:i<M.aZ.length:=(di.1 hx).1
 have c:=bq (z:=3) (enc:=bQ) (fun _=>rfl) hx
 have c0:(M.aZ.flatMap bQ).getD (i*3) .bK = .sc (.string x.mo):=c 0 (by decide)
 have c1:(M.aZ.flatMap bQ).getD (i*3+1) .bK = .sc (.string x.nm):=c 1 (by decide)
 have c2:(M.aZ.flatMap bQ).getD (i*3+1+1) .bK = .sc (.int .i64 x.ty):=c 2 (by decide)
 have hl:=hM.aZ
 have hL:=KE
 have w:rn.wrap ((i:Int)+1)=((i+1:Nat):Int):=by rw[aO (by omega) (by omega)];rfl
 have hd:decide ((i:Int)<(M.aZ.length:Int))=true:=by simp;omega
 unfold KF at h ⊢
 by_cases e:a=[]
 · subst e
   rw[if_neg (by simp[V7]),M2] at h
   rw[if_pos rfl]
   refine ah aM (AZ M 0 M.aZ.length i (M.aZ.flatMap bQ) []) ?_
   simp only[ym,bN,aC.ok,isStr,isInt,bB,isBool,bI,az,bu,aD,bh,au,bp,aep,c0,c1,c2,hd,w]
   exact⟨fun _=>⟨by first | (simp;done) | (simp;omega),rfl,h⟩,fun q=>by cases q⟩
 · rw[if_neg (by simp[e])] at h
   rw[if_neg e]
   refine ah aM (A0 M a.length M.aZ.length i (M.aZ.flatMap bQ) a) ?_
   rw[de] at h hB
   have hB:a.length+2≤10000000:=hB
   simp only[yp,bN,aC.ok,isStr,isInt,bB,isBool,bI,az,bu,aD,bh,au,bp,aep,c0,c1,c2,hd,w]
   exact⟨fun _=>⟨by first | (simp;done) | (simp;omega),rfl,by simp only[aeU,ch,aeT];omega,h⟩,fun q=>by cases q⟩
theorem NR (M:Mo) (o:Out) (a:List PV) (h:bR ab5 env (GK M a 0) o):bR ab5 env (KF M a M.aZ.length) o:=by
 have hd:decide ((M.aZ.length:Int)<(M.aZ.length:Int))=false:=by simp
 unfold GK at h
 unfold KF
 by_cases e:a=[]
 · subst e
   rw[if_pos rfl] at h ⊢
   refine ah aM (AZ M 0 M.aZ.length M.aZ.length (M.aZ.flatMap bQ) []) ?_
   simp only[ym,bN,aC.ok,hd]
   exact⟨fun q=>(by cases q),fun _=>h⟩
 · rw[if_neg e] at h ⊢
   refine ah aM (A0 M a.length M.aZ.length M.aZ.length (M.aZ.flatMap bQ) a) ?_
   simp only[yp,bN,aC.ok,hd]
   exact⟨fun q=>(by cases q),fun _=>h⟩
theorem KH (M:Mo) (hM:M.fit) (o:Out) (a:List PV) (i:Nat) (x:Ex) (hx:M.exs[i]? = some x) (hB:(a++nmE x).length≤10000000) (h:bR ab5 env (GK M (a++nmE x) (i+1)) o):bR ab5 env (GK M a i) o:=by
 have hi:i<M.exs.length:=(di.1 hx).1
 have c:=bq (z:=3) (enc:=aW) (fun _=>rfl) hx
 have c0:(M.exs.flatMap aW).getD (i*3) .bK = .sc (.string x.nm):=c 0 (by decide)
 have c1:(M.exs.flatMap aW).getD (i*3+1) .bK = .sc (.int .i64 x.kind):=c 1 (by decide)
 have c2:(M.exs.flatMap aW).getD (i*3+1+1) .bK = .sc (.int .u32 x.ix):=c 2 (by decide)
 have hl:=hM.exs
 have hL:=KE
 have w:rn.wrap ((i:Int)+1)=((i+1:Nat):Int):=by rw[aO (by omega) (by omega)];rfl
 have hd:decide ((i:Int)<(M.exs.length:Int))=true:=by simp;omega
 unfold GK at h ⊢
 by_cases e:a=[]
 · subst e
   rw[if_neg (by simp[nmE]),M2] at h
   rw[if_pos rfl]
   refine ah aM (A1 0 M.exs.length i (M.exs.flatMap aW) []) ?_
   simp only[yq,bN,aC.ok,isStr,isInt,bB,isBool,bI,az,bu,aD,bh,au,bp,aep,c0,c1,c2,hd,w]
   exact⟨fun _=>⟨by first | (simp;done) | (simp;omega),rfl,h⟩,fun q=>by cases q⟩
 · rw[if_neg (by simp[e])] at h
   rw[if_neg e]
   refine ah aM (A2 a.length M.exs.length i (M.exs.flatMap aW) a) ?_
   rw[de] at h hB
   have hB:a.length+1≤10000000:=hB
   simp only[yu,bN,aC.ok,isStr,isInt,bB,isBool,bI,az,bu,aD,bh,au,bp,aep,c0,c1,c2,hd,w]
   exact⟨fun _=>⟨by first | (simp;done) | (simp;omega),rfl,by simp only[aeU,ch,aeT];omega,h⟩,fun q=>by cases q⟩
theorem NS (M:Mo) (o:Out) (a:List PV) (h:NQ a=o):bR ab5 env (GK M a M.exs.length) o:=by
 have hd:decide ((M.exs.length:Int)<(M.exs.length:Int))=false:=by simp
 unfold NQ at h
 unfold GK
 by_cases e:a=[]
 · subst e
   rw[if_pos rfl] at h ⊢
   refine ah aM (A1 0 M.exs.length M.exs.length (M.exs.flatMap aW) []) ?_
   simp only[yq,bN,aC.ok,hd]
   exact⟨fun q=>(by cases q),fun _=>h⟩
 · rw[if_neg e] at h ⊢
   refine ah aM (A2 a.length M.exs.length M.exs.length (M.exs.flatMap aW) a) ?_
   simp only[yu,bN,aC.ok,hd]
   exact⟨fun q=>(by cases q),fun _=>h⟩
def KI (M:Mo) (a:List PV) (i:Nat):cm:=
 if a=[] then ak ab5 env 98 0 [.mp 0 0,.os none 0 0 [],.p (.ps M.fns.length 3 (M.fns.flatMap aV)),sI .i64 M.fns.length,sI .i64 i] [.pc M.aJ] 0 66
 else ak ab5 env 98 0 [.mp 0 0,.os (some 1) a.length 1 a,.p (.ps M.fns.length 3 (M.fns.flatMap aV)),sI .i64 M.fns.length,sI .i64 i] [.pc M.aJ,.tok] 0 66
def GL (M:Mo) (a:List PV) (i:Nat):cm:=
 if a=[] then ak ab5 env 98 2 [.mp 0 0,.os none 0 0 [],.p (.ps M.gls.length 2 (M.gls.flatMap aY)),sI .i64 M.gls.length,sI .i64 i] [.pc M.aJ] 0 66
 else ak ab5 env 98 2 [.mp 0 0,.os (some 1) a.length 1 a,.p (.ps M.gls.length 2 (M.gls.flatMap aY)),sI .i64 M.gls.length,sI .i64 i] [.pc M.aJ,.tok] 0 66
def GM (M:Mo) (a:List PV) (i:Nat):cm:=
 if a=[] then ak ab5 env 98 4 [.mp 0 0,.os none 0 0 [],.p (.ps M.els.length 2 (M.els.flatMap aX)),sI .i64 M.els.length,sI .i64 i] [.pc M.aJ] 0 66
 else ak ab5 env 98 4 [.mp 0 0,.os (some 1) a.length 1 a,.p (.ps M.els.length 2 (M.els.flatMap aX)),sI .i64 M.els.length,sI .i64 i] [.pc M.aJ,.tok] 0 66
def GN (M:Mo) (a:List PV) (i:Nat):cm:=
 if a=[] then ak ab5 env 98 6 [.os none 0 0 [],.p (.ps M.bt.length 2 (M.bt.flatMap bg)),sI .i64 M.bt.length,sI .i64 i] [] 0 66
 else ak ab5 env 98 6 [.os (some 0) a.length 1 a,.p (.ps M.bt.length 2 (M.bt.flatMap bg)),sI .i64 M.bt.length,sI .i64 i] [.tok] 0 66
theorem KJ (M:Mo) (hM:M.fit) (o:Out) (a:List PV) (i:Nat) (x:Fu) (hx:M.fns[i]? = some x) (hB:(a++V8 x).length≤10000000) (h:bR ab5 env (KI M (a++V8 x) (i+1)) o):bR ab5 env (KI M a i) o:=by
 have hi:i<M.fns.length:=(di.1 hx).1
 have c:=bq (z:=3) (enc:=aV) (fun _=>rfl) hx
 have c0:(M.fns.flatMap aV).getD (i*3) .bK = .sc (.int .i64 x.ty):=c 0 (by decide)
 have c1:(M.fns.flatMap aV).getD (i*3+1) .bK = .sc (.int .i64 x.lo):=c 1 (by decide)
 have c2:(M.fns.flatMap aV).getD (i*3+1+1) .bK=pL x.l:=c 2 (by decide)
 have hl:=hM.fns
 have hL:=KE
 have w:rn.wrap ((i:Int)+1)=((i+1:Nat):Int):=by rw[aO (by omega) (by omega)];rfl
 have hd:decide ((i:Int)<(M.fns.length:Int))=true:=by simp;omega
 unfold KI at h ⊢
 by_cases e:a=[]
 · subst e
   rw[if_neg (by simp[V8]),M2] at h
   rw[if_pos rfl]
   refine ah aM (A3 M 0 M.fns.length i (M.fns.flatMap aV) []) ?_
   simp only[yw,bN,aC.ok,isStr,isInt,bB,isBool,bI,az,bu,aD,bh,au,bp,aep,c0,c1,c2,hd,w]
   exact⟨fun _=>⟨by first | (simp;done) | (simp;omega),rfl,h⟩,fun q=>by cases q⟩
 · rw[if_neg (by simp[e])] at h
   rw[if_neg e]
   refine ah aM (A4 M a.length M.fns.length i (M.fns.flatMap aV) a) ?_
   rw[de] at h hB
   have hB:a.length+1≤10000000:=hB
   simp only[yx,bN,aC.ok,isStr,isInt,bB,isBool,bI,az,bu,aD,bh,au,bp,aep,c0,c1,c2,hd,w]
   exact⟨fun _=>⟨by first | (simp;done) | (simp;omega),rfl,by simp only[aeU,ch,aeT];omega,h⟩,fun q=>by cases q⟩
theorem NT (M:Mo) (o:Out) (a:List PV) (h:bR ab5 env (GL M a 0) o):bR ab5 env (KI M a M.fns.length) o:=by
 have hd:decide ((M.fns.length:Int)<(M.fns.length:Int))=false:=by simp
 unfold GL at h
 unfold KI
 by_cases e:a=[]
 · subst e
   rw[if_pos rfl] at h ⊢
   refine ah aM (A3 M 0 M.fns.length M.fns.length (M.fns.flatMap aV) []) ?_
   simp only[yw,bN,aC.ok,hd]
   exact⟨fun q=>(by cases q),fun _=>h⟩
 · rw[if_neg e] at h ⊢
   refine ah aM (A4 M a.length M.fns.length M.fns.length (M.fns.flatMap aV) a) ?_
   simp only[yx,bN,aC.ok,hd]
   exact⟨fun q=>(by cases q),fun _=>h⟩
theorem KK (M:Mo) (hM:M.fit) (o:Out) (a:List PV) (i:Nat) (x:Gl) (hx:M.gls[i]? = some x) (hB:(a++XM x).length≤10000000) (h:bR ab5 env (GL M (a++XM x) (i+1)) o):bR ab5 env (GL M a i) o:=by
 have hi:i<M.gls.length:=(di.1 hx).1
 have c:=bq (z:=2) (enc:=aY) (fun _=>rfl) hx
 have c0:(M.gls.flatMap aY).getD (i*2) .bK = .sc (.bool x.mu):=c 0 (by decide)
 have c1:(M.gls.flatMap aY).getD (i*2+1) .bK=pL x.l:=c 1 (by decide)
 have hl:=hM.gls
 have hL:=KE
 have w:rn.wrap ((i:Int)+1)=((i+1:Nat):Int):=by rw[aO (by omega) (by omega)];rfl
 have hd:decide ((i:Int)<(M.gls.length:Int))=true:=by simp;omega
 unfold GL at h ⊢
 by_cases e:a=[]
 · subst e
   rw[if_neg (by simp[XM]),M2] at h
   rw[if_pos rfl]
   refine ah aM (A5 M 0 M.gls.length i (M.gls.flatMap aY) []) ?_
   simp only[yy,bN,aC.ok,isStr,isInt,bB,isBool,bI,az,bu,aD,bh,au,bp,aep,c0,c1,hd,w]
   exact⟨fun _=>⟨by first | (simp;done) | (simp;omega),rfl,h⟩,fun q=>by cases q⟩
 · rw[if_neg (by simp[e])] at h
   rw[if_neg e]
   refine ah aM (A6 M a.length M.gls.length i (M.gls.flatMap aY) a) ?_
   rw[de] at h hB
   have hB:a.length+1≤10000000:=hB
   simp only[yz,bN,aC.ok,isStr,isInt,bB,isBool,bI,az,bu,aD,bh,au,bp,aep,c0,c1,hd,w]
   exact⟨fun _=>⟨by first | (simp;done) | (simp;omega),rfl,by simp only[aeU,ch,aeT];omega,h⟩,fun q=>by cases q⟩
theorem NU (M:Mo) (o:Out) (a:List PV) (h:bR ab5 env (GM M a 0) o):bR ab5 env (GL M a M.gls.length) o:=by
 have hd:decide ((M.gls.length:Int)<(M.gls.length:Int))=false:=by simp
 unfold GM at h
 unfold GL
 by_cases e:a=[]
 · subst e
   rw[if_pos rfl] at h ⊢
   refine ah aM (A5 M 0 M.gls.length M.gls.length (M.gls.flatMap aY) []) ?_
   simp only[yy,bN,aC.ok,hd]
   exact⟨fun q=>(by cases q),fun _=>h⟩
 · rw[if_neg e] at h ⊢
   refine ah aM (A6 M a.length M.gls.length M.gls.length (M.gls.flatMap aY) a) ?_
   simp only[yz,bN,aC.ok,hd]
   exact⟨fun q=>(by cases q),fun _=>h⟩
theorem KL (M:Mo) (hM:M.fit) (o:Out) (a:List PV) (i:Nat) (x:El) (hx:M.els[i]? = some x) (hB:(a++cdE x).length≤10000000) (h:bR ab5 env (GM M (a++cdE x) (i+1)) o):bR ab5 env (GM M a i) o:=by
 have hi:i<M.els.length:=(di.1 hx).1
 have c:=bq (z:=2) (enc:=aX) (fun _=>rfl) hx
 have c0:(M.els.flatMap aX).getD (i*2) .bK=pL x.l:=c 0 (by decide)
 have c1:(M.els.flatMap aX).getD (i*2+1) .bK=pT .u32 x.fs:=c 1 (by decide)
 have hl:=hM.els
 have hL:=KE
 have w:rn.wrap ((i:Int)+1)=((i+1:Nat):Int):=by rw[aO (by omega) (by omega)];rfl
 have hd:decide ((i:Int)<(M.els.length:Int))=true:=by simp;omega
 unfold GM at h ⊢
 by_cases e:a=[]
 · subst e
   rw[if_neg (by simp[cdE]),M2] at h
   rw[if_pos rfl]
   refine ah aM (A7 M 0 M.els.length i (M.els.flatMap aX) []) ?_
   simp only[yA,bN,aC.ok,isStr,isInt,bB,isBool,bI,az,bu,aD,bh,au,bp,aep,c0,c1,hd,w]
   exact⟨fun _=>⟨by first | (simp;done) | (simp;omega),rfl,h⟩,fun q=>by cases q⟩
 · rw[if_neg (by simp[e])] at h
   rw[if_neg e]
   refine ah aM (A8 M a.length M.els.length i (M.els.flatMap aX) a) ?_
   rw[de] at h hB
   have hB:a.length+1≤10000000:=hB
   simp only[yB,bN,aC.ok,isStr,isInt,bB,isBool,bI,az,bu,aD,bh,au,bp,aep,c0,c1,hd,w]
   exact⟨fun _=>⟨by first | (simp;done) | (simp;omega),rfl,by simp only[aeU,ch,aeT];omega,h⟩,fun q=>by cases q⟩
theorem NV (M:Mo) (o:Out) (a:List PV) (h:bR ab5 env (GN M a 0) o):bR ab5 env (GM M a M.els.length) o:=by
 have hd:decide ((M.els.length:Int)<(M.els.length:Int))=false:=by simp
 unfold GN at h
 unfold GM
 by_cases e:a=[]
 · subst e
   rw[if_pos rfl] at h ⊢
   refine ah aM (A7 M 0 M.els.length M.els.length (M.els.flatMap aX) []) ?_
   simp only[yA,bN,aC.ok,hd]
   exact⟨fun q=>(by cases q),fun _=>h⟩
 · rw[if_neg e] at h ⊢
   refine ah aM (A8 M a.length M.els.length M.els.length (M.els.flatMap aX) a) ?_
   simp only[yB,bN,aC.ok,hd]
   exact⟨fun q=>(by cases q),fun _=>h⟩
theorem KM (M:Mo) (hM:M.fit) (o:Out) (a:List PV) (i:Nat) (x:Da) (hx:M.bt[i]? = some x) (hB:(a++cdD x).length≤10000000) (h:bR ab5 env (GN M (a++cdD x) (i+1)) o):bR ab5 env (GN M a i) o:=by
 have hi:i<M.bt.length:=(di.1 hx).1
 have c:=bq (z:=2) (enc:=bg) (fun _=>rfl) hx
 have c0:(M.bt.flatMap bg).getD (i*2) .bK=pL x.l:=c 0 (by decide)
 have c1:(M.bt.flatMap bg).getD (i*2+1) .bK=pT .u8 x.bs:=c 1 (by decide)
 have hl:=hM.bt
 have hL:=KE
 have w:rn.wrap ((i:Int)+1)=((i+1:Nat):Int):=by rw[aO (by omega) (by omega)];rfl
 have hd:decide ((i:Int)<(M.bt.length:Int))=true:=by simp;omega
 unfold GN at h ⊢
 by_cases e:a=[]
 · subst e
   rw[if_neg (by simp[cdD]),M2] at h
   rw[if_pos rfl]
   refine ah aM (A9 0 M.bt.length i (M.bt.flatMap bg) []) ?_
   simp only[yC,bN,aC.ok,isStr,isInt,bB,isBool,bI,az,bu,aD,bh,au,bp,aep,c0,c1,hd,w]
   exact⟨fun _=>⟨by first | (simp;done) | (simp;omega),rfl,h⟩,fun q=>by cases q⟩
 · rw[if_neg (by simp[e])] at h
   rw[if_neg e]
   refine ah aM (Ba a.length M.bt.length i (M.bt.flatMap bg) a) ?_
   rw[de] at h hB
   have hB:a.length+1≤10000000:=hB
   simp only[yD,bN,aC.ok,isStr,isInt,bB,isBool,bI,az,bu,aD,bh,au,bp,aep,c0,c1,hd,w]
   exact⟨fun _=>⟨by first | (simp;done) | (simp;omega),rfl,by simp only[aeU,ch,aeT];omega,h⟩,fun q=>by cases q⟩
theorem NW (M:Mo) (o:Out) (a:List PV) (h:NQ a=o):bR ab5 env (GN M a M.bt.length) o:=by
 have hd:decide ((M.bt.length:Int)<(M.bt.length:Int))=false:=by simp
 unfold NQ at h
 unfold GN
 by_cases e:a=[]
 · subst e
   rw[if_pos rfl] at h ⊢
   refine ah aM (A9 0 M.bt.length M.bt.length (M.bt.flatMap bg) []) ?_
   simp only[yC,bN,aC.ok,hd]
   exact⟨fun q=>(by cases q),fun _=>h⟩
 · rw[if_neg e] at h ⊢
   refine ah aM (Ba a.length M.bt.length M.bt.length (M.bt.flatMap bg) a) ?_
   simp only[yD,bN,aC.ok,hd]
   exact⟨fun q=>(by cases q),fun _=>h⟩
theorem gq {α:Type} {f:α→List PV} {n:Nat} (h : ∀x,(f x).length=n) (l:List α):(l.flatMap f).length=l.length*n:=Eg h l
theorem Bb {f:FuncId} {args:List AV} {a:List PV} (h : ∀v m',NQ a = .ret v m'→an ab5 env f args [] v m'):an ab5 env f args [] (.p (.ps a.length 1 a)) []:=by
 by_cases e:a=[]
 · subst e
   exact an.nil (h _ _ (if_pos rfl)) (Nat.le_refl 1)
 · exact an.pure (h _ _ (if_neg e))
def NX (M:Mo):List PV:=M.aZ.flatMap V7++M.exs.flatMap nmE
def Tr (M:Mo):List PV:=M.fns.flatMap V8++M.gls.flatMap XM++M.els.flatMap cdE++M.bt.flatMap cdD
theorem GO (M:Mo) (hM:M.fit):an ab5 env 71 [.agg (M.aJ.map .p)] [] (.p (.ps (NX M).length 1 (NX M))) []:=by
 have h1:=hM.aZ
 have h2:=hM.exs
 have l1:=gq (f:=V7) (n:=2) (fun _=>rfl) M.aZ
 have l2:=gq (f:=nmE) (n:=1) (fun _=>rfl) M.exs
 refine Bb fun v m' e=> ?_
 refine af aM (NO M) ?_
 have k2:=oD (B:=10000000) (KH M hM (.ret v m')) (NS M _) M.exs.length 0 (M.aZ.flatMap V7) (by omega) (by simp only[abj,de];omega) e
 have k1:=oD (B:=10000000) (KG M hM (.ret v m')) (NR M _) M.aZ.length 0 [] (by omega) (by simp only[abj,de,abn];omega) k2
 unfold KF at k1
 rw[if_pos rfl] at k1
 exact k1
theorem GP (M:Mo) (hM:M.fit):an ab5 env 98 [.agg (M.aJ.map .p)] [] (.p (.ps (Tr M).length 1 (Tr M))) []:=by
 have h1:=hM.fns
 have h2:=hM.gls
 have h3:=hM.els
 have h4:=hM.bt
 have l1:=gq (f:=V8) (n:=1) (fun _=>rfl) M.fns
 have l2:=gq (f:=XM) (n:=1) (fun _=>rfl) M.gls
 have l3:=gq (f:=cdE) (n:=1) (fun _=>rfl) M.els
 have l4:=gq (f:=cdD) (n:=1) (fun _=>rfl) M.bt
 refine Bb fun v m' e=> ?_
 refine af aM (NP M) ?_
 have k4:=oD (B:=10000000) (KM M hM (.ret v m')) (NW M _) M.bt.length 0 (M.fns.flatMap V8++M.gls.flatMap XM++M.els.flatMap cdE) (by omega) (by simp only[abj,de];omega) e
 have k3:=oD (B:=10000000) (KL M hM (.ret v m')) (NV M _) M.els.length 0 (M.fns.flatMap V8++M.gls.flatMap XM) (by omega) (by simp only[abj,de];omega) k4
 have k2:=oD (B:=10000000) (KK M hM (.ret v m')) (NU M _) M.gls.length 0 (M.fns.flatMap V8) (by omega) (by simp only[abj,de];omega) k3
 have k1:=oD (B:=10000000) (KJ M hM (.ret v m')) (NT M _) M.fns.length 0 [] (by omega) (by simp only[abj,de,abn];omega) k2
 unfold KI at k1
 rw[if_pos rfl] at k1
 exact k1
def KN:bE:=⟨140,[.p (.sc (.string ⟨#[101,113,122,32,101,113,32,110,101,32,108,116,95,115,32,108,116,95,117,32,103,116,95,115,32,103,116,95,117,32,108,101,95,115,32,108,101,95,117,32,103,101,95,115,32,103,101,95,117]⟩))],[],.p (.ps 11 1 [.sc (.string ⟨#[101,113,122]⟩),.sc (.string ⟨#[101,113]⟩),.sc (.string ⟨#[110,101]⟩),.sc (.string ⟨#[108,116,95,115]⟩),.sc (.string ⟨#[108,116,95,117]⟩),.sc (.string ⟨#[103,116,95,115]⟩),.sc (.string ⟨#[103,116,95,117]⟩),.sc (.string ⟨#[108,101,95,115]⟩),.sc (.string ⟨#[108,101,95,117]⟩),.sc (.string ⟨#[103,101,95,115]⟩),.sc (.string ⟨#[103,101,95,117]⟩)]),[]⟩
theorem aga:an ab5 env KN.g KN.args KN.m KN.v KN.m':=bG aM (K:=[]) eZ (n:=10000000) (by kernel_rfl)
def XN:List bE:=KN::[]
theorem NY:cR ab5 env XN:=bP aga eZ
def KO:bE:=⟨140,[.p (.sc (.string ⟨#[99,108,122,32,99,116,122,32,112,111,112,99,110,116,32,97,100,100,32,115,117,98,32,109,117,108,32,100,105,118,95,115,32,100,105,118,95,117,32,114,101,109,95,115,32,114,101,109,95,117,32,97,110,100,32,111,114,32,120,111,114,32,115,104,108,32,115,104,114,95,115,32,115,104,114,95,117,32,114,111,116,108,32,114,111,116,114]⟩))],[],.p (.ps 18 1 [.sc (.string ⟨#[99,108,122]⟩),.sc (.string ⟨#[99,116,122]⟩),.sc (.string ⟨#[112,111,112,99,110,116]⟩),.sc (.string ⟨#[97,100,100]⟩),.sc (.string ⟨#[115,117,98]⟩),.sc (.string ⟨#[109,117,108]⟩),.sc (.string ⟨#[100,105,118,95,115]⟩),.sc (.string ⟨#[100,105,118,95,117]⟩),.sc (.string ⟨#[114,101,109,95,115]⟩),.sc (.string ⟨#[114,101,109,95,117]⟩),.sc (.string ⟨#[97,110,100]⟩),.sc (.string ⟨#[111,114]⟩),.sc (.string ⟨#[120,111,114]⟩),.sc (.string ⟨#[115,104,108]⟩),.sc (.string ⟨#[115,104,114,95,115]⟩),.sc (.string ⟨#[115,104,114,95,117]⟩),.sc (.string ⟨#[114,111,116,108]⟩),.sc (.string ⟨#[114,111,116,114]⟩)]),[]⟩
theorem agb:an ab5 env KO.g KO.args KO.m KO.v KO.m':=bG aM (K:=XN) NY (n:=10000000) (by kernel_rfl)
def ab6:List bE:=KO::XN
theorem XO:cR ab5 env ab6:=bP agb NY
def Sj:List ByteArray:=[⟨#[117,110,114,101,97,99,104,97,98,108,101]⟩,⟨#[110,111,112]⟩,⟨#[98,108,111,99,107]⟩,⟨#[108,111,111,112]⟩,⟨#[105,102]⟩,⟨#[]⟩,⟨#[]⟩,⟨#[]⟩,⟨#[]⟩,⟨#[]⟩,⟨#[]⟩,⟨#[]⟩,⟨#[98,114]⟩,⟨#[98,114,95,105,102]⟩,⟨#[98,114,95,116,97,98,108,101]⟩,⟨#[114,101,116,117,114,110]⟩,⟨#[99,97,108,108]⟩,⟨#[99,97,108,108,95,105,110,100,105,114,101,99,116]⟩,⟨#[]⟩,⟨#[]⟩,⟨#[]⟩,⟨#[]⟩,⟨#[]⟩,⟨#[]⟩,⟨#[]⟩,⟨#[]⟩,⟨#[100,114,111,112]⟩,⟨#[115,101,108,101,99,116]⟩,⟨#[]⟩,⟨#[]⟩,⟨#[]⟩,⟨#[]⟩,⟨#[108,111,99,97,108,46,103,101,116]⟩,⟨#[108,111,99,97,108,46,115,101,116]⟩,⟨#[108,111,99,97,108,46,116,101,101]⟩,⟨#[103,108,111,98,97,108,46,103,101,116]⟩,⟨#[103,108,111,98,97,108,46,115,101,116]⟩,⟨#[]⟩,⟨#[]⟩,⟨#[]⟩,⟨#[105,51,50,46,108,111,97,100]⟩,⟨#[]⟩,⟨#[]⟩,⟨#[]⟩,⟨#[105,51,50,46,108,111,97,100,56,95,115]⟩,⟨#[105,51,50,46,108,111,97,100,56,95,117]⟩,⟨#[105,51,50,46,108,111,97,100,49,54,95,115]⟩,⟨#[105,51,50,46,108,111,97,100,49,54,95,117]⟩,⟨#[]⟩,⟨#[]⟩,⟨#[]⟩,⟨#[]⟩,⟨#[]⟩,⟨#[]⟩,⟨#[105,51,50,46,115,116,111,114,101]⟩,⟨#[]⟩,⟨#[]⟩,⟨#[]⟩,⟨#[105,51,50,46,115,116,111,114,101,56]⟩,⟨#[105,51,50,46,115,116,111,114,101,49,54]⟩,⟨#[]⟩,⟨#[]⟩,⟨#[]⟩,⟨#[109,101,109,111,114,121,46,115,105,122,101]⟩,⟨#[109,101,109,111,114,121,46,103,114,111,119]⟩,⟨#[105,51,50,46,99,111,110,115,116]⟩,⟨#[]⟩,⟨#[]⟩,⟨#[]⟩,⟨#[105,51,50,46,101,113,122]⟩,⟨#[105,51,50,46,101,113]⟩,⟨#[105,51,50,46,110,101]⟩,⟨#[105,51,50,46,108,116,95,115]⟩,⟨#[105,51,50,46,108,116,95,117]⟩,⟨#[105,51,50,46,103,116,95,115]⟩,⟨#[105,51,50,46,103,116,95,117]⟩,⟨#[105,51,50,46,108,101,95,115]⟩,⟨#[105,51,50,46,108,101,95,117]⟩,⟨#[105,51,50,46,103,101,95,115]⟩,⟨#[105,51,50,46,103,101,95,117]⟩,⟨#[]⟩,⟨#[]⟩,⟨#[]⟩,⟨#[]⟩,⟨#[]⟩,⟨#[]⟩,⟨#[]⟩,⟨#[]⟩,⟨#[]⟩,⟨#[]⟩,⟨#[]⟩,⟨#[]⟩,⟨#[]⟩,⟨#[]⟩,⟨#[]⟩,⟨#[]⟩,⟨#[]⟩,⟨#[]⟩,⟨#[]⟩,⟨#[]⟩,⟨#[]⟩,⟨#[]⟩,⟨#[]⟩,⟨#[105,51,50,46,99,108,122]⟩,⟨#[105,51,50,46,99,116,122]⟩,⟨#[105,51,50,46,112,111,112,99,110,116]⟩,⟨#[105,51,50,46,97,100,100]⟩,⟨#[105,51,50,46,115,117,98]⟩,⟨#[105,51,50,46,109,117,108]⟩,⟨#[105,51,50,46,100,105,118,95,115]⟩,⟨#[105,51,50,46,100,105,118,95,117]⟩,⟨#[105,51,50,46,114,101,109,95,115]⟩,⟨#[105,51,50,46,114,101,109,95,117]⟩,⟨#[105,51,50,46,97,110,100]⟩,⟨#[105,51,50,46,111,114]⟩,⟨#[105,51,50,46,120,111,114]⟩,⟨#[105,51,50,46,115,104,108]⟩,⟨#[105,51,50,46,115,104,114,95,115]⟩,⟨#[105,51,50,46,115,104,114,95,117]⟩,⟨#[105,51,50,46,114,111,116,108]⟩,⟨#[105,51,50,46,114,111,116,114]⟩,⟨#[]⟩,⟨#[]⟩,⟨#[]⟩,⟨#[]⟩,⟨#[]⟩,⟨#[]⟩,⟨#[]⟩,⟨#[]⟩,⟨#[]⟩,⟨#[]⟩,⟨#[]⟩,⟨#[]⟩,⟨#[]⟩,⟨#[]⟩,⟨#[]⟩,⟨#[]⟩,⟨#[]⟩,⟨#[]⟩,⟨#[]⟩,⟨#[]⟩,⟨#[]⟩,⟨#[]⟩,⟨#[]⟩,⟨#[]⟩,⟨#[]⟩,⟨#[]⟩,⟨#[]⟩,⟨#[]⟩,⟨#[]⟩,⟨#[]⟩,⟨#[]⟩,⟨#[]⟩,⟨#[]⟩,⟨#[]⟩,⟨#[]⟩,⟨#[]⟩,⟨#[]⟩,⟨#[]⟩,⟨#[]⟩,⟨#[]⟩,⟨#[]⟩,⟨#[]⟩,⟨#[]⟩,⟨#[]⟩,⟨#[]⟩,⟨#[]⟩,⟨#[]⟩,⟨#[]⟩,⟨#[]⟩,⟨#[]⟩,⟨#[]⟩,⟨#[]⟩,⟨#[]⟩,⟨#[]⟩,⟨#[]⟩,⟨#[]⟩,⟨#[]⟩,⟨#[]⟩,⟨#[]⟩,⟨#[]⟩,⟨#[]⟩,⟨#[]⟩,⟨#[]⟩,⟨#[]⟩,⟨#[]⟩,⟨#[]⟩,⟨#[]⟩,⟨#[]⟩,⟨#[]⟩,⟨#[]⟩,⟨#[]⟩,⟨#[]⟩,⟨#[]⟩,⟨#[]⟩,⟨#[]⟩,⟨#[]⟩,⟨#[]⟩,⟨#[]⟩,⟨#[]⟩,⟨#[]⟩,⟨#[]⟩,⟨#[]⟩,⟨#[]⟩,⟨#[]⟩,⟨#[]⟩,⟨#[]⟩,⟨#[]⟩,⟨#[]⟩,⟨#[]⟩,⟨#[]⟩,⟨#[]⟩,⟨#[]⟩,⟨#[]⟩,⟨#[]⟩,⟨#[]⟩,⟨#[]⟩,⟨#[]⟩,⟨#[]⟩,⟨#[]⟩,⟨#[]⟩,⟨#[]⟩,⟨#[]⟩,⟨#[]⟩,⟨#[]⟩,⟨#[]⟩,⟨#[]⟩,⟨#[]⟩,⟨#[]⟩,⟨#[]⟩,⟨#[]⟩,⟨#[]⟩,⟨#[]⟩,⟨#[]⟩,⟨#[]⟩,⟨#[]⟩,⟨#[]⟩,⟨#[]⟩,⟨#[]⟩,⟨#[]⟩,⟨#[]⟩,⟨#[]⟩,⟨#[]⟩,⟨#[]⟩,⟨#[]⟩,⟨#[]⟩,⟨#[]⟩,⟨#[]⟩,⟨#[]⟩,⟨#[]⟩,⟨#[]⟩,⟨#[]⟩,⟨#[]⟩,⟨#[]⟩,⟨#[]⟩,⟨#[]⟩]
theorem XP:an ab5 env 128 [] [] (.agg (Sj.map fun s=> .p (.sc (.string s)))) []:=bG aM (K:=ab6) XO (n:=10000000) (by kernel_rfl)
end Go.Proofs.YtjfgfhaoeicpdaaGreatDoor.N
end
