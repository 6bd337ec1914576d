import Derived.Test.YtddfgnmjecogdaaDoorMG
import Derived.Test.YtddfgnmjecogdaaDoorChecked
import Derived.Test.YtddfgnmjecogdaaDoorMF
import GoSem.PinnedTables
open List renaming getD_eq_getElem?_getD→dt,length_append→ei,length_cons→pa,drop_zero→VR,map_append→ra,length_nil→VS,getElem?_append_right→Va,mem_singleton→VT,getElem?_eq_getElem→dp,map→VU,take→VV,getElem?_eq_none→fg,append_assoc→qf,foldr_append→VW,length_map→pj,append_nil→Vi,map_cons→pA
open Nat renaming reduceAdd→VX,add_assoc→iu,zero_le→Vr,zero_add→sa,beq→be,lt_or_ge→ik
open Go.Proofs.Tryd renaming prog→ae
open Go.IntKind renaming i64→vj,u32→VO
open Go.TypeInfo renaming mk→VY
open Option renaming none→VZ,some→V0
open Go.LoopState renaming ready→V1
open Go.Fn renaming func→V2
open Min renaming min→V3
open Max renaming max→V4
open Int renaming toNat_natCast→V5
noncomputable section
section
namespace Go.Am
open Go.RowKit
inductive Ins where
 |mk (op results a b n:Int) (tags:List Int) (l e:List Ins)
namespace Ins
def op:Ins→Int | .mk op _ _ _ _ _ _ _=>op
def results:Ins→Int | .mk _ r _ _ _ _ _ _=>r
def a:Ins→Int | .mk _ _ a _ _ _ _ _=>a
def b:Ins→Int | .mk _ _ _ b _ _ _ _=>b
def n:Ins→Int | .mk _ _ _ _ n _ _ _=>n
def tags:Ins→List Int | .mk _ _ _ _ _ t _ _=>t
def l:Ins→List Ins | .mk _ _ _ _ _ _ l _=>l
def e:Ins→List Ins | .mk _ _ _ _ _ _ _ e=>e
end Ins
def bW (k:IntKind) (l:List Int):List PV:=l.map fun t=> .sc (.int k t)
mutual
def yu:Ins→List PV
 |.mk op r a b n tags l e=>[.sc (.int .i64 op),.sc (.int .i64 r),.sc (.int .u32 a),.sc (.int .u32 b),.sc (.int .i32 n),.ps tags.length 1 (bW .u32 tags),.ps l.length 8 (aa l),.ps e.length 8 (aa e)]
def aa:List Ins→List PV
 |[]=>[]
 |x::r=>yu x++aa r
end
mutual
def AQ:Ins→Prop
 |.mk op r a b n tags l e=>(Lit.int .i64 op).wf=true∧(Lit.int .i64 r).wf=true∧(Lit.int .u32 a).wf=true∧(Lit.int .u32 b).wf=true∧(Lit.int .i32 n).wf=true∧(tags.length≤maxLen ∧ ∀t∈tags,(Lit.int .u32 t).wf=true)∧(l.length≤maxLen∧tA l)∧e.length≤maxLen∧tA e
def tA:List Ins→Prop
 |[]=>True
 |x::r=>AQ x∧tA r
end
theorem zo : ∀l:List Ins,aa l=l.flatMap yu
 |[]=>rfl
 |x::r=>by rw[aa,zo r];rfl
theorem Eo : ∀{l:List Ins},(∀x∈l,AQ x)→tA l
 |[],_=>trivial
 |x::_,h=>⟨h x (.head _),Eo fun y hy=>h y (.tail _ hy)⟩
theorem gJ : ∀x:Ins,(yu x).length=8
 |.mk .. =>rfl
theorem cN : ∀l:List Ins,(aa l).length=l.length*8
 |[]=>rfl
 |x::r=>by rw[aa,ei,gJ,cN r,pa];omega
structure N0 (P:Program) (tL tI ti tu tn tt:TypeId) (fs:Array Field):Prop where
 hL:P.underlying tL=some (.slice tI)
 hI:P.underlying tI=some (.struct fs)
 hz:P.cellsOf tI=8
 hf:fs.toList.map (fun f=>(f.offset,f.type))=[(0,ti),(1,ti),(2,tu),(3,tu),(4,tn),(5,tt),(6,tL),(7,tL)]
 h1:P.cellsOf ti=1∧P.cellsOf tu=1∧P.cellsOf tn=1∧P.cellsOf tt=1∧P.cellsOf tL=1
 ki:P.underlying ti=some (.int .i64)
 ku:P.underlying tu=some (.int .u32)
 kn:P.underlying tn=some (.int .i32)
 kt:P.underlying tt=some (.slice tu)
section
variable {H:Type} {enc:TypeId×Value→H} {P:Program} {w:World} {base:Nat} {spare:Nat→Bool} {held:Bool} {tL tI ti tu tn tt:TypeId} {fs:Array Field}
theorem SK {i:Nat} {o t:Nat} (hf:(fs.toList.map fun f=>(f.offset,f.type))[i]? = some (o,t)) : ∃f,fs[i]? = some f∧f.offset=o∧f.type=t:=by
 rw[List.getElem?_map] at hf
 cases h:fs.toList[i]? with
 |none=>rw[h] at hf;cases hf
 |some f=>
  rw[h] at hf
  simp only[Option.map_some,Option.some.injEq,Prod.mk.injEq] at hf
  exact⟨f,by simpa using h,hf.1,hf.2⟩
theorem eg.cat {w:World} {x:PV} {l:List PV} {v:Value} {cs:List Value} (h:eg w [x] [v]) (k:eg w l cs):eg w (x::l) (v::cs):=h.append k
theorem Bf (T:N0 P tL tI ti tu tn tt fs) : ∀(fuel:Nat) (cs:List Value) (x:DataW H×List MemPlace),DataW.trod enc P w base spare held fuel tL cs=some x →
  ∃l:List Ins,(l.length≤maxLen∧tA l)∧eg w [.ps l.length 8 (aa l)] cs:=by
 intro fuel
 induction fuel using Nat.strongRecOn with
 |ind fuel ih=>
  intro cs x h
  obtain⟨xs,h0,h1,h2⟩:=nR (Hv:=yu) (wf:=AQ) T.hL (by rw[T.hz];omega) h fun n hn us y hy=>by
   obtain⟨m,rfl,hlen,hg⟩:=mQ T.hI hy
   rw[T.hz] at hlen
   have get : ∀(i:Nat) (o t:Nat),[(0,ti),(1,ti),(2,tu),(3,tu),(4,tn),(5,tt),(6,tL),(7,tL)][i]? = some (o,t)→P.cellsOf t=1 → ∃y,DataW.trod enc P w base spare held m t ((us.drop o).take 1)=some y:=by
    intro i o t hi hc
    obtain⟨f,q1,q2,q3⟩:=SK (fs:=fs) (i:=i) (by rw[T.hf];exact hi)
    obtain⟨y,hy⟩:=hg i f q1
    rw[q2,q3,hc] at hy
    exact⟨y,hy⟩
   obtain⟨c1,c2,c3,c4,c5⟩:=T.h1
   obtain⟨y0,e0⟩:=get 0 0 ti rfl c1
   obtain⟨y1,e1⟩:=get 1 1 ti rfl c1
   obtain⟨y2,e2⟩:=get 2 2 tu rfl c2
   obtain⟨y3,e3⟩:=get 3 3 tu rfl c2
   obtain⟨y4,e4⟩:=get 4 4 tn rfl c3
   obtain⟨y5,e5⟩:=get 5 5 tt rfl c4
   obtain⟨y6,e6⟩:=get 6 6 tL rfl c5
   obtain⟨y7,e7⟩:=get 7 7 tL rfl c5
   match us,hlen with
   |[u0,u1,u2,u3,u4,u5,u6,u7],_=>
    simp only[VR,List.drop_succ_cons,List.take_succ_cons,List.take_zero] at e0 e1 e2 e3 e4 e5 e6 e7
    obtain⟨n0,w0,k0⟩:=ez T.ki e0
    obtain⟨n1,w1,k1⟩:=ez T.ki e1
    obtain⟨n2,w2,k2⟩:=ez T.ku e2
    obtain⟨n3,w3,k3⟩:=ez T.ku e3
    obtain⟨n4,w4,k4⟩:=ez T.kn e4
    obtain⟨n5,w5,TN,k5⟩:=oP T.kt T.ku c2 e5
    obtain⟨n6,w6,k6⟩:=ih m (by omega) _ _ e6
    obtain⟨n7,w7,k7⟩:=ih m (by omega) _ _ e7
    exact⟨.mk n0 n1 n2 n3 n4 n5 n6 n7,⟨w0,w1,w2,w3,w4,⟨w5,TN⟩,w6,w7⟩,k0.cat (k1.cat (k2.cat (k3.cat (k4.cat (k5.cat (k6.cat k7))))))⟩
  refine⟨xs,⟨h0,Eo h1⟩,?_⟩
  rw[T.hz,←zo] at h2
  exact h2
end
end Go.Am
end
section
namespace Go.Am
theorem sL (k:IntKind) (l:List Int) (n:Nat) (h:n<l.length):(bW k l).getD n .eJ = .sc (.int k (l.getD n 0)):=by
 simp[bW,dt,dp h]
theorem Cf (k:IntKind) (l:List Int) (n:Nat) (h:l.length≤n):(bW k l).getD n .eJ = .eJ:=by
 simp[bW,dt,fg h]
@[simp] theorem MA (k:IntKind) (l:List Int) (n:Nat):aS ((bW k l).getD n .eJ)=l.getD n 0:=by
  rcases ik n l.length with h | h
  · rw[sL k l n h];rfl
  · rw[Cf k l n h]
    simp[dt,fg h]
    rfl
@[simp] theorem MB (k:IntKind) (l:List Int) (n:Nat):isInt k ((bW k l).getD n .eJ)=decide (n<l.length):=by
  rcases ik n l.length with h | h
  · rw[sL k l n h];simp[isInt,h]
  · rw[Cf k l n h];simp[isInt];omega
theorem Cg {k:IntKind} : ∀{l m:List Int},bW k l=bW k m→l=m
 |[],[],_=>rfl
 |[],_::_,h=>by simp[bW] at h
 |_::_,[],h=>by simp[bW] at h
 |a::l,b::m,h=>by
  simp only[bW,pA,List.cons.injEq,PV.sc.injEq,Value.int.injEq,true_and] at h
  rw[h.1,Cg (l:=l) (m:=m) h.2]
mutual
theorem Hw : ∀{x y:Ins},yu x=yu y→x=y
 |.mk op r a b n tags l e,.mk op' r' a' b' n' tags' l' e',h=>by
  simp only[yu,List.cons.injEq,PV.sc.injEq,Value.int.injEq,PV.ps.injEq,true_and,and_true] at h
  obtain⟨rfl,rfl,rfl,rfl,rfl,⟨_,h5⟩,⟨_,h6⟩,_,h7⟩:=h
  rw[Cg h5,lJ h6,lJ h7]
theorem lJ : ∀{l m:List Ins},aa l=aa m→l=m
 |[],[],_=>rfl
 |[],.mk .. :: _,h=>by simp[aa,yu] at h
 |.mk .. :: _,[],h=>by simp[aa,yu] at h
 |x::l,y::m,h=>by
  simp only[aa] at h
  obtain⟨h1,h2⟩:=List.append_inj h (by rw[gJ,gJ])
  rw[Hw h1,lJ h2]
end
theorem sM : ∀{l:List Ins} {k:Nat} {x:Ins},l[k]? = some x → ∀c,c<8→(aa l).getD (k*8+c) .eJ=(yu x).getD c .eJ
 |[],_,_,h,_,_=>by simp at h
 |y::l,0,x,h,c,hc=>by
  simp only[List.getElem?_cons_zero,Option.some.injEq] at h;subst h
  rw[aa,Nat.zero_mul,sa,dt,dt,List.getElem?_append_left (by rw[gJ];exact hc)]
 |y::l,k+1,x,h,c,hc=>by
  have ih:=sM (l:=l) (k:=k) (x:=x) (by simpa using h) c hc
  rw[dt] at ih
  rw[aa,dt,Va (by rw[gJ];omega),gJ,show(k+1)*8+c-8=k*8+c by omega]
  exact ih
theorem uf : ∀l m:List Ins,aa (l++m)=aa l++aa m
 |[],_=>rfl
 |x::l,m=>by rw[List.cons_append,aa,aa,uf l m,qf]
theorem oL : ∀{l:List Ins} {x:Ins},tA l→x∈l→AQ x
 |_::_,_,h,.head _=>h.1
 |_::_,_,h,.tail _ hx=>oL h.2 hx
mutual
def jh:Ins→Nat
 |.mk _ _ _ _ _ tags l e=>1+tags.length+dL l+dL e
def dL:List Ins→Nat
 |[]=>0
 |x::r=>jh x+dL r
end
theorem nT : ∀l:List Ins,l.length≤dL l
 |[]=>Vr _
 |.mk _ _ _ _ _ t l e::r=>by have:=nT r;simp only[dL,jh,pa];omega
theorem lK : ∀{l:List Ins} {x:Ins},x∈l→jh x≤dL l
 |y::l,x,h=>by
  simp only[dL]
  cases h with
  |head=>omega
  |tail _ h=>have:=lK h;omega
mutual
def fQ:List Ins→Int→Int→Int
 |[],_,n=>n
 |x::r,most,n=>if n≤most then fQ r most (wQ x most n) else n
def wQ:Ins→Int→Int→Int
 |.mk _ _ _ _ _ tags l e,most,n=>
  let n1:=n+1+min (tags.length:Int) most
  let n2:=if n1≤most then n1+fQ l (most-n1) 0 else n1
  if n2≤most then n2+fQ e (most-n2) 0 else n2
end
mutual
theorem wR : ∀(x:Ins) (most n:Int),0≤n→n≤most→n≤wQ x most n∧wQ x most n≤2*most+1
 |.mk _ _ _ _ _ tags l e,most,n,h0,h=>by
  simp only[wQ]
  generalize hn1:n+1+min (tags.length:Int) most=n1
  have h1:n+1≤n1∧n1≤2*most+1:=by omega
  generalize hn2:(if n1≤most then n1+fQ l (most-n1) 0 else n1)=n2
  have h2:n1≤n2∧n2≤2*most+1:=by
   rw[←hn2]
   split
   · have:=fA l (most-n1) 0 (by omega) (by omega) (by omega);omega
   · omega
  split
  · have:=fA e (most-n2) 0 (by omega) (by omega) (by omega);omega
  · omega
theorem fA : ∀(l:List Ins) (most n:Int),0≤most→0≤n→n≤2*most+1→n≤fQ l most n∧fQ l most n≤2*most+1
 |[],most,n,_,_,h=>by simp only[fQ];omega
 |x::r,most,n,hm,h0,h=>by
  simp only[fQ]
  split
  · have h1:=wR x most n h0 (by omega)
    have h2:=fA r most (wQ x most n) hm (by omega) (by omega)
    omega
  · omega
end
mutual
theorem Hx : ∀(x:Ins) (most n:Int),0≤n→n≤most→wQ x most n≤most→wQ x most n=n+jh x
 |.mk _ _ _ _ _ tags l e,most,n,h0,h=>by
  simp only[wQ,jh]
  generalize hn1:n+1+min (tags.length:Int) most=n1
  generalize hn2:(if n1≤most then n1+fQ l (most-n1) 0 else n1)=n2
  intro h3
  have hle:n2≤most:=by
   split at h3
   · rename_i q;exact q
   · exact h3
  rw[if_pos hle] at h3 ⊢
  have NQ:=fA e (most-n2) 0 (by omega) (by omega) (by omega)
  have Ro:n1≤most:=by
   rw[←hn2] at hle
   split at hle
   · rename_i q;exact q
   · exact hle
  rw[if_pos Ro] at hn2
  have L5:=fA l (most-n1) 0 (by omega) (by omega) (by omega)
  have e1:=rj l (most-n1) 0 (by omega) (by omega) (by omega)
  have e2:=rj e (most-n2) 0 (by omega) (by omega) (by omega)
  have:min (tags.length:Int) most=tags.length:=by omega
  push_cast
  omega
theorem rj : ∀(l:List Ins) (most n:Int),0≤most→0≤n→fQ l most n≤most→fQ l most n=n+dL l
 |[],most,n,_,_,h=>by simp[fQ,dL]
 |x::r,most,n,hm,h0,h=>by
  simp only[fQ,dL] at h ⊢
  split at h
  · rename_i hn
    rw[if_pos hn]
    have hr:=wR x most n h0 hn
    have NQ:=fA r most (wQ x most n) hm (by omega) (by omega)
    have e1:=Hx x most n h0 hn (by omega)
    have e2:=rj r most (wQ x most n) hm (by omega) h
    push_cast
    omega
  · omega
end
end Go.Am
end
section
namespace Go.Proofs.YtddfgnmjecogdaaDoor.N
open Go Go.Am
def bA (l:List PV) (n:Nat):PV:=l.getD n PV.eJ
def cE (i:Nat):Nat:=(i:Int).toNat
def Hy:aN:= .out (.ret (sB true) [])
def cD:AV:= .os none 0 0 []
theorem ct:(∀l n,bA l n=l.getD n PV.eJ)∧(∀i,cE i=(i:Int).toNat)∧Hy = .out (.ret (sB true) [])∧cD = .os none 0 0 []:=⟨fun _ _=>rfl,fun _=>rfl,rfl,rfl⟩
def Hz:List Int:=[0,0,0,0,0,0,0,0,0,1,1,1,1,1,0,0,0,0,0,0,0,0,0,0,0,0,0,0,0,0,0,0,1]++List.replicate 223 0
def tabs:List (Nat×List Value):=[(0,Hz.map (.int .u8))]
def keeps:List (Nat×Nat×List Nat):=[(3,8,[0,5,8]),(3,4,[0,1,5,7]),(3,0,[0,1,5,6]),(11,2,[0,1,5]),(13,0,[0,1,5,6]),(15,0,[0,3,4]),(20,0,[0,3,4]),(21,0,[4,6,7,8,9,10]),(22,2,[4,6,7,8,9,10]),(23,4,[0,2,3]),(23,0,[0,2]),(27,0,[0,3,4]),(28,0,[0,1,2,8]),(30,2,[0,1,5]),(32,34,[2,5,7,14,15,16,101,102,103]),(32,0,[2,5,14,15,16]),(34,0,[0,3,4]),(36,0,[0,3]),(39,0,[0,5,10,11,12]),(45,30,[0,1,5,6]),(48,10,[0,6,7,11,12]),(54,0,[0,3]),(55,0,[0,3,4]),(56,0,[0,3,4]),(57,0,[0,3]),(58,10,[1,3,6]),(59,0,[0,1,5]),(63,4,[0,1,24,25,26]),(63,0,[0,1,10,11,12]),(72,4,[0,3,4,25,26,27]),(72,0,[0,3]),(74,0,[0,1,5]),(77,0,[3,4]),(78,2,[0,1,2,6,9,21]),(80,2,[0,6,7,8]),(81,0,[0,3,4]),(82,16,[0,9,10,12]),(82,10,[0,9,10,11,12]),(82,6,[0,9,10,12]),(82,0,[0,3,4,5,6]),(85,6,[6,7,8,9,11,12,13]),(86,12,[0,9,47,48,49]),(86,0,[0,1,5,6,14]),(89,10,[0,1,7,8]),(89,2,[0,1,19,20]),(90,10,[0,1,7,8]),(90,2,[0,1,15,16])]
def TO (f d:Nat):Bool:=(be f 72&&be d 9)
def env:Env where
 cL:=ue tabs
 wr:=TO
 keep:=Dy keeps
theorem cV:eZ ae:=Dw (by kernel_rfl)
end Go.Proofs.YtddfgnmjecogdaaDoor.N
end
section
namespace Go.Am
mutual
def F6 (p:Ins→Bool):Ins→Bool
 |.mk op r a b n tags l e=>p (.mk op r a b n tags l e)&&(qi p l&&qi p e)
def qi (p:Ins→Bool):List Ins→Bool
 |[]=>true
 |x::r=>F6 p x&&qi p r
end
mutual
def oO:Ins→Nat
 |.mk _ _ _ _ _ _ l e=>1+bU l+bU e
def bU:List Ins→Nat
 |[]=>0
 |x::r=>oO x+bU r
end
mutual
def rm:Nat→Ins→Nat
 |d,.mk _ _ _ _ _ _ l e=>max d (max (dN (d+1) l) (dN (d+1) e))
def dN:Nat→List Ins→Nat
 |_,[]=>0
 |d,x::r=>max (rm d x) (dN d r)
end
mutual
def wT:Ins→Nat
 |.mk _ _ _ _ _ tags l e=>max tags.length (max (eV l) (eV e))
def eV:List Ins→Nat
 |[]=>0
 |x::r=>max (wT x) (eV r)
end
theorem kN : ∀l:List Ins,l.length≤bU l
 |[]=>Vr _
 |.mk _ _ _ _ _ t l e::r=>by have:=kN r;simp only[bU,oO,pa];omega
mutual
theorem HA : ∀x:Ins,oO x≤jh x
 |.mk _ _ _ _ _ t l e=>by have:=rq l;have:=rq e;simp only[oO,jh];omega
theorem rq : ∀l:List Ins,bU l≤dL l
 |[]=>Vr _
 |x::r=>by have:=HA x;have:=rq r;simp only[bU,dL];omega
end
mutual
theorem HB : ∀x:Ins,wT x≤jh x
 |.mk _ _ _ _ _ t l e=>by have:=wU l;have:=wU e;simp only[wT,jh];omega
theorem wU : ∀l:List Ins,eV l≤dL l
 |[]=>Vr _
 |x::r=>by have:=HB x;have:=wU r;simp only[eV,dL];omega
end
mutual
theorem HC : ∀(d:Nat) (x:Ins),rm d x≤d+oO x
 |d,.mk _ _ _ _ _ t l e=>by have:=wW (d+1) l;have:=wW (d+1) e;simp only[rm,oO];omega
theorem wW : ∀(d:Nat) (l:List Ins),dN d l≤d+bU l
 |_,[]=>Vr _
 |d,x::r=>by have:=HC d x;have:=wW d r;simp only[dN,bU];omega
end
mutual
theorem DB : ∀(d:Nat) (x:Ins),rm (d+1) x=rm d x+1
 |d,.mk _ _ _ _ _ t l e=>by
  have h1:=pZ (d+1) l
  have h2:=pZ (d+1) e
  simp only[rm]
  cases l with
  |nil=>cases e with
   |nil=>simp[dN]
   |cons y e=>rw[h2 (by simp)];simp only[dN];omega
  |cons x l=>cases e with
   |nil=>rw[h1 (by simp)];simp only[dN];omega
   |cons y e=>rw[h1 (by simp),h2 (by simp)];omega
theorem pZ : ∀(d:Nat) (l:List Ins),l≠[]→dN (d+1) l=dN d l+1
 |_,[],h=>absurd rfl h
 |d,x::r,_=>by
  have h1:=DB d x
  cases r with
  |nil=>simp only[dN,h1];omega
  |cons y r=>rw[dN,pZ d (y::r) (by simp),h1,dN.eq_2 d x];omega
end
abbrev aL (l:List Ins):AV:= .p (.ps l.length 8 (aa l))
def Ch (op r a b nn:Int) (tg:List Int) (ll le:List Ins):AV:= .agg [sI .i64 op,sI .i64 r,sI .u32 a,sI .u32 b,sI .i32 nn,.p (.ps tg.length 1 (bW .u32 tg)),aL ll,aL le]
def MC:Ins→AV
 |.mk op r a b nn tg ll le=>Ch op r a b nn tg ll le
theorem HD {l m:List Ins} (h:aL l=aL m):l=m:=by
 simp only[AV.p.injEq,PV.ps.injEq] at h
 exact lJ h.2.2
theorem wX {l:List Ins} {k:Nat} {op rs a b nn:Int} {tags:List Int} {ll le:List Ins} (h:l[k]? = some (.mk op rs a b nn tags ll le)) :
  (aa l).getD (k*8) .eJ = .sc (.int .i64 op)∧(aa l).getD (k*8+1) .eJ = .sc (.int .i64 rs)∧(aa l).getD (k*8+2) .eJ = .sc (.int .u32 a)∧(aa l).getD (k*8+3) .eJ = .sc (.int .u32 b) ∧
    (aa l).getD (k*8+4) .eJ = .sc (.int .i32 nn)∧(aa l).getD (k*8+5) .eJ = .ps tags.length 1 (bW .u32 tags)∧(aa l).getD (k*8+6) .eJ = .ps ll.length 8 (aa ll)∧(aa l).getD (k*8+7) .eJ = .ps le.length 8 (aa le):=
 have hc:=sM h
 ⟨hc 0 (by omega),hc 1 (by omega),hc 2 (by omega),hc 3 (by omega),hc 4 (by omega),hc 5 (by omega),hc 6 (by omega),hc 7 (by omega)⟩
abbrev ji:=List (List Ins×Nat)
def uA (st:ji):List PV:=st.flatMap fun e=>[.ps e.1.length 8 (aa e.1),.sc (.int .i64 e.2)]
def HE (p:Ins→Bool) (st:ji):Bool:=st.all fun e=>qi p e.1
def ru (st:ji):Nat:=(st.map fun e=>bU e.1).sum
def wY (st:ji):Nat:=(st.map fun e=>dN e.2 e.1).foldr max 0
def wZ (st:ji):Nat:=(st.map fun e=>eV e.1).foldr max 0
def wS (st:ji):Nat:=(st.map fun e=>2*bU e.1+1).sum
theorem iX : ∀st:ji,(uA st).length=st.length*2
 |[]=>rfl
 |e::st=>by rw[uA,List.flatMap_cons,ei,pa];have:=iX st;rw[uA] at this;rw[this];simp;omega
theorem nU (s t:ji):uA (s++t)=uA s++uA t:=by simp[uA]
theorem zp (s:List Nat) (b:Nat):s.foldr max b=max (s.foldr max 0) b:=by
 induction s with
 |nil=>simp
 |cons a s ih=>simp only[List.foldr_cons,ih];omega
theorem p9 (p:Ins→Bool) (s t:ji):HE p (s++t)=(HE p s&&HE p t):=by simp[HE]
theorem kO (s t:ji):ru (s++t)=ru s+ru t:=by simp[ru]
theorem sO (s t:ji):wS (s++t)=wS s+wS t:=by simp[wS]
theorem ug (s t:ji):wY (s++t)=max (wY s) (wY t):=by simp only[wY,ra,VW];rw[zp]
theorem uh (s t:ji):wZ (s++t)=max (wZ s) (wZ t):=by simp only[wZ,ra,VW];rw[zp]
@[simp] theorem uR (p:Ins→Bool) (l:List Ins) (d:Nat):HE p [(l,d)]=qi p l:=by simp[HE]
@[simp] theorem w8 (l:List Ins) (d:Nat):ru [(l,d)]=bU l:=by simp[ru]
@[simp] theorem MD (l:List Ins) (d:Nat):wS [(l,d)]=2*bU l+1:=by simp[wS]
@[simp] theorem Ci (l:List Ins) (d:Nat):wY [(l,d)]=dN d l:=by simp[wY]
@[simp] theorem Cj (l:List Ins) (d:Nat):wZ [(l,d)]=eV l:=by simp[wZ]
theorem sQ : ∀st:ji,st.length≤wS st
 |[]=>Vr _
 |e::st=>by have:=sQ st;simp only[wS,pA,List.sum_cons,pa] at this ⊢;omega
def fZ (st:ji) (cells:List AV):Prop:=cells.take (st.length*2)=(uA st).map .p
theorem fZ.len {st:ji} {cells:List AV} (h:fZ st cells):st.length*2≤cells.length:=by
 have:=congrArg List.length h
 rw[List.length_take,pj,iX] at this
 omega
theorem fZ.top {st:ji} {x:List Ins} {d:Nat} {cells:List AV} (h:fZ (st++[(x,d)]) cells):cells.getD (st.length*2) .af = .p (.ps x.length 8 (aa x))∧cells.getD (st.length*2+1) .af = .p (.sc (.int .i64 d)):=by
 have hl:=h.len
 simp only[ei,pa,VS] at hl
 have get : ∀j,j<2→cells.getD (st.length*2+j) .af=((uA (st++[(x,d)])).map AV.p).getD (st.length*2+j) .af:=by
  intro j hj
  rw[←show cells.take ((st++[(x,d)]).length*2)=_ from h,dt,dt,List.getElem?_take_of_lt (by simp only[ei,pa,VS];omega)]
 have g0:=get 0 (by omega)
 have g1:=get 1 (by omega)
 rw[nU,ra,dt (l:=VU AV.p (uA st)++_),Va (by simp[iX])] at g0 g1
 simp only[pj,iX] at g0 g1
 rw[show st.length*2+0-st.length*2=0 by omega] at g0
 rw[show st.length*2+1-st.length*2=1 by omega] at g1
 exact⟨by simpa[uA] using g0,by simpa[uA] using g1⟩
theorem fZ.pop {st:ji} {e:List Ins×Nat} {cells:List AV} (h:fZ (st++[e]) cells):fZ st cells:=by
 unfold fZ at h ⊢
 have:=congrArg (VV (st.length*2)) h
 rw[List.take_take,nU,ra,List.take_left' (by simp[iX])] at this
 rw[←this];congr 1
 simp only[ei,pa,VS];omega
theorem fZ.keep {st:ji} {cells:List AV} (h:fZ st cells):fZ st (cells.map ew):=by
 unfold fZ at h ⊢
 rw[←List.map_take,h,List.map_map];rfl
theorem fZ.push {st:ji} {cells:List AV} (h:fZ st cells) (x:List Ins) (d:Nat):fZ (st++[(x,d)]) (cells.take (st.length*2)++[.p (.ps x.length 8 (aa x)),.p (.sc (.int .i64 d))]):=by
 have hl:=h.len
 unfold fZ at h ⊢
 rw[List.take_of_length_le (by simp;omega),h,nU,ra];rfl
end Go.Am
end
section
namespace Go.Proofs.YtddfgnmjecogdaaDoor.N
open Go Go.Am
def dY (_:FuncId) (_:List AV) (_:Mem):Option (AV×Mem):=none
abbrev sP (n:Int):PV:= .sc (.int .i64 n)
def recC (l:List Ins) (st:LoopState) (pd:Option Code):aH:= .ob (jX ae 31 0 st pd) [aL l,.af,.mp 2 0,.p (.sc (.bool false)),.mp 3 0,.mp 4 0,.mp 5 0,.af,.af,aL l,.fn (.func 72) [] [.mp 1 0],.af,.af,.af,.af,.af,.af,.af,.af,.af,.af,.af,.af,.af,.af,.af,.af,.af,.af,.af,.af,.af,.af,.af,.af,.af,.af]
def FB (l:List Ins) (tags n most:Int) (cells:List AV):Mem:=[recC l .ready none,.pc [.ps l.length 8 (aa l)],.pc [sP 0],.pc [sP tags],.pc [sP n],.pc [sP most],.ob (.gr 109 true) cells]
def Rp (_l:List Ins) (_tags _n _most:Int) (_cells:List AV) (k:Nat) (x:List Ins) (d:Int):FuncId→Nat→Nat→Option (AV→AV):=eF [(72,3,3,sI .i64 k),(72,3,5,.agg [aL x,sI .i64 d]),(72,4,3,sI .i64 k)]
def Rq (_l:List Ins) (_tags n _most:Int) (_cells:List AV) (_k:Nat) (_xs:List Ins) (d:Int) (i:Nat) (op r a b nn:Int) (tg:List Int) (ll le:List Ins) (_ok:Bool):FuncId→Nat→Nat→Option (AV→AV):=eF [(72,7,1,Ch op r a b nn tg ll le),(72,13,0,sI .i64 ((i+1:Nat):Int)),(72,10,5,sI .i64 (d+1)),(72,12,5,sI .i64 (d+1)),(31,8,1,sI .i64 (n+1))]
def Rr (_l:List Ins) (_tags _n _most:Int) (_cells:List AV) (_k:Nat) (_xs:List Ins) (_d:Int) (_i:Nat) (_op _r _a _b _nn:Int) (_tg:List Int) (_ll _le:List Ins) (ok:Bool) (f:FuncId) (_:List AV) (m:Mem):Option (AV×Mem):=cond (be f 50) (some (sB ok,m)) none
def ME (l:List Ins) (tags n most:Int) (cells:List AV) (k:Nat) (x:List Ins) (d:Int):gQ:=pY dY cC [(72,0),(72,2)] [(72,0,1)] [(72,3,4),(72,3,5),(72,4,4)] (Rp l tags n most cells k x d)
def OZ:Sc:= .fin
def Ep (l:List Ins) (tags n most:Int) (cells:List AV) (k:Nat) (x:List Ins) (d:Int):aN:=
 (.test (decide ((↑(k+1):Int)>0))
 (.need (sI .i64 (vj.wrap ((↑(k+1):Int)-1))=sI vj (↑k:Int))
 (.must (eW (↑k:Int) (k+1)&&true&&true)
 (.must ((0+(cE k)*2+2).ble cells.length&&((aI (some (VY (TypeDesc.slice 62) "[]api.Instr" 1 24 true 8 8 (some (Value.slice none 0 0)) false #[]).desc) (cells.getD (0+(cE k)*2) .af)).snd&&((aI (some (VY (TypeDesc.int vj) "int" 1 8 false 8 8 (some (.int .i64 0)) true #[]).desc) (cells.getD (0+(cE k)*2+1) .af)).snd&&true))&&true)
 (.need (AV.agg [(aI (V0 (VY (TypeDesc.slice 62) "[]api.Instr" 1 24 true 8 8 (V0 (Value.slice VZ 0 0)) false #[]).desc) (cells.getD (0+(cE k)*2) AV.af)).fst,(aI (V0 (VY (TypeDesc.int vj) "int" 1 8 false 8 8 (V0 (Value.int vj 0)) true #[]).desc) (cells.getD (0+(cE k)*2+1) AV.af)).fst]=AV.agg [aL x,sI vj d])
 (.need (sI .i64 (vj.wrap ((↑(k+1):Int)-1))=sI vj (↑k:Int))
 (.must ((cE k).ble (k+1)&&true&&true&&true)
 (.at (aj ae env 72 2 [.vy 0,.ms 6 0 (cE k-0) 2 none,.mp 7 0,.p (.ps x.length 8 (aa x)),sI .i64 (↑x.length:Int),sI .i64 0] ([.ob (jX ae 31 0 V1 none) [.p (.ps l.length 8 (aa l)),.af,.mp 2 0,sB false,.mp 3 0,.mp 4 0,.mp 5 0,.af,.af,.p (.ps l.length 8 (aa l)),.fn (V2 72) [] [.mp 1 0],.af,.af,.af,.af,.af,.af,.af,.af,.af,.af,.af,.af,.af,.af,.af,.af,.af,.af,.af,.af,.af,.af,.af,.af,.af,.af],.pc [.ps l.length 8 (aa l)],.pc [sP 0],.pc [sP tags],.pc [sP n],.pc [sP most],.ob (fR.gr 109 true) (VU ew cells),.ac [.p (.ps x.length 8 (aa x)),sI .i64 d]]) 6 64))))))))
 (.out (.ret (.bk []) [.ob (jX ae 31 0 V1 none) [.p (.ps l.length 8 (aa l)),.af,.mp 2 0,sB false,.mp 3 0,.mp 4 0,.mp 5 0,.af,.af,.p (.ps l.length 8 (aa l)),.fn (V2 72) [] [.mp 1 0],.af,.af,.af,.af,.af,.af,.af,.af,.af,.af,.af,.af,.af,.af,.af,.af,.af,.af,.af,.af,.af,.af,.af,.af,.af,.af],.pc [.ps l.length 8 (aa l)],.pc [sP 0],.pc [sP tags],.pc [sP n],.pc [sP most]])))
theorem HF (l:List Ins) (tags n most:Int) (cells:List AV) (k:Nat) (x:List Ins) (d:Int):grow ae env (ME l tags n most cells k x d) 1000000 true (aj ae env 72 0 ([AV.vy 0,AV.ms 6 0 (k+1) 2 VZ]) (FB l tags n most cells) 6 64) OZ atEnd=Ep l tags n most cells k x d:=by kernel_rfl
def MF:gQ:=fy dY cC [(72,0),(72,2)] [] []
def O0:Sc:= .fin
def JY (l:List Ins) (tags n most:Int) (_cells:List AV):aN:=
 (.out (.ret (.bk []) [.ob (jX ae 31 0 V1 none) [.p (.ps l.length 8 (aa l)),.af,.mp 2 0,sB false,.mp 3 0,.mp 4 0,.mp 5 0,.af,.af,.p (.ps l.length 8 (aa l)),.fn (V2 72) [] [.mp 1 0],.af,.af,.af,.af,.af,.af,.af,.af,.af,.af,.af,.af,.af,.af,.af,.af,.af,.af,.af,.af,.af,.af,.af,.af,.af,.af],.pc [.ps l.length 8 (aa l)],.pc [sP 0],.pc [sP tags],.pc [sP n],.pc [sP most]]))
theorem HG (l:List Ins) (tags n most:Int) (cells:List AV):grow ae env MF 1000000 true (aj ae env 72 0 ([AV.vy 0,AV.ms 6 0 0 2 VZ]) ([recC l V1 VZ,aH.pc [PV.ps l.length 8 (aa l)],aH.pc [sP 0],aH.pc [sP tags],aH.pc [sP n],aH.pc [sP most],aH.ob (fR.gr 109 true) cells]) 6 64) O0 atEnd=JY l tags n most cells:=by kernel_rfl
def MG (l:List Ins) (tags n most:Int) (cells:List AV) (k:Nat) (xs:List Ins) (d:Int) (i:Nat) (op r a b nn:Int) (tg:List Int) (ll:List Ins) (le:List Ins) (ok:Bool):gQ:=pY (Rr l tags n most cells k xs d i op r a b nn tg ll le ok) cC [(72,0),(72,2)] [(72,0,3),(31,0,0),(72,0,5),(72,0,6)] [(72,7,0),(72,7,1),(72,10,8),(72,12,8)] (Rq l tags n most cells k xs d i op r a b nn tg ll le ok)
def O1:Sc:= .fin
def mB (l:List Ins) (tags n most:Int) (cells:List AV) (k:Nat) (xs:List Ins) (d:Int) (i:Nat) (op r a b nn:Int) (tg:List Int) (ll:List Ins) (le:List Ins) (ok:Bool):aN:=
 (.test (decide ((↑i:Int)<(↑xs.length:Int)))
 (.must (eW (↑i:Int) xs.length&&true&&true)
 (.must (isInt vj (bA (aa xs) (cE i*8))&&(isInt vj (bA (aa xs) (cE i*8+1))&&(isInt VO (bA (aa xs) (cE i*8+1+1))&&(isInt VO (bA (aa xs) (cE i*8+1+1+1))&&(isInt IntKind.i32 (bA (aa xs) (cE i*8+1+1+1+1))&&(cW (bA (aa xs) (cE i*8+1+1+1+1+1))&&(cW (bA (aa xs) (cE i*8+1+1+1+1+1+1))&&(cW (bA (aa xs) (cE i*8+1+1+1+1+1+1+1))&&true)))))))&&true)
 (.need (AV.agg [sI .i64 (aS (bA (aa xs) (cE i*8))),sI .i64 (aS (bA (aa xs) (cE i*8+1))),sI .u32 (aS (bA (aa xs) (cE i*8+1+1))),sI .u32 (aS (bA (aa xs) (cE i*8+1+1+1))),sI .i32 (aS (bA (aa xs) (cE i*8+1+1+1+1))),AV.p (PV.ps (aJ (bA (aa xs) (cE i*8+1+1+1+1+1))) (cH (bA (aa xs) (cE i*8+1+1+1+1+1))) (aF (bA (aa xs) (cE i*8+1+1+1+1+1)))),AV.p (PV.ps (aJ (bA (aa xs) (cE i*8+1+1+1+1+1+1))) (cH (bA (aa xs) (cE i*8+1+1+1+1+1+1))) (aF (bA (aa xs) (cE i*8+1+1+1+1+1+1)))),AV.p (PV.ps (aJ (bA (aa xs) (cE i*8+1+1+1+1+1+1+1))) (cH (bA (aa xs) (cE i*8+1+1+1+1+1+1+1))) (aF (bA (aa xs) (cE i*8+1+1+1+1+1+1+1))))]=Ch op r a b nn tg ll le)
 (.call ⟨50,[.agg [sI .i64 op,sI .i64 r,sI .u32 a,sI .u32 b,sI .i32 nn,.p (.ps tg.length 1 (bW VO tg)),.p (.ps ll.length 8 (aa ll)),.p (.ps le.length 8 (aa le))]],[],.p (.sc (.bool ok)),[]⟩
 (.test (!ok)
 (.out (.ret (.bk []) [.ob (jX ae 31 0 (fm (some Code.ret)) (some Code.ret)) [.p (.ps l.length 8 (aa l)),.af,.mp 2 0,sB false,.mp 3 0,.mp 4 0,.mp 5 0,.af,.af,.p (.ps l.length 8 (aa l)),.fn (V2 72) [] [.mp 1 0],.af,.af,.af,.af,.af,.af,.af,.af,.af,.af,.af,.af,.af,.af,.af,.af,.af,.af,.af,.af,.af,.af,.af,.af,.af,.af],.pc [.ps l.length 8 (aa l)],.pc [sP 2],.pc [sP tags],.pc [sP n],.pc [sP most]]))
 (.need (sI .i64 (vj.wrap (n+1))=sI vj (n+1))
 (.test (decide ((↑ll.length:Int)>0))
 (.need (sI .i64 (vj.wrap (d+1))=sI vj (d+1))
 (.must (((k+1)*32).ble b7&&(k+1).ble b7&&((k*2).ble cells.length&&true)&&true)
 (.test (decide ((↑le.length:Int)>0))
 (.need (sI .i64 (vj.wrap (d+1))=sI vj (d+1))
 (.must (((k+1+1)*32).ble b7&&(k+1+1).ble b7&&(((k+1)*2).ble (VV (k*2) cells++[.p (.ps ll.length 8 (aa ll)),sI .i64 (d+1)]).length&&true)&&true)
 (.need (sI .i64 (vj.wrap ((↑i:Int)+1))=sI vj (↑(i+1):Int))
 (.at (aj ae env 72 2 [.vy 0,.ms 6 0 (k+1+1) 2 none,.mp 7 0,.p (.ps xs.length 8 (aa xs)),sI .i64 (↑xs.length:Int),sI .i64 (↑(i+1):Int)] ([.ob (jX ae 31 0 (fm none) none) [.p (.ps l.length 8 (aa l)),.af,.mp 2 0,sB false,.mp 3 0,.mp 4 0,.mp 5 0,.af,.af,.p (.ps l.length 8 (aa l)),.fn (V2 72) [] [.mp 1 0],.af,.af,.af,.af,.af,.af,.af,.af,.af,.af,.af,.af,.af,.af,.af,.af,.af,.af,.af,.af,.af,.af,.af,.af,.af,.af],.pc [.ps l.length 8 (aa l)],.pc [sP 0],.pc [sP (bif false then V3 tags (↑tg.length:Int) else V4 tags (↑tg.length:Int))],.pc [sP (n+1)],.pc [sP (bif false then V3 most d else V4 most d)],.ob (fR.gr 109 true) (VU ew (VV ((k+1)*2) (VV (k*2) cells++[.p (.ps ll.length 8 (aa ll)),sI .i64 (d+1)])++[.p (.ps le.length 8 (aa le)),sI .i64 (d+1)])),.ac [.p (.ps xs.length 8 (aa xs)),sI .i64 d]]) 6 64)))))
 (.need (sI .i64 (vj.wrap ((↑i:Int)+1))=sI vj (↑(i+1):Int))
 (.at (aj ae env 72 2 [.vy 0,.ms 6 0 (k+1) 2 none,.mp 7 0,.p (.ps xs.length 8 (aa xs)),sI .i64 (↑xs.length:Int),sI .i64 (↑(i+1):Int)] ([.ob (jX ae 31 0 (fm none) none) [.p (.ps l.length 8 (aa l)),.af,.mp 2 0,sB false,.mp 3 0,.mp 4 0,.mp 5 0,.af,.af,.p (.ps l.length 8 (aa l)),.fn (V2 72) [] [.mp 1 0],.af,.af,.af,.af,.af,.af,.af,.af,.af,.af,.af,.af,.af,.af,.af,.af,.af,.af,.af,.af,.af,.af,.af,.af,.af,.af],.pc [.ps l.length 8 (aa l)],.pc [sP 0],.pc [sP (bif false then V3 tags (↑tg.length:Int) else V4 tags (↑tg.length:Int))],.pc [sP (n+1)],.pc [sP (bif false then V3 most d else V4 most d)],.ob (fR.gr 109 true) (VU ew (VV (k*2) cells++[.p (.ps ll.length 8 (aa ll)),sI .i64 (d+1)])),.ac [.p (.ps xs.length 8 (aa xs)),sI .i64 d]]) 6 64))))))
 (.test (decide ((↑le.length:Int)>0))
 (.need (sI .i64 (vj.wrap (d+1))=sI vj (d+1))
 (.must (((k+1)*32).ble b7&&(k+1).ble b7&&((k*2).ble cells.length&&true)&&true)
 (.need (sI .i64 (vj.wrap ((↑i:Int)+1))=sI vj (↑(i+1):Int))
 (.at (aj ae env 72 2 [.vy 0,.ms 6 0 (k+1) 2 none,.mp 7 0,.p (.ps xs.length 8 (aa xs)),sI .i64 (↑xs.length:Int),sI .i64 (↑(i+1):Int)] ([.ob (jX ae 31 0 (fm none) none) [.p (.ps l.length 8 (aa l)),.af,.mp 2 0,sB false,.mp 3 0,.mp 4 0,.mp 5 0,.af,.af,.p (.ps l.length 8 (aa l)),.fn (V2 72) [] [.mp 1 0],.af,.af,.af,.af,.af,.af,.af,.af,.af,.af,.af,.af,.af,.af,.af,.af,.af,.af,.af,.af,.af,.af,.af,.af,.af,.af],.pc [.ps l.length 8 (aa l)],.pc [sP 0],.pc [sP (bif false then V3 tags (↑tg.length:Int) else V4 tags (↑tg.length:Int))],.pc [sP (n+1)],.pc [sP (bif false then V3 most d else V4 most d)],.ob (fR.gr 109 true) (VU ew (VV (k*2) cells++[.p (.ps le.length 8 (aa le)),sI .i64 (d+1)])),.ac [.p (.ps xs.length 8 (aa xs)),sI .i64 d]]) 6 64)))))
 (.need (sI .i64 (vj.wrap ((↑i:Int)+1))=sI vj (↑(i+1):Int))
 (.at (aj ae env 72 2 [.vy 0,.ms 6 0 k 2 none,.mp 7 0,.p (.ps xs.length 8 (aa xs)),sI .i64 (↑xs.length:Int),sI .i64 (↑(i+1):Int)] ([.ob (jX ae 31 0 (fm none) none) [.p (.ps l.length 8 (aa l)),.af,.mp 2 0,sB false,.mp 3 0,.mp 4 0,.mp 5 0,.af,.af,.p (.ps l.length 8 (aa l)),.fn (V2 72) [] [.mp 1 0],.af,.af,.af,.af,.af,.af,.af,.af,.af,.af,.af,.af,.af,.af,.af,.af,.af,.af,.af,.af,.af,.af,.af,.af,.af,.af],.pc [.ps l.length 8 (aa l)],.pc [sP 0],.pc [sP (bif false then V3 tags (↑tg.length:Int) else V4 tags (↑tg.length:Int))],.pc [sP (n+1)],.pc [sP (bif false then V3 most d else V4 most d)],.ob (fR.gr 109 true) (VU ew cells),.ac [.p (.ps xs.length 8 (aa xs)),sI .i64 d]]) 6 64)))))))))))
 (.at (aj ae env 72 0 [.vy 0,.ms 6 0 k 2 none] ([.ob (jX ae 31 0 V1 none) [.p (.ps l.length 8 (aa l)),.af,.mp 2 0,sB false,.mp 3 0,.mp 4 0,.mp 5 0,.af,.af,.p (.ps l.length 8 (aa l)),.fn (V2 72) [] [.mp 1 0],.af,.af,.af,.af,.af,.af,.af,.af,.af,.af,.af,.af,.af,.af,.af,.af,.af,.af,.af,.af,.af,.af,.af,.af,.af,.af],.pc [.ps l.length 8 (aa l)],.pc [sP 0],.pc [sP tags],.pc [sP n],.pc [sP most],.ob (fR.gr 109 true) (VU ew cells)]) 6 64)))
theorem w9 (l:List Ins) (tags n most:Int) (cells:List AV) (k:Nat) (xs:List Ins) (d:Int) (i:Nat) (op r a b nn:Int) (tg:List Int) (ll:List Ins) (le:List Ins) (ok:Bool):grow ae env (MG l tags n most cells k xs d i op r a b nn tg ll le ok) 1000000 true (aj ae env 72 2 ([AV.vy 0,AV.ms 6 0 k 2 VZ,AV.mp 7 0,aL xs,sI vj (↑xs.length:Int),sI vj (↑i:Int)]) (FB l tags n most cells++[aH.ac [aL xs,sI vj d]]) 6 64) O1 atEnd=mB l tags n most cells k xs d i op r a b nn tg ll le ok:=by kernel_rfl
def Rs (l:List Ins) (tags n most:Int):Out:= .ret (.bk []) [recC l .ready none,.pc [.ps l.length 8 (aa l)],.pc [sP 0],.pc [sP tags],.pc [sP n],.pc [sP most]]
def O2 (l:List Ins) (tags n most:Int):Out:= .ret (.bk []) [recC l .done (some .ret),.pc [.ps l.length 8 (aa l)],.pc [sP 2],.pc [sP tags],.pc [sP n],.pc [sP most]]
def qa:Nat:=1000000000000
def zq (p:Ins→Bool) (l:List Ins) (st:ji) (tags n most:Nat) (o:Out):Prop:=
 (HE p st=true∧o=Rs l (max tags (wZ st):Nat) (n+ru st:Nat) (max most (wY st):Nat))∨(HE p st=false ∧ ∃t k m,o=O2 l t k m)
section
variable (p:Ins→Bool) (hp : ∀x:Ins,aG ae env 50 [MC x] [] (sB (p x)) []) (l:List Ins)
include hp in
theorem FC (N:Nat) (ih : ∀(st:ji) (cells:List AV) (tags n most:Nat),wS st<N→fZ st cells→n+ru st≤qa→wS st≤qa→(∀e∈st,e.2+bU e.1≤qa) →
   ∃o,dK ae env (aj ae env 72 0 [.vy 0,.ms 6 0 st.length 2 none] (FB l tags n most cells) 6 64) o∧zq p l st tags n most o) (xs:List Ins) (hxs:xs.length≤qa) (d:Nat) :
  ∀(r i:Nat) (st:ji) (cells:List AV) (tags n most:Nat),i+r=xs.length→wS st+2*bU (xs.drop i)<N→fZ st cells→n+ru st+bU (xs.drop i)≤qa→wS st+2*bU (xs.drop i)≤qa→(∀e∈st,e.2+bU e.1≤qa)→d+bU (xs.drop i)≤qa →
   ∃o,dK ae env (aj ae env 72 2 [.vy 0,.ms 6 0 st.length 2 none,.mp 7 0,aL xs,sI .i64 xs.length,sI .i64 i] (FB l tags n most cells++[.ac [aL xs,sI .i64 d]]) 6 64) o∧zq p l (st++[(xs.drop i,d)]) tags n most o:=by
 intro r
 induction r with
 |zero=>
  intro i st cells tags n most hi hN ht hn hw he hd
  have h1:xs.drop i=[]:=List.drop_eq_nil_of_le (by omega)
  rw[h1] at hN hn hw ⊢
  simp only[bU] at hN hn hw
  obtain⟨o,ho,hq⟩:=ih st (cells.map ew) tags n most (by omega) ht.keep (by omega) (by omega) he
  refine⟨o,aC cV (w9 l tags n most cells st.length xs d i 0 0 0 0 0 [] [] [] true) ?_,?_⟩
  · have h2 : ¬((i:Int)<xs.length):=by omega
    simp only[mB,ct,aN.ok]
    exact⟨fun h=>absurd (by simpa using h) h2,fun _=>ho⟩
  · unfold zq at hq ⊢
    rw[p9,kO,uh,ug]
    simpa[qi,bU,eV,dN] using hq
 |succ r ihr=>
  intro i st cells tags n most hi hN ht hn hw he hd
  have BC:i<xs.length:=by omega
  have O3:xs[i]? = some xs[i]:=dp BC
  have TP:xs.drop i=xs[i]::xs.drop (i+1):=List.drop_eq_getElem_cons BC
  rw[TP] at hN hn hw hd ⊢
  generalize xs[i]=x at *
  generalize hys:xs.drop (i+1)=ys at *
  obtain⟨op,rs,a,b,nn,tg,ll,le⟩:=x
  obtain⟨c0,c1,c2,c3,c4,c5,c6,c7⟩:=wX O3
  have hpx:=hp (.mk op rs a b nn tg ll le)
  have C2:qa=1000000000000:=rfl
  have cY:b7=70368744177664:=rfl
  simp only[bU,oO] at hN hn hw hd
  have Qz:=sQ st
  have Jw:=ht.len
  have w1:vj.wrap ((i:Int)+1)=((i+1:Nat):Int):=by rw[aX (by omega) (by omega)];rfl
  have w2:vj.wrap ((d:Int)+1)=((d+1:Nat):Int):=by rw[aX (by omega) (by omega)];rfl
  have w3:vj.wrap ((n:Int)+1)=((n+1:Nat):Int):=by rw[aX (by omega) (by omega)];rfl
  have Jj:(i:Int)<(xs.length:Int):=by omega
  cases hok:p (.mk op rs a b nn tg ll le) with
  |false=>
   refine⟨O2 l tags n most,aC cV (w9 l tags n most cells st.length xs d i op rs a b nn tg ll le false) ?_,.inr ⟨?_,_,_,_,rfl⟩⟩
   · simp only[mB,ct,aN.ok,V5,iu,VX,c0,c1,c2,c3,c4,c5,c6,c7,isInt,cW,aS,aJ,cH,aF,eW]
     refine⟨fun _=>⟨by simp[Jj],by simp,rfl,?_,fun _=>rfl,fun h=>by cases h⟩,fun h=>absurd Jj (by simpa using h)⟩
     rw[hok] at hpx;exact hpx
   · rw[p9,uR,qi,F6,hok];simp
  |true=>
   have next : ∀(s:ji) (cs:List AV),fZ (st++s) cs→wS s≤2*(bU ll+bU le)+2→ru s=bU ll+bU le→HE p s=(qi p ll&&qi p le)→wZ s=max (eV ll) (eV le)→wY s=max (dN (d+1) ll) (dN (d+1) le)→(∀e∈s,e.2+bU e.1≤qa) →
     ∃o,dK ae env (aj ae env 72 2 [.vy 0,.ms 6 0 (st++s).length 2 none,.mp 7 0,aL xs,sI .i64 xs.length,sI .i64 (i+1:Nat)] (FB l (max tags tg.length:Nat) (n+1:Nat) (max most d:Nat) cs++[.ac [aL xs,sI .i64 d]]) 6 64) o∧zq p l (st++[(.mk op rs a b nn tg ll le::ys,d)]) tags n most o:=by
    intro s cs hts UM TQ hos TR hds TS
    obtain⟨o,ho,hq⟩:=ihr (i+1) (st++s) cs (max tags tg.length) (n+1) (max most d) (by omega) (by rw[sO,hys];omega) hts (by rw[kO,hys];omega) (by rw[sO,hys];omega)
     (fun e hm=>(List.mem_append.1 hm).elim (he e) (TS e)) (by rw[hys];omega)
    refine⟨o,ho,?_⟩
    rw[hys] at hq
    unfold zq at hq ⊢
    simp only[p9,kO,uh,ug,uR,w8,Cj,Ci,hos,TQ,TR,hds] at hq ⊢
    simp only[qi,F6,bU,oO,eV,wT,dN,rm,hok,Bool.true_and]
    rcases hq with⟨q1,q2⟩ | ⟨q1,q2⟩
    · refine .inl ⟨by rw[Bool.and_assoc] at q1;exact q1,?_⟩
      rw[q2]
      congr 1<;>congr 1<;>omega
    · exact .inr ⟨by rw[Bool.and_assoc] at q1;exact q1,q2⟩
   have tree:=w9 l tags n most cells st.length xs d i op rs a b nn tg ll le true
   have JZ:aG ae env 50 [Ch op rs a b nn tg ll le] [] (sB true) []:=by rw[hok] at hpx;exact hpx
   have Qn:max (tags:Int) (tg.length:Int)=((max tags tg.length:Nat):Int):=by omega
   have Qo:max (most:Int) (d:Int)=((max most d:Nat):Int):=by omega
   have nl : ∀z:List Ins,z≠[]→0<(z.length:Int):=fun z hz=>by have:=List.length_pos_iff.2 hz;omega
   by_cases LK:ll=[]
   · by_cases hle:le=[]
     · subst LK;subst hle
       obtain⟨o,ho,hq⟩:=next [] (cells.map ew) (by rw[Vi];exact ht.keep) (by simp[wS,bU]) (by simp[ru,bU]) (by simp[HE,qi]) (by simp[wZ,eV]) (by simp[wY,dN]) (fun _ h=>by cases h)
       refine⟨o,aC cV tree ?_,hq⟩
       simp only[mB,ct,aN.ok,V5,iu,VX,c0,c1,c2,c3,c4,c5,c6,c7,isInt,cW,aS,aJ,cH,aF,eW,w1,w2,w3,cond_false,Qn,Qo]
       rw[Vi] at ho
       exact⟨fun _=>⟨by simp[Jj],by simp,rfl,JZ,fun h=>(by cases h),fun _=>⟨rfl,fun h=>(by simp at h),fun _=>⟨fun h=>(by simp at h),fun _=>⟨(by trivial),ho⟩⟩⟩⟩,fun h=>absurd Jj (by simpa using h)⟩
     · subst LK
       have Rt:=nl le hle
       obtain⟨o,ho,hq⟩:=next [(le,d+1)] _ (ht.push le (d+1)).keep (by simp[bU]) (by simp[bU]) (by simp[qi]) (by simp[eV]) (by simp[dN]) (fun e h=>by simp only[VT] at h;subst h;simp only;omega)
       refine⟨o,aC cV tree ?_,hq⟩
       simp only[mB,ct,aN.ok,V5,iu,VX,c0,c1,c2,c3,c4,c5,c6,c7,isInt,cW,aS,aJ,cH,aF,eW,w1,w2,w3,cond_false,Qn,Qo]
       rw[ei] at ho
       exact⟨fun _=>⟨by simp[Jj],by simp,rfl,JZ,fun h=>(by cases h),fun _=>⟨rfl,fun h=>(by simp at h),fun _=>⟨fun _=>⟨rfl,(by simp;omega),(by trivial),ho⟩,fun h=>absurd Rt (by simpa using h)⟩⟩⟩,fun h=>absurd Jj (by simpa using h)⟩
   · have SL:=nl ll LK
     by_cases hle:le=[]
     · subst hle
       obtain⟨o,ho,hq⟩:=next [(ll,d+1)] _ (ht.push ll (d+1)).keep (by simp[bU]) (by simp[bU]) (by simp[qi]) (by simp[eV]) (by simp[dN]) (fun e h=>by simp only[VT] at h;subst h;simp only;omega)
       refine⟨o,aC cV tree ?_,hq⟩
       simp only[mB,ct,aN.ok,V5,iu,VX,c0,c1,c2,c3,c4,c5,c6,c7,isInt,cW,aS,aJ,cH,aF,eW,w1,w2,w3,cond_false,Qn,Qo]
       rw[ei] at ho
       exact⟨fun _=>⟨by simp[Jj],by simp,rfl,JZ,fun h=>(by cases h),fun _=>⟨rfl,fun _=>⟨rfl,(by simp;omega),fun h=>(by simp at h),fun _=>⟨(by trivial),ho⟩⟩,fun h=>absurd SL (by simpa using h)⟩⟩,fun h=>absurd Jj (by simpa using h)⟩
     · have Rt:=nl le hle
       have C9:=(ht.push ll (d+1)).push le (d+1)
       rw[qf] at C9
       obtain⟨o,ho,hq⟩:=next [(ll,d+1),(le,d+1)] _ C9.keep (by simp[wS];omega) (by simp[ru]) (by simp[HE]) (by simp[wZ]) (by simp[wY]) (fun e h=>by simp only[List.mem_cons,List.not_mem_nil,or_false] at h;rcases h with rfl | rfl<;>simp only<;>omega)
       refine⟨o,aC cV tree ?_,hq⟩
       simp only[mB,ct,aN.ok,V5,iu,VX,c0,c1,c2,c3,c4,c5,c6,c7,isInt,cW,aS,aJ,cH,aF,eW,w1,w2,w3,cond_false,Qn,Qo]
       simp only[ei,pa,VS,VX] at ho
       exact⟨fun _=>⟨by simp[Jj],by simp,rfl,JZ,fun h=>(by cases h),fun _=>⟨rfl,fun _=>⟨rfl,(by simp;omega),fun _=>⟨rfl,(by simp;omega),(by trivial),ho⟩,fun h=>absurd Rt (by simpa using h)⟩,fun h=>absurd SL (by simpa using h)⟩⟩,fun h=>absurd Jj (by simpa using h)⟩
include hp in
theorem zu : ∀(N:Nat) (st:ji) (cells:List AV) (tags n most:Nat),wS st<N→fZ st cells→n+ru st≤qa→wS st≤qa→(∀e∈st,e.2+bU e.1≤qa) →
   ∃o,dK ae env (aj ae env 72 0 [.vy 0,.ms 6 0 st.length 2 none] (FB l tags n most cells) 6 64) o∧zq p l st tags n most o
 |0,_,_,_,_,_,h,_,_,_,_=>by omega
 |N+1,st,cells,tags,n,most,hN,ht,hn,hw,he=>by
  rcases List.eq_nil_or_concat st with rfl | ⟨s,⟨x,d⟩,rfl⟩
  · exact⟨_,aC cV (HG l tags n most cells) rfl,.inl ⟨rfl,(by simp[wZ,ru,wY];rfl)⟩⟩
  · rw[List.concat_eq_append] at *
    have hx:=he (x,d) (by simp)
    rw[sO,MD] at hN hw
    rw[kO,w8] at hn
    obtain⟨t0,t1⟩:=ht.top
    have Jw:=ht.len
    have Qz:=sQ s
    have C2:qa=1000000000000:=rfl
    have Q8:=kN x
    simp only[ei,pa,VS] at Jw hx
    obtain⟨o,ho,hq⟩:=FC p hp l N (fun st cells tags n most=>zu N st cells tags n most) x (by omega) d x.length 0 s (cells.map ew) tags n most (by omega) (by rw[VR];omega) ht.pop.keep (by rw[VR];omega) (by rw[VR];omega)
     (fun e hm=>he e (List.mem_append_left _ hm)) (by rw[VR];omega)
    rw[VR] at hq
    refine⟨o,?_,hq⟩
    have w1:vj.wrap (((s.length+1:Nat):Int)-1)=(s.length:Int):=by rw[aX (by omega) (by omega)];omega
    rw[ei,List.length_singleton]
    refine aC cV (HF l tags n most cells s.length x d) ?_
    simp only[Ep,ct,aN.ok,V5,sa,t0,t1,aI,yz,w1,isInt,cW,aS,aJ,cH,aF,eW,Nat.sub_zero]
    exact⟨fun _=>⟨(by trivial),(by simp;omega),(by simp;omega),(by trivial),(by trivial),(by simp),ho⟩,fun h=>absurd h (by simp)⟩
end
section
variable (l:List Ins)
end
def Ru (l:List Ins) (tags n most:Int) (f:FuncId) (_:List AV) (_:Mem):Option (AV×Mem):=cond (be f 72) (some (.bk [],[recC l .ready none,.pc [.ps l.length 8 (aa l)],.pc [sP 0],.pc [sP tags],.pc [sP n],.pc [sP most]])) none
def Rv (l:List Ins) (tags n most:Int) (f:FuncId) (_:List AV) (_:Mem):Option (AV×Mem):=cond (be f 72) (some (.bk [],[recC l .done (some .ret),.pc [.ps l.length 8 (aa l)],.pc [sP 2],.pc [sP tags],.pc [sP n],.pc [sP most]])) none
def MH:gQ:=fy dY cC [(72,0)] [] []
def O4:Sc:= .fin
def J0 (l:List Ins):aN:=
 (.at (aj ae env 72 0 [.vy 0,.ms 6 0 1 2 none] ([.ob (jX ae 31 0 V1 none) [.p (.ps l.length 8 (aa l)),.af,.mp 2 0,sB false,.mp 3 0,.mp 4 0,.mp 5 0,.af,.af,.p (.ps l.length 8 (aa l)),.fn (V2 72) [] [.mp 1 0],.af,.af,.af,.af,.af,.af,.af,.af,.af,.af,.af,.af,.af,.af,.af,.af,.af,.af,.af,.af,.af,.af,.af,.af,.af,.af],.pc [.ps l.length 8 (aa l)],.pc [sP 0],.pc [sP 0],.pc [sP 0],.pc [sP 0],.ob (fR.gr 109 true) [.p (.ps l.length 8 (aa l)),sI .i64 1]]) 6 64))
theorem Ck (l:List Ins):dF ae env MH 1000000 72 ([AV.vy 0,AV.mp 1 0]) ([recC l V1 VZ,aH.pc [PV.ps l.length 8 (aa l)],aH.pc [sP 0],aH.pc [sP 0],aH.pc [sP 0],aH.pc [sP 0]]) O4=J0 l:=by kernel_rfl
def J1 (l:List Ins) (tags n most:Int):gQ:=fy (Ru l tags n most) cC [] [(31,10,3),(31,10,7),(31,0,0)] []
def MI:Sc:=(.fork (.lit (.lit .fin)) (.fork (.lit .fin) .fin))
def HH (l:List Ins) (tags n most:Int):aN:=
 (.call ⟨72,[.vy 0,.mp 1 0],[.ob (jX ae 31 0 V1 none) [.p (.ps l.length 8 (aa l)),.af,.mp 2 0,sB false,.mp 3 0,.mp 4 0,.mp 5 0,.af,.af,.p (.ps l.length 8 (aa l)),.fn (V2 72) [] [.mp 1 0],.af,.af,.af,.af,.af,.af,.af,.af,.af,.af,.af,.af,.af,.af,.af,.af,.af,.af,.af,.af,.af,.af,.af,.af,.af,.af],.pc [.ps l.length 8 (aa l)],.pc [sP 0],.pc [sP 0],.pc [sP 0],.pc [sP 0]],.bk [],[.ob (jX ae 31 0 V1 none) [.p (.ps l.length 8 (aa l)),.af,.mp 2 0,sB false,.mp 3 0,.mp 4 0,.mp 5 0,.af,.af,.p (.ps l.length 8 (aa l)),.fn (V2 72) [] [.mp 1 0],.af,.af,.af,.af,.af,.af,.af,.af,.af,.af,.af,.af,.af,.af,.af,.af,.af,.af,.af,.af,.af,.af,.af,.af,.af,.af],.pc [.ps l.length 8 (aa l)],.pc [sP 0],.pc [sP tags],.pc [sP n],.pc [sP most]]⟩
 (.test (decide (n>262144))
 (.out (.ret (sI .i64 141) []))
 (.test (decide (tags>16384))
 (.out (.ret (sI .i64 141) []))
 (.test (decide (most>900))
 (.out (.ret (sI .i64 141) []))
 (.out (.ret (sI .i64 0) []))))))
theorem FD (l:List Ins) (tags n most:Int):dF ae env (J1 l tags n most) 1000000 31 ([aL l]) ([]) MI=HH l tags n most:=by kernel_rfl
def J2 (l:List Ins) (tags n most:Int):gQ:=fy (Rv l tags n most) cC [] [] []
def MJ:Sc:= .fin
def HI (l:List Ins) (tags n most:Int):aN:=
 (.call ⟨72,[.vy 0,.mp 1 0],[.ob (jX ae 31 0 V1 none) [.p (.ps l.length 8 (aa l)),.af,.mp 2 0,sB false,.mp 3 0,.mp 4 0,.mp 5 0,.af,.af,.p (.ps l.length 8 (aa l)),.fn (V2 72) [] [.mp 1 0],.af,.af,.af,.af,.af,.af,.af,.af,.af,.af,.af,.af,.af,.af,.af,.af,.af,.af,.af,.af,.af,.af,.af,.af,.af,.af],.pc [.ps l.length 8 (aa l)],.pc [sP 0],.pc [sP 0],.pc [sP 0],.pc [sP 0]],.bk [],[.ob (jX ae 31 0 LoopState.done (some Code.ret)) [.p (.ps l.length 8 (aa l)),.af,.mp 2 0,sB false,.mp 3 0,.mp 4 0,.mp 5 0,.af,.af,.p (.ps l.length 8 (aa l)),.fn (V2 72) [] [.mp 1 0],.af,.af,.af,.af,.af,.af,.af,.af,.af,.af,.af,.af,.af,.af,.af,.af,.af,.af,.af,.af,.af,.af,.af,.af,.af,.af],.pc [.ps l.length 8 (aa l)],.pc [sP 2],.pc [sP tags],.pc [sP n],.pc [sP most]]⟩
 (.out (.ret (sI .i64 2) [])))
theorem FE (l:List Ins) (tags n most:Int):dF ae env (J2 l tags n most) 1000000 31 ([aL l]) ([]) MJ=HI l tags n most:=by kernel_rfl
theorem J3 (l:List Ins):fZ [(l,1)] [.p (.ps l.length 8 (aa l)),.p (.sc (.int .i64 1))]:=rfl
def eG (p:Ins→Bool) (l:List Ins):Int:=if qi p l=false then 2 else if 262144<bU l∨16384<eV l∨900<dN 1 l then 141 else 0
theorem DC {p:Ins→Bool} (hp : ∀x:Ins,aG ae env 50 [MC x] [] (sB (p x)) []) (l:List Ins) (h:bU l≤100000000000):aG ae env 31 [aL l] [] (sI .i64 (eG p l)) []:=by
 have C2:qa=1000000000000:=rfl
 obtain⟨o,ho,hq⟩:=zu p hp l (2*bU l+2) [(l,1)] _ 0 0 0 (by simp) (J3 l) (by simp;omega) (by simp;omega) (fun e he=>by simp only[VT] at he;subst he;simp only;omega)
 rcases hq with⟨q1,rfl⟩ | ⟨q1,t,k,m,rfl⟩
 · have hd:aG ae env 72 [.vy 0,.mp 1 0] _ (.bk []) _:=ak cV (Ck l) ho
   refine ak cV (FD l _ _ _) ⟨hd,?_⟩
   rw[uR] at q1
   simp only[Cj,w8,Ci,sa,Nat.zero_max]
   have z : ∀a b:Nat,decide ((a:Int)>(b:Int))=decide (b<a):=fun a b=>by congr 1;exact propext (by omega)
   unfold eG
   rw[if_neg (by rw[q1];simp)]
   refine⟨fun h1=> ?_,fun h1=>⟨fun h2=> ?_,fun h2=>⟨fun h3=> ?_,fun h3=> ?_⟩⟩⟩<;>simp only[decide_eq_true_eq,decide_eq_false_iff_not] at *
   · rw[if_pos (by omega)];rfl
   · rw[if_pos (by omega)];rfl
   · rw[if_pos (by omega)];rfl
   · rw[if_neg (by omega)];rfl
 · have hd:aG ae env 72 [.vy 0,.mp 1 0] _ (.bk []) _:=ak cV (Ck l) ho
   refine ak cV (FE l t k m) ⟨hd,?_⟩
   rw[uR] at q1
   unfold eG
   rw[if_pos q1];rfl
def FF:cF:=⟨82,[.p (.sc (.string ⟨#[101,113,122,32,101,113,32,110,101,32,108,116,95,115,32,108,116,95,117,32,103,116,95,115,32,103,116,95,117,32,108,101,95,115,32,108,101,95,117,32,103,101,95,115,32,103,101,95,117]⟩))],[],.p (.ps 11 1 [.sc (.string ⟨#[101,113,122]⟩),.sc (.string ⟨#[101,113]⟩),.sc (.string ⟨#[110,101]⟩),.sc (.string ⟨#[108,116,95,115]⟩),.sc (.string ⟨#[108,116,95,117]⟩),.sc (.string ⟨#[103,116,95,115]⟩),.sc (.string ⟨#[103,116,95,117]⟩),.sc (.string ⟨#[108,101,95,115]⟩),.sc (.string ⟨#[108,101,95,117]⟩),.sc (.string ⟨#[103,101,95,115]⟩),.sc (.string ⟨#[103,101,95,117]⟩)]),[]⟩
theorem Rw:aG ae env FF.g FF.args FF.m FF.v FF.m':=fI cV (K:=[]) oI (n:=10000000) (by kernel_rfl)
def MK:List cF:=FF::[]
theorem HJ:fu ae env MK:=gA Rw oI
def FG:cF:=⟨82,[.p (.sc (.string ⟨#[99,108,122,32,99,116,122,32,112,111,112,99,110,116,32,97,100,100,32,115,117,98,32,109,117,108,32,100,105,118,95,115,32,100,105,118,95,117,32,114,101,109,95,115,32,114,101,109,95,117,32,97,110,100,32,111,114,32,120,111,114,32,115,104,108,32,115,104,114,95,115,32,115,104,114,95,117,32,114,111,116,108,32,114,111,116,114]⟩))],[],.p (.ps 18 1 [.sc (.string ⟨#[99,108,122]⟩),.sc (.string ⟨#[99,116,122]⟩),.sc (.string ⟨#[112,111,112,99,110,116]⟩),.sc (.string ⟨#[97,100,100]⟩),.sc (.string ⟨#[115,117,98]⟩),.sc (.string ⟨#[109,117,108]⟩),.sc (.string ⟨#[100,105,118,95,115]⟩),.sc (.string ⟨#[100,105,118,95,117]⟩),.sc (.string ⟨#[114,101,109,95,115]⟩),.sc (.string ⟨#[114,101,109,95,117]⟩),.sc (.string ⟨#[97,110,100]⟩),.sc (.string ⟨#[111,114]⟩),.sc (.string ⟨#[120,111,114]⟩),.sc (.string ⟨#[115,104,108]⟩),.sc (.string ⟨#[115,104,114,95,115]⟩),.sc (.string ⟨#[115,104,114,95,117]⟩),.sc (.string ⟨#[114,111,116,108]⟩),.sc (.string ⟨#[114,111,116,114]⟩)]),[]⟩
theorem Rx:aG ae env FG.g FG.args FG.m FG.v FG.m':=fI cV (K:=MK) HJ (n:=10000000) (by kernel_rfl)
def O5:List cF:=FG::MK
theorem ML:fu ae env O5:=gA Rx HJ
def Jk:List ByteArray:=[⟨#[117,110,114,101,97,99,104,97,98,108,101]⟩,⟨#[110,111,112]⟩,⟨#[98,108,111,99,107]⟩,⟨#[108,111,111,112]⟩,⟨#[105,102]⟩,⟨#[]⟩,⟨#[]⟩,⟨#[]⟩,⟨#[]⟩,⟨#[]⟩,⟨#[]⟩,⟨#[]⟩,⟨#[98,114]⟩,⟨#[98,114,95,105,102]⟩,⟨#[98,114,95,116,97,98,108,101]⟩,⟨#[114,101,116,117,114,110]⟩,⟨#[99,97,108,108]⟩,⟨#[99,97,108,108,95,105,110,100,105,114,101,99,116]⟩,⟨#[]⟩,⟨#[]⟩,⟨#[]⟩,⟨#[]⟩,⟨#[]⟩,⟨#[]⟩,⟨#[]⟩,⟨#[]⟩,⟨#[100,114,111,112]⟩,⟨#[115,101,108,101,99,116]⟩,⟨#[]⟩,⟨#[]⟩,⟨#[]⟩,⟨#[]⟩,⟨#[108,111,99,97,108,46,103,101,116]⟩,⟨#[108,111,99,97,108,46,115,101,116]⟩,⟨#[108,111,99,97,108,46,116,101,101]⟩,⟨#[103,108,111,98,97,108,46,103,101,116]⟩,⟨#[103,108,111,98,97,108,46,115,101,116]⟩,⟨#[]⟩,⟨#[]⟩,⟨#[]⟩,⟨#[105,51,50,46,108,111,97,100]⟩,⟨#[]⟩,⟨#[]⟩,⟨#[]⟩,⟨#[105,51,50,46,108,111,97,100,56,95,115]⟩,⟨#[105,51,50,46,108,111,97,100,56,95,117]⟩,⟨#[105,51,50,46,108,111,97,100,49,54,95,115]⟩,⟨#[105,51,50,46,108,111,97,100,49,54,95,117]⟩,⟨#[]⟩,⟨#[]⟩,⟨#[]⟩,⟨#[]⟩,⟨#[]⟩,⟨#[]⟩,⟨#[105,51,50,46,115,116,111,114,101]⟩,⟨#[]⟩,⟨#[]⟩,⟨#[]⟩,⟨#[105,51,50,46,115,116,111,114,101,56]⟩,⟨#[105,51,50,46,115,116,111,114,101,49,54]⟩,⟨#[]⟩,⟨#[]⟩,⟨#[]⟩,⟨#[109,101,109,111,114,121,46,115,105,122,101]⟩,⟨#[109,101,109,111,114,121,46,103,114,111,119]⟩,⟨#[105,51,50,46,99,111,110,115,116]⟩,⟨#[]⟩,⟨#[]⟩,⟨#[]⟩,⟨#[105,51,50,46,101,113,122]⟩,⟨#[105,51,50,46,101,113]⟩,⟨#[105,51,50,46,110,101]⟩,⟨#[105,51,50,46,108,116,95,115]⟩,⟨#[105,51,50,46,108,116,95,117]⟩,⟨#[105,51,50,46,103,116,95,115]⟩,⟨#[105,51,50,46,103,116,95,117]⟩,⟨#[105,51,50,46,108,101,95,115]⟩,⟨#[105,51,50,46,108,101,95,117]⟩,⟨#[105,51,50,46,103,101,95,115]⟩,⟨#[105,51,50,46,103,101,95,117]⟩,⟨#[]⟩,⟨#[]⟩,⟨#[]⟩,⟨#[]⟩,⟨#[]⟩,⟨#[]⟩,⟨#[]⟩,⟨#[]⟩,⟨#[]⟩,⟨#[]⟩,⟨#[]⟩,⟨#[]⟩,⟨#[]⟩,⟨#[]⟩,⟨#[]⟩,⟨#[]⟩,⟨#[]⟩,⟨#[]⟩,⟨#[]⟩,⟨#[]⟩,⟨#[]⟩,⟨#[]⟩,⟨#[]⟩,⟨#[105,51,50,46,99,108,122]⟩,⟨#[105,51,50,46,99,116,122]⟩,⟨#[105,51,50,46,112,111,112,99,110,116]⟩,⟨#[105,51,50,46,97,100,100]⟩,⟨#[105,51,50,46,115,117,98]⟩,⟨#[105,51,50,46,109,117,108]⟩,⟨#[105,51,50,46,100,105,118,95,115]⟩,⟨#[105,51,50,46,100,105,118,95,117]⟩,⟨#[105,51,50,46,114,101,109,95,115]⟩,⟨#[105,51,50,46,114,101,109,95,117]⟩,⟨#[105,51,50,46,97,110,100]⟩,⟨#[105,51,50,46,111,114]⟩,⟨#[105,51,50,46,120,111,114]⟩,⟨#[105,51,50,46,115,104,108]⟩,⟨#[105,51,50,46,115,104,114,95,115]⟩,⟨#[105,51,50,46,115,104,114,95,117]⟩,⟨#[105,51,50,46,114,111,116,108]⟩,⟨#[105,51,50,46,114,111,116,114]⟩,⟨#[]⟩,⟨#[]⟩,⟨#[]⟩,⟨#[]⟩,⟨#[]⟩,⟨#[]⟩,⟨#[]⟩,⟨#[]⟩,⟨#[]⟩,⟨#[]⟩,⟨#[]⟩,⟨#[]⟩,⟨#[]⟩,⟨#[]⟩,⟨#[]⟩,⟨#[]⟩,⟨#[]⟩,⟨#[]⟩,⟨#[]⟩,⟨#[]⟩,⟨#[]⟩,⟨#[]⟩,⟨#[]⟩,⟨#[]⟩,⟨#[]⟩,⟨#[]⟩,⟨#[]⟩,⟨#[]⟩,⟨#[]⟩,⟨#[]⟩,⟨#[]⟩,⟨#[]⟩,⟨#[]⟩,⟨#[]⟩,⟨#[]⟩,⟨#[]⟩,⟨#[]⟩,⟨#[]⟩,⟨#[]⟩,⟨#[]⟩,⟨#[]⟩,⟨#[]⟩,⟨#[]⟩,⟨#[]⟩,⟨#[]⟩,⟨#[]⟩,⟨#[]⟩,⟨#[]⟩,⟨#[]⟩,⟨#[]⟩,⟨#[]⟩,⟨#[]⟩,⟨#[]⟩,⟨#[]⟩,⟨#[]⟩,⟨#[]⟩,⟨#[]⟩,⟨#[]⟩,⟨#[]⟩,⟨#[]⟩,⟨#[]⟩,⟨#[]⟩,⟨#[]⟩,⟨#[]⟩,⟨#[]⟩,⟨#[]⟩,⟨#[]⟩,⟨#[]⟩,⟨#[]⟩,⟨#[]⟩,⟨#[]⟩,⟨#[]⟩,⟨#[]⟩,⟨#[]⟩,⟨#[]⟩,⟨#[]⟩,⟨#[]⟩,⟨#[]⟩,⟨#[]⟩,⟨#[]⟩,⟨#[]⟩,⟨#[]⟩,⟨#[]⟩,⟨#[]⟩,⟨#[]⟩,⟨#[]⟩,⟨#[]⟩,⟨#[]⟩,⟨#[]⟩,⟨#[]⟩,⟨#[]⟩,⟨#[]⟩,⟨#[]⟩,⟨#[]⟩,⟨#[]⟩,⟨#[]⟩,⟨#[]⟩,⟨#[]⟩,⟨#[]⟩,⟨#[]⟩,⟨#[]⟩,⟨#[]⟩,⟨#[]⟩,⟨#[]⟩,⟨#[]⟩,⟨#[]⟩,⟨#[]⟩,⟨#[]⟩,⟨#[]⟩,⟨#[]⟩,⟨#[]⟩,⟨#[]⟩,⟨#[]⟩,⟨#[]⟩,⟨#[]⟩,⟨#[]⟩,⟨#[]⟩,⟨#[]⟩,⟨#[]⟩,⟨#[]⟩,⟨#[]⟩,⟨#[]⟩,⟨#[]⟩,⟨#[]⟩,⟨#[]⟩,⟨#[]⟩,⟨#[]⟩,⟨#[]⟩,⟨#[]⟩,⟨#[]⟩,⟨#[]⟩,⟨#[]⟩,⟨#[]⟩,⟨#[]⟩,⟨#[]⟩]
theorem MM:aG ae env 63 [] [] (.agg (Jk.map fun s=> .p (.sc (.string s)))) []:=fI cV (K:=O5) ML (n:=10000000) (by kernel_rfl)
end Go.Proofs.YtddfgnmjecogdaaDoor.N
end
