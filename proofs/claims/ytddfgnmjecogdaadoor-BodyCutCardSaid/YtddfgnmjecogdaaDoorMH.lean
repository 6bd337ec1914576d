import Derived.Test.YtddfgnmjecogdaaDoorMG
import Derived.Test.YtddfgnmjecogdaaDoorChecked
import Derived.Test.YtddfgnmjecogdaaDoorMF
import GoSem.PinnedTables
open List renaming getD_eq_getElem?_getD→dd,length_append→dC,length_cons→od,drop_zero→Tq,map_append→px,length_nil→Tr,getElem?_append_right→SK,mem_singleton→Ts,getElem?_eq_getElem→da,map→Tt,take→Tu,getElem?_eq_none→ee,append_assoc→pr,foldr_append→Tv,length_map→oR,append_nil→SS,map_cons→pj
open Nat renaming reduceAdd→Tw,add_assoc→gv,zero_le→S3,zero_add→rh,beq→a6,lt_or_ge→gg
open Go.Proofs.Tryd renaming prog→ae
open Go.IntKind renaming i64→tl,u32→Tp
open Go.TypeInfo renaming mk→Tx
open Option renaming none→Ty,some→Tz
open Go.LoopState renaming ready→TA
open Go.Fn renaming func→TB
open Min renaming min→TC
open Max renaming max→TD
open Int renaming toNat_natCast→TE
noncomputable section
section
namespace Go.Am
open Go.RowKit
inductive Ins where
 |mk (op results a b n:Int) (tags:List Int) (l e:List Ins)
namespace Ins
def op:Ins→Int | .mk op _ _ _ _ _ _ _=>op
def results:Ins→Int | .mk _ r _ _ _ _ _ _=>r
def a:Ins→Int | .mk _ _ a _ _ _ _ _=>a
def b:Ins→Int | .mk _ _ _ b _ _ _ _=>b
def n:Ins→Int | .mk _ _ _ _ n _ _ _=>n
def tags:Ins→List Int | .mk _ _ _ _ _ t _ _=>t
def l:Ins→List Ins | .mk _ _ _ _ _ _ l _=>l
def e:Ins→List Ins | .mk _ _ _ _ _ _ _ e=>e
end Ins
def cD (k:IntKind) (l:List Int):List PV:=l.map fun t=> .sc (.int k t)
mutual
def wT:Ins→List PV
 |.mk op r a b n tags l e=>[.sc (.int .i64 op),.sc (.int .i64 r),.sc (.int .u32 a),.sc (.int .u32 b),.sc (.int .i32 n),.ps tags.length 1 (cD .u32 tags),.ps l.length 8 (aa l),.ps e.length 8 (aa e)]
def aa:List Ins→List PV
 |[]=>[]
 |x::r=>wT x++aa r
end
mutual
def FP:Ins→Prop
 |.mk op r a b n tags l e=>(Lit.int .i64 op).wf=true∧(Lit.int .i64 r).wf=true∧(Lit.int .u32 a).wf=true∧(Lit.int .u32 b).wf=true∧(Lit.int .i32 n).wf=true∧(tags.length≤maxLen ∧ ∀t∈tags,(Lit.int .u32 t).wf=true)∧(l.length≤maxLen∧zH l)∧e.length≤maxLen∧zH e
def zH:List Ins→Prop
 |[]=>True
 |x::r=>FP x∧zH r
end
theorem xR : ∀l:List Ins,aa l=l.flatMap wT
 |[]=>rfl
 |x::r=>by rw[aa,xR r];rfl
theorem C6 : ∀{l:List Ins},(∀x∈l,FP x)→zH l
 |[],_=>trivial
 |x::_,h=>⟨h x (.head _),C6 fun y hy=>h y (.tail _ hy)⟩
theorem gi : ∀x:Ins,(wT x).length=8
 |.mk .. =>rfl
theorem cG : ∀l:List Ins,(aa l).length=l.length*8
 |[]=>rfl
 |x::r=>by rw[aa,dC,gi,cG r,od];omega
structure LM (P:Program) (tL tI ti tu tn tt:TypeId) (fs:Array Field):Prop where
 hL:P.underlying tL=some (.slice tI)
 hI:P.underlying tI=some (.struct fs)
 hz:P.cellsOf tI=8
 hf:fs.toList.map (fun f=>(f.offset,f.type))=[(0,ti),(1,ti),(2,tu),(3,tu),(4,tn),(5,tt),(6,tL),(7,tL)]
 h1:P.cellsOf ti=1∧P.cellsOf tu=1∧P.cellsOf tn=1∧P.cellsOf tt=1∧P.cellsOf tL=1
 ki:P.underlying ti=some (.int .i64)
 ku:P.underlying tu=some (.int .u32)
 kn:P.underlying tn=some (.int .i32)
 kt:P.underlying tt=some (.slice tu)
section
variable {H:Type} {enc:TypeId×Value→H} {P:Program} {w:World} {base:Nat} {spare:Nat→Bool} {held:Bool} {tL tI ti tu tn tt:TypeId} {fs:Array Field}
theorem Rs {i:Nat} {o t:Nat} (hf:(fs.toList.map fun f=>(f.offset,f.type))[i]? = some (o,t)) : ∃f,fs[i]? = some f∧f.offset=o∧f.type=t:=by
 rw[List.getElem?_map] at hf
 cases h:fs.toList[i]? with
 |none=>rw[h] at hf;cases hf
 |some f=>
  rw[h] at hf
  simp only[Option.map_some,Option.some.injEq,Prod.mk.injEq] at hf
  exact⟨f,by simpa using h,hf.1,hf.2⟩
theorem dR.cat {w:World} {x:PV} {l:List PV} {v:Value} {cs:List Value} (h:dR w [x] [v]) (k:dR w l cs):dR w (x::l) (v::cs):=h.append k
theorem zM (T:LM P tL tI ti tu tn tt fs) : ∀(fuel:Nat) (cs:List Value) (x:DataW H×List MemPlace),DataW.trod enc P w base spare held fuel tL cs=some x →
  ∃l:List Ins,(l.length≤maxLen∧zH l)∧dR w [.ps l.length 8 (aa l)] cs:=by
 intro fuel
 induction fuel using Nat.strongRecOn with
 |ind fuel ih=>
  intro cs x h
  obtain⟨xs,h0,h1,h2⟩:=mW (FO:=wT) (wf:=FP) T.hL (by rw[T.hz];omega) h fun n hn us y hy=>by
   obtain⟨m,rfl,hlen,hg⟩:=sX T.hI hy
   rw[T.hz] at hlen
   have get : ∀(i:Nat) (o t:Nat),[(0,ti),(1,ti),(2,tu),(3,tu),(4,tn),(5,tt),(6,tL),(7,tL)][i]? = some (o,t)→P.cellsOf t=1 → ∃y,DataW.trod enc P w base spare held m t ((us.drop o).take 1)=some y:=by
    intro i o t hi hc
    obtain⟨f,q1,q2,q3⟩:=Rs (fs:=fs) (i:=i) (by rw[T.hf];exact hi)
    obtain⟨y,hy⟩:=hg i f q1
    rw[q2,q3,hc] at hy
    exact⟨y,hy⟩
   obtain⟨c1,c2,c3,c4,c5⟩:=T.h1
   obtain⟨y0,e0⟩:=get 0 0 ti rfl c1
   obtain⟨y1,e1⟩:=get 1 1 ti rfl c1
   obtain⟨y2,e2⟩:=get 2 2 tu rfl c2
   obtain⟨y3,e3⟩:=get 3 3 tu rfl c2
   obtain⟨y4,e4⟩:=get 4 4 tn rfl c3
   obtain⟨y5,e5⟩:=get 5 5 tt rfl c4
   obtain⟨y6,e6⟩:=get 6 6 tL rfl c5
   obtain⟨y7,e7⟩:=get 7 7 tL rfl c5
   match us,hlen with
   |[u0,u1,u2,u3,u4,u5,u6,u7],_=>
    simp only[Tq,List.drop_succ_cons,List.take_succ_cons,List.take_zero] at e0 e1 e2 e3 e4 e5 e6 e7
    obtain⟨n0,w0,k0⟩:=fy T.ki e0
    obtain⟨n1,w1,k1⟩:=fy T.ki e1
    obtain⟨n2,w2,k2⟩:=fy T.ku e2
    obtain⟨n3,w3,k3⟩:=fy T.ku e3
    obtain⟨n4,w4,k4⟩:=fy T.kn e4
    obtain⟨n5,w5,Rt,k5⟩:=wR T.kt T.ku c2 e5
    obtain⟨n6,w6,k6⟩:=ih m (by omega) _ _ e6
    obtain⟨n7,w7,k7⟩:=ih m (by omega) _ _ e7
    exact⟨.mk n0 n1 n2 n3 n4 n5 n6 n7,⟨w0,w1,w2,w3,w4,⟨w5,Rt⟩,w6,w7⟩,k0.cat (k1.cat (k2.cat (k3.cat (k4.cat (k5.cat (k6.cat k7))))))⟩
  refine⟨xs,⟨h0,C6 h1⟩,?_⟩
  rw[T.hz,←xR] at h2
  exact h2
end
end Go.Am
end
section
namespace Go.Am
theorem xS (k:IntKind) (l:List Int) (n:Nat) (h:n<l.length):(cD k l).getD n .eR = .sc (.int k (l.getD n 0)):=by
 simp[cD,dd,da h]
theorem A2 (k:IntKind) (l:List Int) (n:Nat) (h:l.length≤n):(cD k l).getD n .eR = .eR:=by
 simp[cD,dd,ee h]
@[simp] theorem Kw (k:IntKind) (l:List Int) (n:Nat):bp ((cD k l).getD n .eR)=l.getD n 0:=by
  rcases gg n l.length with h | h
  · rw[xS k l n h];rfl
  · rw[A2 k l n h]
    simp[dd,ee h]
    rfl
@[simp] theorem Kx (k:IntKind) (l:List Int) (n:Nat):isInt k ((cD k l).getD n .eR)=decide (n<l.length):=by
  rcases gg n l.length with h | h
  · rw[xS k l n h];simp[isInt,h]
  · rw[A2 k l n h];simp[isInt];omega
theorem A3 {k:IntKind} : ∀{l m:List Int},cD k l=cD k m→l=m
 |[],[],_=>rfl
 |[],_::_,h=>by simp[cD] at h
 |_::_,[],h=>by simp[cD] at h
 |a::l,b::m,h=>by
  simp only[cD,pj,List.cons.injEq,PV.sc.injEq,Value.int.injEq,true_and] at h
  rw[h.1,A3 (l:=l) (m:=m) h.2]
mutual
theorem FQ : ∀{x y:Ins},wT x=wT y→x=y
 |.mk op r a b n tags l e,.mk op' r' a' b' n' tags' l' e',h=>by
  simp only[wT,List.cons.injEq,PV.sc.injEq,Value.int.injEq,PV.ps.injEq,true_and,and_true] at h
  obtain⟨rfl,rfl,rfl,rfl,rfl,⟨_,h5⟩,⟨_,h6⟩,_,h7⟩:=h
  rw[A3 h5,kJ h6,kJ h7]
theorem kJ : ∀{l m:List Ins},aa l=aa m→l=m
 |[],[],_=>rfl
 |[],.mk .. :: _,h=>by simp[aa,wT] at h
 |.mk .. :: _,[],h=>by simp[aa,wT] at h
 |x::l,y::m,h=>by
  simp only[aa] at h
  obtain⟨h1,h2⟩:=List.append_inj h (by rw[gi,gi])
  rw[FQ h1,kJ h2]
end
theorem qW : ∀{l:List Ins} {k:Nat} {x:Ins},l[k]? = some x → ∀c,c<8→(aa l).getD (k*8+c) .eR=(wT x).getD c .eR
 |[],_,_,h,_,_=>by simp at h
 |y::l,0,x,h,c,hc=>by
  simp only[List.getElem?_cons_zero,Option.some.injEq] at h;subst h
  rw[aa,Nat.zero_mul,rh,dd,dd,List.getElem?_append_left (by rw[gi];exact hc)]
 |y::l,k+1,x,h,c,hc=>by
  have ih:=qW (l:=l) (k:=k) (x:=x) (by simpa using h) c hc
  rw[dd] at ih
  rw[aa,dd,SK (by rw[gi];omega),gi,show(k+1)*8+c-8=k*8+c by omega]
  exact ih
theorem sr : ∀l m:List Ins,aa (l++m)=aa l++aa m
 |[],_=>rfl
 |x::l,m=>by rw[List.cons_append,aa,aa,sr l m,pr]
theorem nK : ∀{l:List Ins} {x:Ins},zH l→x∈l→FP x
 |_::_,_,h,.head _=>h.1
 |_::_,_,h,.tail _ hx=>nK h.2 hx
mutual
def lD:Ins→Nat
 |.mk _ _ _ _ _ tags l e=>1+tags.length+eT l+eT e
def eT:List Ins→Nat
 |[]=>0
 |x::r=>lD x+eT r
end
theorem su : ∀l:List Ins,l.length≤eT l
 |[]=>S3 _
 |.mk _ _ _ _ _ t l e::r=>by have:=su r;simp only[eT,lD,od];omega
theorem qc : ∀{l:List Ins} {x:Ins},x∈l→lD x≤eT l
 |y::l,x,h=>by
  simp only[eT]
  cases h with
  |head=>omega
  |tail _ h=>have:=qc h;omega
mutual
def fE:List Ins→Int→Int→Int
 |[],_,n=>n
 |x::r,most,n=>if n≤most then fE r most (vA x most n) else n
def vA:Ins→Int→Int→Int
 |.mk _ _ _ _ _ tags l e,most,n=>
  let n1:=n+1+min (tags.length:Int) most
  let n2:=if n1≤most then n1+fE l (most-n1) 0 else n1
  if n2≤most then n2+fE e (most-n2) 0 else n2
end
mutual
theorem vB : ∀(x:Ins) (most n:Int),0≤n→n≤most→n≤vA x most n∧vA x most n≤2*most+1
 |.mk _ _ _ _ _ tags l e,most,n,h0,h=>by
  simp only[vA]
  generalize hn1:n+1+min (tags.length:Int) most=n1
  have h1:n+1≤n1∧n1≤2*most+1:=by omega
  generalize hn2:(if n1≤most then n1+fE l (most-n1) 0 else n1)=n2
  have h2:n1≤n2∧n2≤2*most+1:=by
   rw[←hn2]
   split
   · have:=ff l (most-n1) 0 (by omega) (by omega) (by omega);omega
   · omega
  split
  · have:=ff e (most-n2) 0 (by omega) (by omega) (by omega);omega
  · omega
theorem ff : ∀(l:List Ins) (most n:Int),0≤most→0≤n→n≤2*most+1→n≤fE l most n∧fE l most n≤2*most+1
 |[],most,n,_,_,h=>by simp only[fE];omega
 |x::r,most,n,hm,h0,h=>by
  simp only[fE]
  split
  · have h1:=vB x most n h0 (by omega)
    have h2:=ff r most (vA x most n) hm (by omega) (by omega)
    omega
  · omega
end
mutual
theorem FR : ∀(x:Ins) (most n:Int),0≤n→n≤most→vA x most n≤most→vA x most n=n+lD x
 |.mk _ _ _ _ _ tags l e,most,n,h0,h=>by
  simp only[vA,lD]
  generalize hn1:n+1+min (tags.length:Int) most=n1
  generalize hn2:(if n1≤most then n1+fE l (most-n1) 0 else n1)=n2
  intro h3
  have hle:n2≤most:=by
   split at h3
   · rename_i q;exact q
   · exact h3
  rw[if_pos hle] at h3 ⊢
  have LC:=ff e (most-n2) 0 (by omega) (by omega) (by omega)
  have O4:n1≤most:=by
   rw[←hn2] at hle
   split at hle
   · rename_i q;exact q
   · exact hle
  rw[if_pos O4] at hn2
  have J3:=ff l (most-n1) 0 (by omega) (by omega) (by omega)
  have e1:=qd l (most-n1) 0 (by omega) (by omega) (by omega)
  have e2:=qd e (most-n2) 0 (by omega) (by omega) (by omega)
  have:min (tags.length:Int) most=tags.length:=by omega
  push_cast
  omega
theorem qd : ∀(l:List Ins) (most n:Int),0≤most→0≤n→fE l most n≤most→fE l most n=n+eT l
 |[],most,n,_,_,h=>by simp[fE,eT]
 |x::r,most,n,hm,h0,h=>by
  simp only[fE,eT] at h ⊢
  split at h
  · rename_i hn
    rw[if_pos hn]
    have hr:=vB x most n h0 hn
    have LC:=ff r most (vA x most n) hm (by omega) (by omega)
    have e1:=FR x most n h0 hn (by omega)
    have e2:=qd r most (vA x most n) hm (by omega) h
    push_cast
    omega
  · omega
end
end Go.Am
end
section
namespace Go.Proofs.YtddfgnmjecogdaaDoor.N
open Go Go.Am
def cq (l:List PV) (n:Nat):PV:=l.getD n PV.eR
def eu (i:Nat):Nat:=(i:Int).toNat
def Jx:aP:= .out (.ret (sB true) [])
def ct:AV:= .os none 0 0 []
theorem cJ:(∀l n,cq l n=l.getD n PV.eR)∧(∀i,eu i=(i:Int).toNat)∧Jx = .out (.ret (sB true) [])∧ct = .os none 0 0 []:=⟨fun _ _=>rfl,fun _=>rfl,rfl,rfl⟩
def FT:List Int:=[0,0,0,0,0,0,0,0,0,1,1,1,1,1,0,0,0,0,0,0,0,0,0,0,0,0,0,0,0,0,0,0,1]++List.replicate 223 0
def tabs:List (Nat×List Value):=[(0,FT.map (.int .u8))]
def keeps:List (Nat×Nat×List Nat):=[(3,8,[0,5,8]),(3,4,[0,1,5,7]),(3,0,[0,1,5,6]),(11,2,[0,1,5]),(13,0,[0,1,5,6]),(15,0,[0,3,4]),(20,0,[0,3,4]),(21,0,[4,6,7,8,9,10]),(22,2,[4,6,7,8,9,10]),(23,4,[0,2,3]),(23,0,[0,2]),(27,0,[0,3,4]),(28,0,[0,1,2,8]),(30,2,[0,1,5]),(32,34,[2,5,7,14,15,16,101,102,103]),(32,0,[2,5,14,15,16]),(34,0,[0,3,4]),(36,0,[0,3]),(39,0,[0,5,10,11,12]),(45,30,[0,1,5,6]),(48,10,[0,6,7,11,12]),(54,0,[0,3]),(55,0,[0,3,4]),(56,0,[0,3,4]),(57,0,[0,3]),(58,10,[1,3,6]),(59,0,[0,1,5]),(63,4,[0,1,24,25,26]),(63,0,[0,1,10,11,12]),(72,4,[0,3,4,25,26,27]),(72,0,[0,3]),(74,0,[0,1,5]),(77,0,[3,4]),(78,2,[0,1,2,6,9,21]),(80,2,[0,6,7,8]),(81,0,[0,3,4]),(82,16,[0,9,10,12]),(82,10,[0,9,10,11,12]),(82,6,[0,9,10,12]),(82,0,[0,3,4,5,6]),(85,6,[6,7,8,9,11,12,13]),(86,12,[0,9,47,48,49]),(86,0,[0,1,5,6,14]),(89,10,[0,1,7,8]),(89,2,[0,1,19,20]),(90,10,[0,1,7,8]),(90,2,[0,1,15,16])]
def Ru (f d:Nat):Bool:=(a6 f 72&&a6 d 9)
def env:Env where
 cC:=sq tabs
 wr:=Ru
 keep:=Ch keeps
theorem dy:eO ae:=Cf (by kernel_rfl)
end Go.Proofs.YtddfgnmjecogdaaDoor.N
end
section
namespace Go.Am
mutual
def N5 (p:Ins→Bool):Ins→Bool
 |.mk op r a b n tags l e=>p (.mk op r a b n tags l e)&&(A4 p l&&A4 p e)
def A4 (p:Ins→Bool):List Ins→Bool
 |[]=>true
 |x::r=>N5 p x&&A4 p r
end
mutual
def sY:Ins→Nat
 |.mk _ _ _ _ _ _ l e=>1+cL l+cL e
def cL:List Ins→Nat
 |[]=>0
 |x::r=>sY x+cL r
end
mutual
def A5:Nat→Ins→Nat
 |d,.mk _ _ _ _ _ _ l e=>max d (max (iC (d+1) l) (iC (d+1) e))
def iC:Nat→List Ins→Nat
 |_,[]=>0
 |d,x::r=>max (A5 d x) (iC d r)
end
mutual
def FU:Ins→Nat
 |.mk _ _ _ _ _ tags l e=>max tags.length (max (lX l) (lX e))
def lX:List Ins→Nat
 |[]=>0
 |x::r=>max (FU x) (lX r)
end
theorem sv : ∀l:List Ins,l.length≤cL l
 |[]=>S3 _
 |.mk _ _ _ _ _ t l e::r=>by have:=sv r;simp only[cL,sY,od];omega
mutual
theorem FV : ∀x:Ins,sY x≤lD x
 |.mk _ _ _ _ _ t l e=>by have:=qe l;have:=qe e;simp only[sY,lD];omega
theorem qe : ∀l:List Ins,cL l≤eT l
 |[]=>S3 _
 |x::r=>by have:=FV x;have:=qe r;simp only[cL,eT];omega
end
mutual
theorem FW : ∀x:Ins,FU x≤lD x
 |.mk _ _ _ _ _ t l e=>by have:=vC l;have:=vC e;simp only[FU,lD];omega
theorem vC : ∀l:List Ins,lX l≤eT l
 |[]=>S3 _
 |x::r=>by have:=FW x;have:=vC r;simp only[lX,eT];omega
end
mutual
theorem FX : ∀(d:Nat) (x:Ins),A5 d x≤d+sY x
 |d,.mk _ _ _ _ _ t l e=>by have:=vD (d+1) l;have:=vD (d+1) e;simp only[A5,sY];omega
theorem vD : ∀(d:Nat) (l:List Ins),iC d l≤d+cL l
 |_,[]=>S3 _
 |d,x::r=>by have:=FX d x;have:=vD d r;simp only[iC,cL];omega
end
mutual
theorem Ck : ∀(d:Nat) (x:Ins),A5 (d+1) x=A5 d x+1
 |d,.mk _ _ _ _ _ t l e=>by
  have h1:=oF (d+1) l
  have h2:=oF (d+1) e
  simp only[A5]
  cases l with
  |nil=>cases e with
   |nil=>simp[iC]
   |cons y e=>rw[h2 (by simp)];simp only[iC];omega
  |cons x l=>cases e with
   |nil=>rw[h1 (by simp)];simp only[iC];omega
   |cons y e=>rw[h1 (by simp),h2 (by simp)];omega
theorem oF : ∀(d:Nat) (l:List Ins),l≠[]→iC (d+1) l=iC d l+1
 |_,[],h=>absurd rfl h
 |d,x::r,_=>by
  have h1:=Ck d x
  cases r with
  |nil=>simp only[iC,h1];omega
  |cons y r=>rw[iC,oF d (y::r) (by simp),h1,iC.eq_2 d x];omega
end
abbrev aL (l:List Ins):AV:= .p (.ps l.length 8 (aa l))
def A6 (op r a b nn:Int) (tg:List Int) (ll le:List Ins):AV:= .agg [sI .i64 op,sI .i64 r,sI .u32 a,sI .u32 b,sI .i32 nn,.p (.ps tg.length 1 (cD .u32 tg)),aL ll,aL le]
def Ky:Ins→AV
 |.mk op r a b nn tg ll le=>A6 op r a b nn tg ll le
theorem FY {l m:List Ins} (h:aL l=aL m):l=m:=by
 simp only[AV.p.injEq,PV.ps.injEq] at h
 exact kJ h.2.2
theorem A7 {l:List Ins} {k:Nat} {op rs a b nn:Int} {tags:List Int} {ll le:List Ins} (h:l[k]? = some (.mk op rs a b nn tags ll le)) :
  (aa l).getD (k*8) .eR = .sc (.int .i64 op)∧(aa l).getD (k*8+1) .eR = .sc (.int .i64 rs)∧(aa l).getD (k*8+2) .eR = .sc (.int .u32 a)∧(aa l).getD (k*8+3) .eR = .sc (.int .u32 b) ∧
    (aa l).getD (k*8+4) .eR = .sc (.int .i32 nn)∧(aa l).getD (k*8+5) .eR = .ps tags.length 1 (cD .u32 tags)∧(aa l).getD (k*8+6) .eR = .ps ll.length 8 (aa ll)∧(aa l).getD (k*8+7) .eR = .ps le.length 8 (aa le):=
 have hc:=qW h
 ⟨hc 0 (by omega),hc 1 (by omega),hc 2 (by omega),hc 3 (by omega),hc 4 (by omega),hc 5 (by omega),hc 6 (by omega),hc 7 (by omega)⟩
abbrev iK:=List (List Ins×Nat)
def sZ (st:iK):List PV:=st.flatMap fun e=>[.ps e.1.length 8 (aa e.1),.sc (.int .i64 e.2)]
def FZ (p:Ins→Bool) (st:iK):Bool:=st.all fun e=>A4 p e.1
def qg (st:iK):Nat:=(st.map fun e=>cL e.1).sum
def vE (st:iK):Nat:=(st.map fun e=>iC e.2 e.1).foldr max 0
def vG (st:iK):Nat:=(st.map fun e=>lX e.1).foldr max 0
def wS (st:iK):Nat:=(st.map fun e=>2*cL e.1+1).sum
theorem iD : ∀st:iK,(sZ st).length=st.length*2
 |[]=>rfl
 |e::st=>by rw[sZ,List.flatMap_cons,dC,od];have:=iD st;rw[sZ] at this;rw[this];simp;omega
theorem mY (s t:iK):sZ (s++t)=sZ s++sZ t:=by simp[sZ]
theorem xT (s:List Nat) (b:Nat):s.foldr max b=max (s.foldr max 0) b:=by
 induction s with
 |nil=>simp
 |cons a s ih=>simp only[List.foldr_cons,ih];omega
theorem oG (p:Ins→Bool) (s t:iK):FZ p (s++t)=(FZ p s&&FZ p t):=by simp[FZ]
theorem jV (s t:iK):qg (s++t)=qg s+qg t:=by simp[qg]
theorem qX (s t:iK):wS (s++t)=wS s+wS t:=by simp[wS]
theorem sw (s t:iK):vE (s++t)=max (vE s) (vE t):=by simp only[vE,px,Tv];rw[xT]
theorem sA (s t:iK):vG (s++t)=max (vG s) (vG t):=by simp only[vG,px,Tv];rw[xT]
@[simp] theorem tN (p:Ins→Bool) (l:List Ins) (d:Nat):FZ p [(l,d)]=A4 p l:=by simp[FZ]
@[simp] theorem vH (l:List Ins) (d:Nat):qg [(l,d)]=cL l:=by simp[qg]
@[simp] theorem Kz (l:List Ins) (d:Nat):wS [(l,d)]=2*cL l+1:=by simp[wS]
@[simp] theorem A8 (l:List Ins) (d:Nat):vE [(l,d)]=iC d l:=by simp[vE]
@[simp] theorem A9 (l:List Ins) (d:Nat):vG [(l,d)]=lX l:=by simp[vG]
theorem qY : ∀st:iK,st.length≤wS st
 |[]=>S3 _
 |e::st=>by have:=qY st;simp only[wS,pj,List.sum_cons,od] at this ⊢;omega
def fL (st:iK) (cells:List AV):Prop:=cells.take (st.length*2)=(sZ st).map .p
theorem fL.len {st:iK} {cells:List AV} (h:fL st cells):st.length*2≤cells.length:=by
 have:=congrArg List.length h
 rw[List.length_take,oR,iD] at this
 omega
theorem fL.top {st:iK} {x:List Ins} {d:Nat} {cells:List AV} (h:fL (st++[(x,d)]) cells):cells.getD (st.length*2) .af = .p (.ps x.length 8 (aa x))∧cells.getD (st.length*2+1) .af = .p (.sc (.int .i64 d)):=by
 have hl:=h.len
 simp only[dC,od,Tr] at hl
 have get : ∀j,j<2→cells.getD (st.length*2+j) .af=((sZ (st++[(x,d)])).map AV.p).getD (st.length*2+j) .af:=by
  intro j hj
  rw[←show cells.take ((st++[(x,d)]).length*2)=_ from h,dd,dd,List.getElem?_take_of_lt (by simp only[dC,od,Tr];omega)]
 have g0:=get 0 (by omega)
 have g1:=get 1 (by omega)
 rw[mY,px,dd (l:=Tt AV.p (sZ st)++_),SK (by simp[iD])] at g0 g1
 simp only[oR,iD] at g0 g1
 rw[show st.length*2+0-st.length*2=0 by omega] at g0
 rw[show st.length*2+1-st.length*2=1 by omega] at g1
 exact⟨by simpa[sZ] using g0,by simpa[sZ] using g1⟩
theorem fL.pop {st:iK} {e:List Ins×Nat} {cells:List AV} (h:fL (st++[e]) cells):fL st cells:=by
 unfold fL at h ⊢
 have:=congrArg (Tu (st.length*2)) h
 rw[List.take_take,mY,px,List.take_left' (by simp[iD])] at this
 rw[←this];congr 1
 simp only[dC,od,Tr];omega
theorem fL.keep {st:iK} {cells:List AV} (h:fL st cells):fL st (cells.map dZ):=by
 unfold fL at h ⊢
 rw[←List.map_take,h,List.map_map];rfl
theorem fL.push {st:iK} {cells:List AV} (h:fL st cells) (x:List Ins) (d:Nat):fL (st++[(x,d)]) (cells.take (st.length*2)++[.p (.ps x.length 8 (aa x)),.p (.sc (.int .i64 d))]):=by
 have hl:=h.len
 unfold fL at h ⊢
 rw[List.take_of_length_le (by simp;omega),h,mY,px];rfl
end Go.Am
end
section
namespace Go.Proofs.YtddfgnmjecogdaaDoor.N
open Go Go.Am
def eK (_:FuncId) (_:List AV) (_:Mem):Option (AV×Mem):=none
abbrev sP (n:Int):PV:= .sc (.int .i64 n)
def recC (l:List Ins) (st:LoopState) (pd:Option Code):aF:= .ob (jy ae 31 0 st pd) [aL l,.af,.mp 2 0,.p (.sc (.bool false)),.mp 3 0,.mp 4 0,.mp 5 0,.af,.af,aL l,.fn (.func 72) [] [.mp 1 0],.af,.af,.af,.af,.af,.af,.af,.af,.af,.af,.af,.af,.af,.af,.af,.af,.af,.af,.af,.af,.af,.af,.af,.af,.af,.af]
def D3 (l:List Ins) (tags n most:Int) (cells:List AV):Mem:=[recC l .ready none,.pc [.ps l.length 8 (aa l)],.pc [sP 0],.pc [sP tags],.pc [sP n],.pc [sP most],.ob (.gr 109 true) cells]
def O5 (_l:List Ins) (_tags _n _most:Int) (_cells:List AV) (k:Nat) (x:List Ins) (d:Int):FuncId→Nat→Nat→Option (AV→AV):=eP [(72,3,3,sI .i64 k),(72,3,5,.agg [aL x,sI .i64 d]),(72,4,3,sI .i64 k)]
def O6 (_l:List Ins) (_tags n _most:Int) (_cells:List AV) (_k:Nat) (_xs:List Ins) (d:Int) (i:Nat) (op r a b nn:Int) (tg:List Int) (ll le:List Ins) (_ok:Bool):FuncId→Nat→Nat→Option (AV→AV):=eP [(72,7,1,A6 op r a b nn tg ll le),(72,13,0,sI .i64 ((i+1:Nat):Int)),(72,10,5,sI .i64 (d+1)),(72,12,5,sI .i64 (d+1)),(31,8,1,sI .i64 (n+1))]
def O7 (_l:List Ins) (_tags _n _most:Int) (_cells:List AV) (_k:Nat) (_xs:List Ins) (_d:Int) (_i:Nat) (_op _r _a _b _nn:Int) (_tg:List Int) (_ll _le:List Ins) (ok:Bool) (f:FuncId) (_:List AV) (m:Mem):Option (AV×Mem):=cond (a6 f 50) (some (sB ok,m)) none
def KA (l:List Ins) (tags n most:Int) (cells:List AV) (k:Nat) (x:List Ins) (d:Int):hJ:=qa eK cK [(72,0),(72,2)] [(72,0,1)] [(72,3,4),(72,3,5),(72,4,4)] (O5 l tags n most cells k x d)
def MM:Sc:= .fin
def C7 (l:List Ins) (tags n most:Int) (cells:List AV) (k:Nat) (x:List Ins) (d:Int):aP:=
 (.test (decide ((↑(k+1):Int)>0))
 (.need (sI .i64 (tl.wrap ((↑(k+1):Int)-1))=sI tl (↑k:Int))
 (.must (fG (↑k:Int) (k+1)&&true&&true)
 (.must ((0+(eu k)*2+2).ble cells.length&&((aE (some (Tx (TypeDesc.slice 62) "[]api.Instr" 1 24 true 8 8 (some (Value.slice none 0 0)) false #[]).desc) (cells.getD (0+(eu k)*2) .af)).snd&&((aE (some (Tx (TypeDesc.int tl) "int" 1 8 false 8 8 (some (.int .i64 0)) true #[]).desc) (cells.getD (0+(eu k)*2+1) .af)).snd&&true))&&true)
 (.need (AV.agg [(aE (Tz (Tx (TypeDesc.slice 62) "[]api.Instr" 1 24 true 8 8 (Tz (Value.slice Ty 0 0)) false #[]).desc) (cells.getD (0+(eu k)*2) AV.af)).fst,(aE (Tz (Tx (TypeDesc.int tl) "int" 1 8 false 8 8 (Tz (Value.int tl 0)) true #[]).desc) (cells.getD (0+(eu k)*2+1) AV.af)).fst]=AV.agg [aL x,sI tl d])
 (.need (sI .i64 (tl.wrap ((↑(k+1):Int)-1))=sI tl (↑k:Int))
 (.must ((eu k).ble (k+1)&&true&&true&&true)
 (.at (aj ae env 72 2 [.vy 0,.ms 6 0 (eu k-0) 2 none,.mp 7 0,.p (.ps x.length 8 (aa x)),sI .i64 (↑x.length:Int),sI .i64 0] ([.ob (jy ae 31 0 TA none) [.p (.ps l.length 8 (aa l)),.af,.mp 2 0,sB false,.mp 3 0,.mp 4 0,.mp 5 0,.af,.af,.p (.ps l.length 8 (aa l)),.fn (TB 72) [] [.mp 1 0],.af,.af,.af,.af,.af,.af,.af,.af,.af,.af,.af,.af,.af,.af,.af,.af,.af,.af,.af,.af,.af,.af,.af,.af,.af,.af],.pc [.ps l.length 8 (aa l)],.pc [sP 0],.pc [sP tags],.pc [sP n],.pc [sP most],.ob (fF.gr 109 true) (Tt dZ cells),.ac [.p (.ps x.length 8 (aa x)),sI .i64 d]]) 6 64))))))))
 (.out (.ret (.bn []) [.ob (jy ae 31 0 TA none) [.p (.ps l.length 8 (aa l)),.af,.mp 2 0,sB false,.mp 3 0,.mp 4 0,.mp 5 0,.af,.af,.p (.ps l.length 8 (aa l)),.fn (TB 72) [] [.mp 1 0],.af,.af,.af,.af,.af,.af,.af,.af,.af,.af,.af,.af,.af,.af,.af,.af,.af,.af,.af,.af,.af,.af,.af,.af,.af,.af],.pc [.ps l.length 8 (aa l)],.pc [sP 0],.pc [sP tags],.pc [sP n],.pc [sP most]])))
theorem F0 (l:List Ins) (tags n most:Int) (cells:List AV) (k:Nat) (x:List Ins) (d:Int):grow ae env (KA l tags n most cells k x d) 1000000 true (aj ae env 72 0 ([AV.vy 0,AV.ms 6 0 (k+1) 2 Ty]) (D3 l tags n most cells) 6 64) MM atEnd=C7 l tags n most cells k x d:=by kernel_rfl
def KB:hJ:=gk eK cK [(72,0),(72,2)] [] []
def MN:Sc:= .fin
def H7 (l:List Ins) (tags n most:Int) (_cells:List AV):aP:=
 (.out (.ret (.bn []) [.ob (jy ae 31 0 TA none) [.p (.ps l.length 8 (aa l)),.af,.mp 2 0,sB false,.mp 3 0,.mp 4 0,.mp 5 0,.af,.af,.p (.ps l.length 8 (aa l)),.fn (TB 72) [] [.mp 1 0],.af,.af,.af,.af,.af,.af,.af,.af,.af,.af,.af,.af,.af,.af,.af,.af,.af,.af,.af,.af,.af,.af,.af,.af,.af,.af],.pc [.ps l.length 8 (aa l)],.pc [sP 0],.pc [sP tags],.pc [sP n],.pc [sP most]]))
theorem F1 (l:List Ins) (tags n most:Int) (cells:List AV):grow ae env KB 1000000 true (aj ae env 72 0 ([AV.vy 0,AV.ms 6 0 0 2 Ty]) ([recC l TA Ty,aF.pc [PV.ps l.length 8 (aa l)],aF.pc [sP 0],aF.pc [sP tags],aF.pc [sP n],aF.pc [sP most],aF.ob (fF.gr 109 true) cells]) 6 64) MN atEnd=H7 l tags n most cells:=by kernel_rfl
def KC (l:List Ins) (tags n most:Int) (cells:List AV) (k:Nat) (xs:List Ins) (d:Int) (i:Nat) (op r a b nn:Int) (tg:List Int) (ll:List Ins) (le:List Ins) (ok:Bool):hJ:=qa (O7 l tags n most cells k xs d i op r a b nn tg ll le ok) cK [(72,0),(72,2)] [(72,0,3),(31,0,0),(72,0,5),(72,0,6)] [(72,7,0),(72,7,1),(72,10,8),(72,12,8)] (O6 l tags n most cells k xs d i op r a b nn tg ll le ok)
def MO:Sc:= .fin
def lE (l:List Ins) (tags n most:Int) (cells:List AV) (k:Nat) (xs:List Ins) (d:Int) (i:Nat) (op r a b nn:Int) (tg:List Int) (ll:List Ins) (le:List Ins) (ok:Bool):aP:=
 (.test (decide ((↑i:Int)<(↑xs.length:Int)))
 (.must (fG (↑i:Int) xs.length&&true&&true)
 (.must (isInt tl (cq (aa xs) (eu i*8))&&(isInt tl (cq (aa xs) (eu i*8+1))&&(isInt Tp (cq (aa xs) (eu i*8+1+1))&&(isInt Tp (cq (aa xs) (eu i*8+1+1+1))&&(isInt IntKind.i32 (cq (aa xs) (eu i*8+1+1+1+1))&&(dA (cq (aa xs) (eu i*8+1+1+1+1+1))&&(dA (cq (aa xs) (eu i*8+1+1+1+1+1+1))&&(dA (cq (aa xs) (eu i*8+1+1+1+1+1+1+1))&&true)))))))&&true)
 (.need (AV.agg [sI .i64 (bp (cq (aa xs) (eu i*8))),sI .i64 (bp (cq (aa xs) (eu i*8+1))),sI .u32 (bp (cq (aa xs) (eu i*8+1+1))),sI .u32 (bp (cq (aa xs) (eu i*8+1+1+1))),sI .i32 (bp (cq (aa xs) (eu i*8+1+1+1+1))),AV.p (PV.ps (aJ (cq (aa xs) (eu i*8+1+1+1+1+1))) (cO (cq (aa xs) (eu i*8+1+1+1+1+1))) (aI (cq (aa xs) (eu i*8+1+1+1+1+1)))),AV.p (PV.ps (aJ (cq (aa xs) (eu i*8+1+1+1+1+1+1))) (cO (cq (aa xs) (eu i*8+1+1+1+1+1+1))) (aI (cq (aa xs) (eu i*8+1+1+1+1+1+1)))),AV.p (PV.ps (aJ (cq (aa xs) (eu i*8+1+1+1+1+1+1+1))) (cO (cq (aa xs) (eu i*8+1+1+1+1+1+1+1))) (aI (cq (aa xs) (eu i*8+1+1+1+1+1+1+1))))]=A6 op r a b nn tg ll le)
 (.call ⟨50,[.agg [sI .i64 op,sI .i64 r,sI .u32 a,sI .u32 b,sI .i32 nn,.p (.ps tg.length 1 (cD Tp tg)),.p (.ps ll.length 8 (aa ll)),.p (.ps le.length 8 (aa le))]],[],.p (.sc (.bool ok)),[]⟩
 (.test (!ok)
 (.out (.ret (.bn []) [.ob (jy ae 31 0 (eX (some Code.ret)) (some Code.ret)) [.p (.ps l.length 8 (aa l)),.af,.mp 2 0,sB false,.mp 3 0,.mp 4 0,.mp 5 0,.af,.af,.p (.ps l.length 8 (aa l)),.fn (TB 72) [] [.mp 1 0],.af,.af,.af,.af,.af,.af,.af,.af,.af,.af,.af,.af,.af,.af,.af,.af,.af,.af,.af,.af,.af,.af,.af,.af,.af,.af],.pc [.ps l.length 8 (aa l)],.pc [sP 2],.pc [sP tags],.pc [sP n],.pc [sP most]]))
 (.need (sI .i64 (tl.wrap (n+1))=sI tl (n+1))
 (.test (decide ((↑ll.length:Int)>0))
 (.need (sI .i64 (tl.wrap (d+1))=sI tl (d+1))
 (.must (((k+1)*32).ble cE&&(k+1).ble cE&&((k*2).ble cells.length&&true)&&true)
 (.test (decide ((↑le.length:Int)>0))
 (.need (sI .i64 (tl.wrap (d+1))=sI tl (d+1))
 (.must (((k+1+1)*32).ble cE&&(k+1+1).ble cE&&(((k+1)*2).ble (Tu (k*2) cells++[.p (.ps ll.length 8 (aa ll)),sI .i64 (d+1)]).length&&true)&&true)
 (.need (sI .i64 (tl.wrap ((↑i:Int)+1))=sI tl (↑(i+1):Int))
 (.at (aj ae env 72 2 [.vy 0,.ms 6 0 (k+1+1) 2 none,.mp 7 0,.p (.ps xs.length 8 (aa xs)),sI .i64 (↑xs.length:Int),sI .i64 (↑(i+1):Int)] ([.ob (jy ae 31 0 (eX none) none) [.p (.ps l.length 8 (aa l)),.af,.mp 2 0,sB false,.mp 3 0,.mp 4 0,.mp 5 0,.af,.af,.p (.ps l.length 8 (aa l)),.fn (TB 72) [] [.mp 1 0],.af,.af,.af,.af,.af,.af,.af,.af,.af,.af,.af,.af,.af,.af,.af,.af,.af,.af,.af,.af,.af,.af,.af,.af,.af,.af],.pc [.ps l.length 8 (aa l)],.pc [sP 0],.pc [sP (bif false then TC tags (↑tg.length:Int) else TD tags (↑tg.length:Int))],.pc [sP (n+1)],.pc [sP (bif false then TC most d else TD most d)],.ob (fF.gr 109 true) (Tt dZ (Tu ((k+1)*2) (Tu (k*2) cells++[.p (.ps ll.length 8 (aa ll)),sI .i64 (d+1)])++[.p (.ps le.length 8 (aa le)),sI .i64 (d+1)])),.ac [.p (.ps xs.length 8 (aa xs)),sI .i64 d]]) 6 64)))))
 (.need (sI .i64 (tl.wrap ((↑i:Int)+1))=sI tl (↑(i+1):Int))
 (.at (aj ae env 72 2 [.vy 0,.ms 6 0 (k+1) 2 none,.mp 7 0,.p (.ps xs.length 8 (aa xs)),sI .i64 (↑xs.length:Int),sI .i64 (↑(i+1):Int)] ([.ob (jy ae 31 0 (eX none) none) [.p (.ps l.length 8 (aa l)),.af,.mp 2 0,sB false,.mp 3 0,.mp 4 0,.mp 5 0,.af,.af,.p (.ps l.length 8 (aa l)),.fn (TB 72) [] [.mp 1 0],.af,.af,.af,.af,.af,.af,.af,.af,.af,.af,.af,.af,.af,.af,.af,.af,.af,.af,.af,.af,.af,.af,.af,.af,.af,.af],.pc [.ps l.length 8 (aa l)],.pc [sP 0],.pc [sP (bif false then TC tags (↑tg.length:Int) else TD tags (↑tg.length:Int))],.pc [sP (n+1)],.pc [sP (bif false then TC most d else TD most d)],.ob (fF.gr 109 true) (Tt dZ (Tu (k*2) cells++[.p (.ps ll.length 8 (aa ll)),sI .i64 (d+1)])),.ac [.p (.ps xs.length 8 (aa xs)),sI .i64 d]]) 6 64))))))
 (.test (decide ((↑le.length:Int)>0))
 (.need (sI .i64 (tl.wrap (d+1))=sI tl (d+1))
 (.must (((k+1)*32).ble cE&&(k+1).ble cE&&((k*2).ble cells.length&&true)&&true)
 (.need (sI .i64 (tl.wrap ((↑i:Int)+1))=sI tl (↑(i+1):Int))
 (.at (aj ae env 72 2 [.vy 0,.ms 6 0 (k+1) 2 none,.mp 7 0,.p (.ps xs.length 8 (aa xs)),sI .i64 (↑xs.length:Int),sI .i64 (↑(i+1):Int)] ([.ob (jy ae 31 0 (eX none) none) [.p (.ps l.length 8 (aa l)),.af,.mp 2 0,sB false,.mp 3 0,.mp 4 0,.mp 5 0,.af,.af,.p (.ps l.length 8 (aa l)),.fn (TB 72) [] [.mp 1 0],.af,.af,.af,.af,.af,.af,.af,.af,.af,.af,.af,.af,.af,.af,.af,.af,.af,.af,.af,.af,.af,.af,.af,.af,.af,.af],.pc [.ps l.length 8 (aa l)],.pc [sP 0],.pc [sP (bif false then TC tags (↑tg.length:Int) else TD tags (↑tg.length:Int))],.pc [sP (n+1)],.pc [sP (bif false then TC most d else TD most d)],.ob (fF.gr 109 true) (Tt dZ (Tu (k*2) cells++[.p (.ps le.length 8 (aa le)),sI .i64 (d+1)])),.ac [.p (.ps xs.length 8 (aa xs)),sI .i64 d]]) 6 64)))))
 (.need (sI .i64 (tl.wrap ((↑i:Int)+1))=sI tl (↑(i+1):Int))
 (.at (aj ae env 72 2 [.vy 0,.ms 6 0 k 2 none,.mp 7 0,.p (.ps xs.length 8 (aa xs)),sI .i64 (↑xs.length:Int),sI .i64 (↑(i+1):Int)] ([.ob (jy ae 31 0 (eX none) none) [.p (.ps l.length 8 (aa l)),.af,.mp 2 0,sB false,.mp 3 0,.mp 4 0,.mp 5 0,.af,.af,.p (.ps l.length 8 (aa l)),.fn (TB 72) [] [.mp 1 0],.af,.af,.af,.af,.af,.af,.af,.af,.af,.af,.af,.af,.af,.af,.af,.af,.af,.af,.af,.af,.af,.af,.af,.af,.af,.af],.pc [.ps l.length 8 (aa l)],.pc [sP 0],.pc [sP (bif false then TC tags (↑tg.length:Int) else TD tags (↑tg.length:Int))],.pc [sP (n+1)],.pc [sP (bif false then TC most d else TD most d)],.ob (fF.gr 109 true) (Tt dZ cells),.ac [.p (.ps xs.length 8 (aa xs)),sI .i64 d]]) 6 64)))))))))))
 (.at (aj ae env 72 0 [.vy 0,.ms 6 0 k 2 none] ([.ob (jy ae 31 0 TA none) [.p (.ps l.length 8 (aa l)),.af,.mp 2 0,sB false,.mp 3 0,.mp 4 0,.mp 5 0,.af,.af,.p (.ps l.length 8 (aa l)),.fn (TB 72) [] [.mp 1 0],.af,.af,.af,.af,.af,.af,.af,.af,.af,.af,.af,.af,.af,.af,.af,.af,.af,.af,.af,.af,.af,.af,.af,.af,.af,.af],.pc [.ps l.length 8 (aa l)],.pc [sP 0],.pc [sP tags],.pc [sP n],.pc [sP most],.ob (fF.gr 109 true) (Tt dZ cells)]) 6 64)))
theorem vI (l:List Ins) (tags n most:Int) (cells:List AV) (k:Nat) (xs:List Ins) (d:Int) (i:Nat) (op r a b nn:Int) (tg:List Int) (ll:List Ins) (le:List Ins) (ok:Bool):grow ae env (KC l tags n most cells k xs d i op r a b nn tg ll le ok) 1000000 true (aj ae env 72 2 ([AV.vy 0,AV.ms 6 0 k 2 Ty,AV.mp 7 0,aL xs,sI tl (↑xs.length:Int),sI tl (↑i:Int)]) (D3 l tags n most cells++[aF.ac [aL xs,sI tl d]]) 6 64) MO atEnd=lE l tags n most cells k xs d i op r a b nn tg ll le ok:=by kernel_rfl
def O8 (l:List Ins) (tags n most:Int):Out:= .ret (.bn []) [recC l .ready none,.pc [.ps l.length 8 (aa l)],.pc [sP 0],.pc [sP tags],.pc [sP n],.pc [sP most]]
def MP (l:List Ins) (tags n most:Int):Out:= .ret (.bn []) [recC l .done (some .ret),.pc [.ps l.length 8 (aa l)],.pc [sP 2],.pc [sP tags],.pc [sP n],.pc [sP most]]
def oH:Nat:=1000000000000
def xU (p:Ins→Bool) (l:List Ins) (st:iK) (tags n most:Nat) (o:Out):Prop:=
 (FZ p st=true∧o=O8 l (max tags (vG st):Nat) (n+qg st:Nat) (max most (vE st):Nat))∨(FZ p st=false ∧ ∃t k m,o=MP l t k m)
section
variable (p:Ins→Bool) (hp : ∀x:Ins,aO ae env 50 [Ky x] [] (sB (p x)) []) (l:List Ins)
include hp in
theorem D4 (N:Nat) (ih : ∀(st:iK) (cells:List AV) (tags n most:Nat),wS st<N→fL st cells→n+qg st≤oH→wS st≤oH→(∀e∈st,e.2+cL e.1≤oH) →
   ∃o,dN ae env (aj ae env 72 0 [.vy 0,.ms 6 0 st.length 2 none] (D3 l tags n most cells) 6 64) o∧xU p l st tags n most o) (xs:List Ins) (hxs:xs.length≤oH) (d:Nat) :
  ∀(r i:Nat) (st:iK) (cells:List AV) (tags n most:Nat),i+r=xs.length→wS st+2*cL (xs.drop i)<N→fL st cells→n+qg st+cL (xs.drop i)≤oH→wS st+2*cL (xs.drop i)≤oH→(∀e∈st,e.2+cL e.1≤oH)→d+cL (xs.drop i)≤oH →
   ∃o,dN ae env (aj ae env 72 2 [.vy 0,.ms 6 0 st.length 2 none,.mp 7 0,aL xs,sI .i64 xs.length,sI .i64 i] (D3 l tags n most cells++[.ac [aL xs,sI .i64 d]]) 6 64) o∧xU p l (st++[(xs.drop i,d)]) tags n most o:=by
 intro r
 induction r with
 |zero=>
  intro i st cells tags n most hi hN ht hn hw he hd
  have h1:xs.drop i=[]:=List.drop_eq_nil_of_le (by omega)
  rw[h1] at hN hn hw ⊢
  simp only[cL] at hN hn hw
  obtain⟨o,ho,hq⟩:=ih st (cells.map dZ) tags n most (by omega) ht.keep (by omega) (by omega) he
  refine⟨o,aD dy (vI l tags n most cells st.length xs d i 0 0 0 0 0 [] [] [] true) ?_,?_⟩
  · have h2 : ¬((i:Int)<xs.length):=by omega
    simp only[lE,cJ,aP.ok]
    exact⟨fun h=>absurd (by simpa using h) h2,fun _=>ho⟩
  · unfold xU at hq ⊢
    rw[oG,jV,sA,sw]
    simpa[A4,cL,lX,iC] using hq
 |succ r ihr=>
  intro i st cells tags n most hi hN ht hn hw he hd
  have An:i<xs.length:=by omega
  have MQ:xs[i]? = some xs[i]:=da An
  have Rv:xs.drop i=xs[i]::xs.drop (i+1):=List.drop_eq_getElem_cons An
  rw[Rv] at hN hn hw hd ⊢
  generalize xs[i]=x at *
  generalize hys:xs.drop (i+1)=ys at *
  obtain⟨op,rs,a,b,nn,tg,ll,le⟩:=x
  obtain⟨c0,c1,c2,c3,c4,c5,c6,c7⟩:=A7 MQ
  have hpx:=hp (.mk op rs a b nn tg ll le)
  have BO:oH=1000000000000:=rfl
  have dK:cE=70368744177664:=rfl
  simp only[cL,sY] at hN hn hw hd
  have Og:=qY st
  have Hz:=ht.len
  have w1:tl.wrap ((i:Int)+1)=((i+1:Nat):Int):=by rw[aY (by omega) (by omega)];rfl
  have w2:tl.wrap ((d:Int)+1)=((d+1:Nat):Int):=by rw[aY (by omega) (by omega)];rfl
  have w3:tl.wrap ((n:Int)+1)=((n+1:Nat):Int):=by rw[aY (by omega) (by omega)];rfl
  have Hj:(i:Int)<(xs.length:Int):=by omega
  cases hok:p (.mk op rs a b nn tg ll le) with
  |false=>
   refine⟨MP l tags n most,aD dy (vI l tags n most cells st.length xs d i op rs a b nn tg ll le false) ?_,.inr ⟨?_,_,_,_,rfl⟩⟩
   · simp only[lE,cJ,aP.ok,TE,gv,Tw,c0,c1,c2,c3,c4,c5,c6,c7,isInt,dA,bp,aJ,cO,aI,fG]
     refine⟨fun _=>⟨by simp[Hj],by simp,rfl,?_,fun _=>rfl,fun h=>by cases h⟩,fun h=>absurd Hj (by simpa using h)⟩
     rw[hok] at hpx;exact hpx
   · rw[oG,tN,A4,N5,hok];simp
  |true=>
   have next : ∀(s:iK) (cs:List AV),fL (st++s) cs→wS s≤2*(cL ll+cL le)+2→qg s=cL ll+cL le→FZ p s=(A4 p ll&&A4 p le)→vG s=max (lX ll) (lX le)→vE s=max (iC (d+1) ll) (iC (d+1) le)→(∀e∈s,e.2+cL e.1≤oH) →
     ∃o,dN ae env (aj ae env 72 2 [.vy 0,.ms 6 0 (st++s).length 2 none,.mp 7 0,aL xs,sI .i64 xs.length,sI .i64 (i+1:Nat)] (D3 l (max tags tg.length:Nat) (n+1:Nat) (max most d:Nat) cs++[.ac [aL xs,sI .i64 d]]) 6 64) o∧xU p l (st++[(.mk op rs a b nn tg ll le::ys,d)]) tags n most o:=by
    intro s cs hts Ss Rw hos Rx hds Ry
    obtain⟨o,ho,hq⟩:=ihr (i+1) (st++s) cs (max tags tg.length) (n+1) (max most d) (by omega) (by rw[qX,hys];omega) hts (by rw[jV,hys];omega) (by rw[qX,hys];omega)
     (fun e hm=>(List.mem_append.1 hm).elim (he e) (Ry e)) (by rw[hys];omega)
    refine⟨o,ho,?_⟩
    rw[hys] at hq
    unfold xU at hq ⊢
    simp only[oG,jV,sA,sw,tN,vH,A9,A8,hos,Rw,Rx,hds] at hq ⊢
    simp only[A4,N5,cL,sY,lX,FU,iC,A5,hok,Bool.true_and]
    rcases hq with⟨q1,q2⟩ | ⟨q1,q2⟩
    · refine .inl ⟨by rw[Bool.and_assoc] at q1;exact q1,?_⟩
      rw[q2]
      congr 1<;>congr 1<;>omega
    · exact .inr ⟨by rw[Bool.and_assoc] at q1;exact q1,q2⟩
   have tree:=vI l tags n most cells st.length xs d i op rs a b nn tg ll le true
   have H8:aO ae env 50 [A6 op rs a b nn tg ll le] [] (sB true) []:=by rw[hok] at hpx;exact hpx
   have N6:max (tags:Int) (tg.length:Int)=((max tags tg.length:Nat):Int):=by omega
   have N7:max (most:Int) (d:Int)=((max most d:Nat):Int):=by omega
   have nl : ∀z:List Ins,z≠[]→0<(z.length:Int):=fun z hz=>by have:=List.length_pos_iff.2 hz;omega
   by_cases Lx:ll=[]
   · by_cases hle:le=[]
     · subst Lx;subst hle
       obtain⟨o,ho,hq⟩:=next [] (cells.map dZ) (by rw[SS];exact ht.keep) (by simp[wS,cL]) (by simp[qg,cL]) (by simp[FZ,A4]) (by simp[vG,lX]) (by simp[vE,iC]) (fun _ h=>by cases h)
       refine⟨o,aD dy tree ?_,hq⟩
       simp only[lE,cJ,aP.ok,TE,gv,Tw,c0,c1,c2,c3,c4,c5,c6,c7,isInt,dA,bp,aJ,cO,aI,fG,w1,w2,w3,cond_false,N6,N7]
       rw[SS] at ho
       exact⟨fun _=>⟨by simp[Hj],by simp,rfl,H8,fun h=>(by cases h),fun _=>⟨rfl,fun h=>(by simp at h),fun _=>⟨fun h=>(by simp at h),fun _=>⟨(by trivial),ho⟩⟩⟩⟩,fun h=>absurd Hj (by simpa using h)⟩
     · subst Lx
       have O9:=nl le hle
       obtain⟨o,ho,hq⟩:=next [(le,d+1)] _ (ht.push le (d+1)).keep (by simp[cL]) (by simp[cL]) (by simp[A4]) (by simp[lX]) (by simp[iC]) (fun e h=>by simp only[Ts] at h;subst h;simp only;omega)
       refine⟨o,aD dy tree ?_,hq⟩
       simp only[lE,cJ,aP.ok,TE,gv,Tw,c0,c1,c2,c3,c4,c5,c6,c7,isInt,dA,bp,aJ,cO,aI,fG,w1,w2,w3,cond_false,N6,N7]
       rw[dC] at ho
       exact⟨fun _=>⟨by simp[Hj],by simp,rfl,H8,fun h=>(by cases h),fun _=>⟨rfl,fun h=>(by simp at h),fun _=>⟨fun _=>⟨rfl,(by simp;omega),(by trivial),ho⟩,fun h=>absurd O9 (by simpa using h)⟩⟩⟩,fun h=>absurd Hj (by simpa using h)⟩
   · have Qq:=nl ll Lx
     by_cases hle:le=[]
     · subst hle
       obtain⟨o,ho,hq⟩:=next [(ll,d+1)] _ (ht.push ll (d+1)).keep (by simp[cL]) (by simp[cL]) (by simp[A4]) (by simp[lX]) (by simp[iC]) (fun e h=>by simp only[Ts] at h;subst h;simp only;omega)
       refine⟨o,aD dy tree ?_,hq⟩
       simp only[lE,cJ,aP.ok,TE,gv,Tw,c0,c1,c2,c3,c4,c5,c6,c7,isInt,dA,bp,aJ,cO,aI,fG,w1,w2,w3,cond_false,N6,N7]
       rw[dC] at ho
       exact⟨fun _=>⟨by simp[Hj],by simp,rfl,H8,fun h=>(by cases h),fun _=>⟨rfl,fun _=>⟨rfl,(by simp;omega),fun h=>(by simp at h),fun _=>⟨(by trivial),ho⟩⟩,fun h=>absurd Qq (by simpa using h)⟩⟩,fun h=>absurd Hj (by simpa using h)⟩
     · have O9:=nl le hle
       have CU:=(ht.push ll (d+1)).push le (d+1)
       rw[pr] at CU
       obtain⟨o,ho,hq⟩:=next [(ll,d+1),(le,d+1)] _ CU.keep (by simp[wS];omega) (by simp[qg]) (by simp[FZ]) (by simp[vG]) (by simp[vE]) (fun e h=>by simp only[List.mem_cons,List.not_mem_nil,or_false] at h;rcases h with rfl | rfl<;>simp only<;>omega)
       refine⟨o,aD dy tree ?_,hq⟩
       simp only[lE,cJ,aP.ok,TE,gv,Tw,c0,c1,c2,c3,c4,c5,c6,c7,isInt,dA,bp,aJ,cO,aI,fG,w1,w2,w3,cond_false,N6,N7]
       simp only[dC,od,Tr,Tw] at ho
       exact⟨fun _=>⟨by simp[Hj],by simp,rfl,H8,fun h=>(by cases h),fun _=>⟨rfl,fun _=>⟨rfl,(by simp;omega),fun _=>⟨rfl,(by simp;omega),(by trivial),ho⟩,fun h=>absurd O9 (by simpa using h)⟩,fun h=>absurd Qq (by simpa using h)⟩⟩,fun h=>absurd Hj (by simpa using h)⟩
include hp in
theorem xV : ∀(N:Nat) (st:iK) (cells:List AV) (tags n most:Nat),wS st<N→fL st cells→n+qg st≤oH→wS st≤oH→(∀e∈st,e.2+cL e.1≤oH) →
   ∃o,dN ae env (aj ae env 72 0 [.vy 0,.ms 6 0 st.length 2 none] (D3 l tags n most cells) 6 64) o∧xU p l st tags n most o
 |0,_,_,_,_,_,h,_,_,_,_=>by omega
 |N+1,st,cells,tags,n,most,hN,ht,hn,hw,he=>by
  rcases List.eq_nil_or_concat st with rfl | ⟨s,⟨x,d⟩,rfl⟩
  · exact⟨_,aD dy (F1 l tags n most cells) rfl,.inl ⟨rfl,(by simp[vG,qg,vE];rfl)⟩⟩
  · rw[List.concat_eq_append] at *
    have hx:=he (x,d) (by simp)
    rw[qX,Kz] at hN hw
    rw[jV,vH] at hn
    obtain⟨t0,t1⟩:=ht.top
    have Hz:=ht.len
    have Og:=qY s
    have BO:oH=1000000000000:=rfl
    have OP:=sv x
    simp only[dC,od,Tr] at Hz hx
    obtain⟨o,ho,hq⟩:=D4 p hp l N (fun st cells tags n most=>xV N st cells tags n most) x (by omega) d x.length 0 s (cells.map dZ) tags n most (by omega) (by rw[Tq];omega) ht.pop.keep (by rw[Tq];omega) (by rw[Tq];omega)
     (fun e hm=>he e (List.mem_append_left _ hm)) (by rw[Tq];omega)
    rw[Tq] at hq
    refine⟨o,?_,hq⟩
    have w1:tl.wrap (((s.length+1:Nat):Int)-1)=(s.length:Int):=by rw[aY (by omega) (by omega)];omega
    rw[dC,List.length_singleton]
    refine aD dy (F0 l tags n most cells s.length x d) ?_
    simp only[C7,cJ,aP.ok,TE,rh,t0,t1,aE,wZ,w1,isInt,dA,bp,aJ,cO,aI,fG,Nat.sub_zero]
    exact⟨fun _=>⟨(by trivial),(by simp;omega),(by simp;omega),(by trivial),(by trivial),(by simp),ho⟩,fun h=>absurd h (by simp)⟩
end
section
variable (l:List Ins)
end
def Pa (l:List Ins) (tags n most:Int) (f:FuncId) (_:List AV) (_:Mem):Option (AV×Mem):=cond (a6 f 72) (some (.bn [],[recC l .ready none,.pc [.ps l.length 8 (aa l)],.pc [sP 0],.pc [sP tags],.pc [sP n],.pc [sP most]])) none
def Pb (l:List Ins) (tags n most:Int) (f:FuncId) (_:List AV) (_:Mem):Option (AV×Mem):=cond (a6 f 72) (some (.bn [],[recC l .done (some .ret),.pc [.ps l.length 8 (aa l)],.pc [sP 2],.pc [sP tags],.pc [sP n],.pc [sP most]])) none
def KD:hJ:=gk eK cK [(72,0)] [] []
def MR:Sc:= .fin
def H9 (l:List Ins):aP:=
 (.at (aj ae env 72 0 [.vy 0,.ms 6 0 1 2 none] ([.ob (jy ae 31 0 TA none) [.p (.ps l.length 8 (aa l)),.af,.mp 2 0,sB false,.mp 3 0,.mp 4 0,.mp 5 0,.af,.af,.p (.ps l.length 8 (aa l)),.fn (TB 72) [] [.mp 1 0],.af,.af,.af,.af,.af,.af,.af,.af,.af,.af,.af,.af,.af,.af,.af,.af,.af,.af,.af,.af,.af,.af,.af,.af,.af,.af],.pc [.ps l.length 8 (aa l)],.pc [sP 0],.pc [sP 0],.pc [sP 0],.pc [sP 0],.ob (fF.gr 109 true) [.p (.ps l.length 8 (aa l)),sI .i64 1]]) 6 64))
theorem Ba (l:List Ins):dJ ae env KD 1000000 72 ([AV.vy 0,AV.mp 1 0]) ([recC l TA Ty,aF.pc [PV.ps l.length 8 (aa l)],aF.pc [sP 0],aF.pc [sP 0],aF.pc [sP 0],aF.pc [sP 0]]) MR=H9 l:=by kernel_rfl
def Ia (l:List Ins) (tags n most:Int):hJ:=gk (Pa l tags n most) cK [] [(31,10,3),(31,10,7),(31,0,0)] []
def KE:Sc:=(.fork (.lit (.lit .fin)) (.fork (.lit .fin) .fin))
def F2 (l:List Ins) (tags n most:Int):aP:=
 (.call ⟨72,[.vy 0,.mp 1 0],[.ob (jy ae 31 0 TA none) [.p (.ps l.length 8 (aa l)),.af,.mp 2 0,sB false,.mp 3 0,.mp 4 0,.mp 5 0,.af,.af,.p (.ps l.length 8 (aa l)),.fn (TB 72) [] [.mp 1 0],.af,.af,.af,.af,.af,.af,.af,.af,.af,.af,.af,.af,.af,.af,.af,.af,.af,.af,.af,.af,.af,.af,.af,.af,.af,.af],.pc [.ps l.length 8 (aa l)],.pc [sP 0],.pc [sP 0],.pc [sP 0],.pc [sP 0]],.bn [],[.ob (jy ae 31 0 TA none) [.p (.ps l.length 8 (aa l)),.af,.mp 2 0,sB false,.mp 3 0,.mp 4 0,.mp 5 0,.af,.af,.p (.ps l.length 8 (aa l)),.fn (TB 72) [] [.mp 1 0],.af,.af,.af,.af,.af,.af,.af,.af,.af,.af,.af,.af,.af,.af,.af,.af,.af,.af,.af,.af,.af,.af,.af,.af,.af,.af],.pc [.ps l.length 8 (aa l)],.pc [sP 0],.pc [sP tags],.pc [sP n],.pc [sP most]]⟩
 (.test (decide (n>262144))
 (.out (.ret (sI .i64 141) []))
 (.test (decide (tags>16384))
 (.out (.ret (sI .i64 141) []))
 (.test (decide (most>900))
 (.out (.ret (sI .i64 141) []))
 (.out (.ret (sI .i64 0) []))))))
theorem D5 (l:List Ins) (tags n most:Int):dJ ae env (Ia l tags n most) 1000000 31 ([aL l]) ([]) KE=F2 l tags n most:=by kernel_rfl
def Ib (l:List Ins) (tags n most:Int):hJ:=gk (Pb l tags n most) cK [] [] []
def KF:Sc:= .fin
def F3 (l:List Ins) (tags n most:Int):aP:=
 (.call ⟨72,[.vy 0,.mp 1 0],[.ob (jy ae 31 0 TA none) [.p (.ps l.length 8 (aa l)),.af,.mp 2 0,sB false,.mp 3 0,.mp 4 0,.mp 5 0,.af,.af,.p (.ps l.length 8 (aa l)),.fn (TB 72) [] [.mp 1 0],.af,.af,.af,.af,.af,.af,.af,.af,.af,.af,.af,.af,.af,.af,.af,.af,.af,.af,.af,.af,.af,.af,.af,.af,.af,.af],.pc [.ps l.length 8 (aa l)],.pc [sP 0],.pc [sP 0],.pc [sP 0],.pc [sP 0]],.bn [],[.ob (jy ae 31 0 LoopState.done (some Code.ret)) [.p (.ps l.length 8 (aa l)),.af,.mp 2 0,sB false,.mp 3 0,.mp 4 0,.mp 5 0,.af,.af,.p (.ps l.length 8 (aa l)),.fn (TB 72) [] [.mp 1 0],.af,.af,.af,.af,.af,.af,.af,.af,.af,.af,.af,.af,.af,.af,.af,.af,.af,.af,.af,.af,.af,.af,.af,.af,.af,.af],.pc [.ps l.length 8 (aa l)],.pc [sP 2],.pc [sP tags],.pc [sP n],.pc [sP most]]⟩
 (.out (.ret (sI .i64 2) [])))
theorem D6 (l:List Ins) (tags n most:Int):dJ ae env (Ib l tags n most) 1000000 31 ([aL l]) ([]) KF=F3 l tags n most:=by kernel_rfl
theorem Ic (l:List Ins):fL [(l,1)] [.p (.ps l.length 8 (aa l)),.p (.sc (.int .i64 1))]:=rfl
def gF (p:Ins→Bool) (l:List Ins):Int:=if A4 p l=false then 2 else if 262144<cL l∨16384<lX l∨900<iC 1 l then 141 else 0
theorem Cl {p:Ins→Bool} (hp : ∀x:Ins,aO ae env 50 [Ky x] [] (sB (p x)) []) (l:List Ins) (h:cL l≤100000000000):aO ae env 31 [aL l] [] (sI .i64 (gF p l)) []:=by
 have BO:oH=1000000000000:=rfl
 obtain⟨o,ho,hq⟩:=xV p hp l (2*cL l+2) [(l,1)] _ 0 0 0 (by simp) (Ic l) (by simp;omega) (by simp;omega) (fun e he=>by simp only[Ts] at he;subst he;simp only;omega)
 rcases hq with⟨q1,rfl⟩ | ⟨q1,t,k,m,rfl⟩
 · have hd:aO ae env 72 [.vy 0,.mp 1 0] _ (.bn []) _:=az dy (Ba l) ho
   refine az dy (D5 l _ _ _) ⟨hd,?_⟩
   rw[tN] at q1
   simp only[A9,vH,A8,rh,Nat.zero_max]
   have z : ∀a b:Nat,decide ((a:Int)>(b:Int))=decide (b<a):=fun a b=>by congr 1;exact propext (by omega)
   unfold gF
   rw[if_neg (by rw[q1];simp)]
   refine⟨fun h1=> ?_,fun h1=>⟨fun h2=> ?_,fun h2=>⟨fun h3=> ?_,fun h3=> ?_⟩⟩⟩<;>simp only[decide_eq_true_eq,decide_eq_false_iff_not] at *
   · rw[if_pos (by omega)];rfl
   · rw[if_pos (by omega)];rfl
   · rw[if_pos (by omega)];rfl
   · rw[if_neg (by omega)];rfl
 · have hd:aO ae env 72 [.vy 0,.mp 1 0] _ (.bn []) _:=az dy (Ba l) ho
   refine az dy (D6 l t k m) ⟨hd,?_⟩
   rw[tN] at q1
   unfold gF
   rw[if_pos q1];rfl
def D7:cr:=⟨82,[.p (.sc (.string ⟨#[101,113,122,32,101,113,32,110,101,32,108,116,95,115,32,108,116,95,117,32,103,116,95,115,32,103,116,95,117,32,108,101,95,115,32,108,101,95,117,32,103,101,95,115,32,103,101,95,117]⟩))],[],.p (.ps 11 1 [.sc (.string ⟨#[101,113,122]⟩),.sc (.string ⟨#[101,113]⟩),.sc (.string ⟨#[110,101]⟩),.sc (.string ⟨#[108,116,95,115]⟩),.sc (.string ⟨#[108,116,95,117]⟩),.sc (.string ⟨#[103,116,95,115]⟩),.sc (.string ⟨#[103,116,95,117]⟩),.sc (.string ⟨#[108,101,95,115]⟩),.sc (.string ⟨#[108,101,95,117]⟩),.sc (.string ⟨#[103,101,95,115]⟩),.sc (.string ⟨#[103,101,95,117]⟩)]),[]⟩
theorem Pc:aO ae env D7.g D7.args D7.m D7.v D7.m':=fu dy (K:=[]) nH (n:=10000000) (by kernel_rfl)
def KG:List cr:=D7::[]
theorem F4:fc ae env KG:=fU Pc nH
def D8:cr:=⟨82,[.p (.sc (.string ⟨#[99,108,122,32,99,116,122,32,112,111,112,99,110,116,32,97,100,100,32,115,117,98,32,109,117,108,32,100,105,118,95,115,32,100,105,118,95,117,32,114,101,109,95,115,32,114,101,109,95,117,32,97,110,100,32,111,114,32,120,111,114,32,115,104,108,32,115,104,114,95,115,32,115,104,114,95,117,32,114,111,116,108,32,114,111,116,114]⟩))],[],.p (.ps 18 1 [.sc (.string ⟨#[99,108,122]⟩),.sc (.string ⟨#[99,116,122]⟩),.sc (.string ⟨#[112,111,112,99,110,116]⟩),.sc (.string ⟨#[97,100,100]⟩),.sc (.string ⟨#[115,117,98]⟩),.sc (.string ⟨#[109,117,108]⟩),.sc (.string ⟨#[100,105,118,95,115]⟩),.sc (.string ⟨#[100,105,118,95,117]⟩),.sc (.string ⟨#[114,101,109,95,115]⟩),.sc (.string ⟨#[114,101,109,95,117]⟩),.sc (.string ⟨#[97,110,100]⟩),.sc (.string ⟨#[111,114]⟩),.sc (.string ⟨#[120,111,114]⟩),.sc (.string ⟨#[115,104,108]⟩),.sc (.string ⟨#[115,104,114,95,115]⟩),.sc (.string ⟨#[115,104,114,95,117]⟩),.sc (.string ⟨#[114,111,116,108]⟩),.sc (.string ⟨#[114,111,116,114]⟩)]),[]⟩
theorem Pd:aO ae env D8.g D8.args D8.m D8.v D8.m':=fu dy (K:=KG) F4 (n:=10000000) (by kernel_rfl)
def MS:List cr:=D8::KG
theorem KH:fc ae env MS:=fU Pd F4
def Hl:List ByteArray:=[⟨#[117,110,114,101,97,99,104,97,98,108,101]⟩,⟨#[110,111,112]⟩,⟨#[98,108,111,99,107]⟩,⟨#[108,111,111,112]⟩,⟨#[105,102]⟩,⟨#[]⟩,⟨#[]⟩,⟨#[]⟩,⟨#[]⟩,⟨#[]⟩,⟨#[]⟩,⟨#[]⟩,⟨#[98,114]⟩,⟨#[98,114,95,105,102]⟩,⟨#[98,114,95,116,97,98,108,101]⟩,⟨#[114,101,116,117,114,110]⟩,⟨#[99,97,108,108]⟩,⟨#[99,97,108,108,95,105,110,100,105,114,101,99,116]⟩,⟨#[]⟩,⟨#[]⟩,⟨#[]⟩,⟨#[]⟩,⟨#[]⟩,⟨#[]⟩,⟨#[]⟩,⟨#[]⟩,⟨#[100,114,111,112]⟩,⟨#[115,101,108,101,99,116]⟩,⟨#[]⟩,⟨#[]⟩,⟨#[]⟩,⟨#[]⟩,⟨#[108,111,99,97,108,46,103,101,116]⟩,⟨#[108,111,99,97,108,46,115,101,116]⟩,⟨#[108,111,99,97,108,46,116,101,101]⟩,⟨#[103,108,111,98,97,108,46,103,101,116]⟩,⟨#[103,108,111,98,97,108,46,115,101,116]⟩,⟨#[]⟩,⟨#[]⟩,⟨#[]⟩,⟨#[105,51,50,46,108,111,97,100]⟩,⟨#[]⟩,⟨#[]⟩,⟨#[]⟩,⟨#[105,51,50,46,108,111,97,100,56,95,115]⟩,⟨#[105,51,50,46,108,111,97,100,56,95,117]⟩,⟨#[105,51,50,46,108,111,97,100,49,54,95,115]⟩,⟨#[105,51,50,46,108,111,97,100,49,54,95,117]⟩,⟨#[]⟩,⟨#[]⟩,⟨#[]⟩,⟨#[]⟩,⟨#[]⟩,⟨#[]⟩,⟨#[105,51,50,46,115,116,111,114,101]⟩,⟨#[]⟩,⟨#[]⟩,⟨#[]⟩,⟨#[105,51,50,46,115,116,111,114,101,56]⟩,⟨#[105,51,50,46,115,116,111,114,101,49,54]⟩,⟨#[]⟩,⟨#[]⟩,⟨#[]⟩,⟨#[109,101,109,111,114,121,46,115,105,122,101]⟩,⟨#[109,101,109,111,114,121,46,103,114,111,119]⟩,⟨#[105,51,50,46,99,111,110,115,116]⟩,⟨#[]⟩,⟨#[]⟩,⟨#[]⟩,⟨#[105,51,50,46,101,113,122]⟩,⟨#[105,51,50,46,101,113]⟩,⟨#[105,51,50,46,110,101]⟩,⟨#[105,51,50,46,108,116,95,115]⟩,⟨#[105,51,50,46,108,116,95,117]⟩,⟨#[105,51,50,46,103,116,95,115]⟩,⟨#[105,51,50,46,103,116,95,117]⟩,⟨#[105,51,50,46,108,101,95,115]⟩,⟨#[105,51,50,46,108,101,95,117]⟩,⟨#[105,51,50,46,103,101,95,115]⟩,⟨#[105,51,50,46,103,101,95,117]⟩,⟨#[]⟩,⟨#[]⟩,⟨#[]⟩,⟨#[]⟩,⟨#[]⟩,⟨#[]⟩,⟨#[]⟩,⟨#[]⟩,⟨#[]⟩,⟨#[]⟩,⟨#[]⟩,⟨#[]⟩,⟨#[]⟩,⟨#[]⟩,⟨#[]⟩,⟨#[]⟩,⟨#[]⟩,⟨#[]⟩,⟨#[]⟩,⟨#[]⟩,⟨#[]⟩,⟨#[]⟩,⟨#[]⟩,⟨#[105,51,50,46,99,108,122]⟩,⟨#[105,51,50,46,99,116,122]⟩,⟨#[105,51,50,46,112,111,112,99,110,116]⟩,⟨#[105,51,50,46,97,100,100]⟩,⟨#[105,51,50,46,115,117,98]⟩,⟨#[105,51,50,46,109,117,108]⟩,⟨#[105,51,50,46,100,105,118,95,115]⟩,⟨#[105,51,50,46,100,105,118,95,117]⟩,⟨#[105,51,50,46,114,101,109,95,115]⟩,⟨#[105,51,50,46,114,101,109,95,117]⟩,⟨#[105,51,50,46,97,110,100]⟩,⟨#[105,51,50,46,111,114]⟩,⟨#[105,51,50,46,120,111,114]⟩,⟨#[105,51,50,46,115,104,108]⟩,⟨#[105,51,50,46,115,104,114,95,115]⟩,⟨#[105,51,50,46,115,104,114,95,117]⟩,⟨#[105,51,50,46,114,111,116,108]⟩,⟨#[105,51,50,46,114,111,116,114]⟩,⟨#[]⟩,⟨#[]⟩,⟨#[]⟩,⟨#[]⟩,⟨#[]⟩,⟨#[]⟩,⟨#[]⟩,⟨#[]⟩,⟨#[]⟩,⟨#[]⟩,⟨#[]⟩,⟨#[]⟩,⟨#[]⟩,⟨#[]⟩,⟨#[]⟩,⟨#[]⟩,⟨#[]⟩,⟨#[]⟩,⟨#[]⟩,⟨#[]⟩,⟨#[]⟩,⟨#[]⟩,⟨#[]⟩,⟨#[]⟩,⟨#[]⟩,⟨#[]⟩,⟨#[]⟩,⟨#[]⟩,⟨#[]⟩,⟨#[]⟩,⟨#[]⟩,⟨#[]⟩,⟨#[]⟩,⟨#[]⟩,⟨#[]⟩,⟨#[]⟩,⟨#[]⟩,⟨#[]⟩,⟨#[]⟩,⟨#[]⟩,⟨#[]⟩,⟨#[]⟩,⟨#[]⟩,⟨#[]⟩,⟨#[]⟩,⟨#[]⟩,⟨#[]⟩,⟨#[]⟩,⟨#[]⟩,⟨#[]⟩,⟨#[]⟩,⟨#[]⟩,⟨#[]⟩,⟨#[]⟩,⟨#[]⟩,⟨#[]⟩,⟨#[]⟩,⟨#[]⟩,⟨#[]⟩,⟨#[]⟩,⟨#[]⟩,⟨#[]⟩,⟨#[]⟩,⟨#[]⟩,⟨#[]⟩,⟨#[]⟩,⟨#[]⟩,⟨#[]⟩,⟨#[]⟩,⟨#[]⟩,⟨#[]⟩,⟨#[]⟩,⟨#[]⟩,⟨#[]⟩,⟨#[]⟩,⟨#[]⟩,⟨#[]⟩,⟨#[]⟩,⟨#[]⟩,⟨#[]⟩,⟨#[]⟩,⟨#[]⟩,⟨#[]⟩,⟨#[]⟩,⟨#[]⟩,⟨#[]⟩,⟨#[]⟩,⟨#[]⟩,⟨#[]⟩,⟨#[]⟩,⟨#[]⟩,⟨#[]⟩,⟨#[]⟩,⟨#[]⟩,⟨#[]⟩,⟨#[]⟩,⟨#[]⟩,⟨#[]⟩,⟨#[]⟩,⟨#[]⟩,⟨#[]⟩,⟨#[]⟩,⟨#[]⟩,⟨#[]⟩,⟨#[]⟩,⟨#[]⟩,⟨#[]⟩,⟨#[]⟩,⟨#[]⟩,⟨#[]⟩,⟨#[]⟩,⟨#[]⟩,⟨#[]⟩,⟨#[]⟩,⟨#[]⟩,⟨#[]⟩,⟨#[]⟩,⟨#[]⟩,⟨#[]⟩,⟨#[]⟩,⟨#[]⟩,⟨#[]⟩,⟨#[]⟩,⟨#[]⟩,⟨#[]⟩,⟨#[]⟩,⟨#[]⟩,⟨#[]⟩,⟨#[]⟩,⟨#[]⟩,⟨#[]⟩,⟨#[]⟩,⟨#[]⟩,⟨#[]⟩,⟨#[]⟩]
theorem KI:aO ae env 63 [] [] (.agg (Hl.map fun s=> .p (.sc (.string s)))) []:=fu dy (K:=MS) KH (n:=10000000) (by kernel_rfl)
end Go.Proofs.YtddfgnmjecogdaaDoor.N
end
