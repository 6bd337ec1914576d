import Derived.Test.YtdmmllcjgjmbbaaGreatDoorMG
import Derived.Test.YtdmmllcjgjmbbaaGreatDoorChecked
import Derived.Test.YtdmmllcjgjmbbaaGreatDoorMF
import GoSem.PinnedTables
open List renaming getD_eq_getElem?_getD→ch,length_append→di,length_cons→ml,drop_zero→ab1,map_append→ab3,length_nil→ab4,getElem?_append_right→H0,mem_singleton→ab5,getElem?_eq_getElem→cb,map→ab6,take→ab8,getElem?_eq_none→dt,foldr_append→ab9,length_map→my,append_nil→Pl,map_cons→oT
open Nat renaming reduceAdd→aca,add_assoc→fi,beq→ae,zero_le→abb,zero_add→pw,lt_or_ge→fg
open Go.Proofs.Tryz renaming prog→acb
open Go.IntKind renaming i64→sb,u32→abY
open Go.TypeInfo renaming mk→ace
open Option renaming none→acg,some→aci
open Go.LoopState renaming ready→acj
open Go.Fn renaming func→acm
open Min renaming min→aco
open Max renaming max→acx
open Int renaming toNat_natCast→acy
noncomputable section
section
namespace Go.Am
open Go.RowKit
inductive Ins where
 |mk (op results a b n:Int) (tags:List Int) (l e:List Ins)
namespace Ins
def op:Ins→Int | .mk op _ _ _ _ _ _ _=>op
def results:Ins→Int | .mk _ r _ _ _ _ _ _=>r
def a:Ins→Int | .mk _ _ a _ _ _ _ _=>a
def b:Ins→Int | .mk _ _ _ b _ _ _ _=>b
def n:Ins→Int | .mk _ _ _ _ n _ _ _=>n
def tags:Ins→List Int | .mk _ _ _ _ _ t _ _=>t
def l:Ins→List Ins | .mk _ _ _ _ _ _ l _=>l
def e:Ins→List Ins | .mk _ _ _ _ _ _ _ e=>e
end Ins
def dZ (k:IntKind) (l:List Int):List PV:=l.map fun t=> .sc (.int k t)
mutual
def zQ:Ins→List PV
 |.mk op r a b n tags l e=>[.sc (.int .i64 op),.sc (.int .i64 r),.sc (.int .u32 a),.sc (.int .u32 b),.sc (.int .i32 n),.ps tags.length 1 (dZ .u32 tags),.ps l.length 8 (aq l),.ps e.length 8 (aq e)]
def aq:List Ins→List PV
 |[]=>[]
 |x::r=>zQ x++aq r
end
mutual
def QJ:Ins→Prop
 |.mk op r a b n tags l e=>(Lit.int .i64 op).wf=true∧(Lit.int .i64 r).wf=true∧(Lit.int .u32 a).wf=true∧(Lit.int .u32 b).wf=true∧(Lit.int .i32 n).wf=true∧(tags.length≤maxLen ∧ ∀t∈tags,(Lit.int .u32 t).wf=true)∧(l.length≤maxLen∧F0 l)∧e.length≤maxLen∧F0 e
def F0:List Ins→Prop
 |[]=>True
 |x::r=>QJ x∧F0 r
end
theorem AJ : ∀l:List Ins,aq l=l.flatMap zQ
 |[]=>rfl
 |x::r=>by rw[aq,AJ r];rfl
theorem HJ : ∀{l:List Ins},(∀x∈l,QJ x)→F0 l
 |[],_=>trivial
 |x::_,h=>⟨h x (.head _),HJ fun y hy=>h y (.tail _ hy)⟩
theorem jc : ∀x:Ins,(zQ x).length=8
 |.mk .. =>rfl
structure UT (P:Program) (tL tI ti tu tn tt:TypeId) (fs:Array Field):Prop where
 hL:P.underlying tL=some (.slice tI)
 hI:P.underlying tI=some (.struct fs)
 hz:P.cellsOf tI=8
 hf:fs.toList.map (fun f=>(f.offset,f.type))=[(0,ti),(1,ti),(2,tu),(3,tu),(4,tn),(5,tt),(6,tL),(7,tL)]
 h1:P.cellsOf ti=1∧P.cellsOf tu=1∧P.cellsOf tn=1∧P.cellsOf tt=1∧P.cellsOf tL=1
 ki:P.underlying ti=some (.int .i64)
 ku:P.underlying tu=some (.int .u32)
 kn:P.underlying tn=some (.int .i32)
 kt:P.underlying tt=some (.slice tu)
section
variable {H:Type} {enc:TypeId×Value→H} {P:Program} {w:World} {base:Nat} {spare:Nat→Bool} {held:Bool} {tL tI ti tu tn tt:TypeId} {fs:Array Field}
theorem UU {i:Nat} {o t:Nat} (hf:(fs.toList.map fun f=>(f.offset,f.type))[i]? = some (o,t)) : ∃f,fs[i]? = some f∧f.offset=o∧f.type=t:=by
 rw[List.getElem?_map] at hf
 cases h:fs.toList[i]? with
 |none=>rw[h] at hf;cases hf
 |some f=>
  rw[h] at hf
  simp only[Option.map_some,Option.some.injEq,Prod.mk.injEq] at hf
  exact⟨f,by simpa using h,hf.1,hf.2⟩
theorem bL.cat {w:World} {x:PV} {l:List PV} {v:Value} {cs:List Value} (h:bL w [x] [v]) (k:bL w l cs):bL w (x::l) (v::cs):=h.append k
theorem DW (T:UT P tL tI ti tu tn tt fs) : ∀(fuel:Nat) (cs:List Value) (x:DataW H×List MemPlace),DataW.trod enc P w base spare held fuel tL cs=some x →
  ∃l:List Ins,(l.length≤maxLen∧F0 l)∧bL w [.ps l.length 8 (aq l)] cs:=by
 intro fuel
 induction fuel using Nat.strongRecOn with
 |ind fuel ih=>
  intro cs x h
  obtain⟨xs,h0,h1,h2⟩:=kj (mJ:=zQ) (wf:=QJ) T.hL (by rw[T.hz];omega) h fun n hn us y hy=>by
   obtain⟨m,rfl,hlen,hg⟩:=jm T.hI hy
   rw[T.hz] at hlen
   have get : ∀(i:Nat) (o t:Nat),[(0,ti),(1,ti),(2,tu),(3,tu),(4,tn),(5,tt),(6,tL),(7,tL)][i]? = some (o,t)→P.cellsOf t=1 → ∃y,DataW.trod enc P w base spare held m t ((us.drop o).take 1)=some y:=by
    intro i o t hi hc
    obtain⟨f,q1,q2,q3⟩:=UU (fs:=fs) (i:=i) (by rw[T.hf];exact hi)
    obtain⟨y,hy⟩:=hg i f q1
    rw[q2,q3,hc] at hy
    exact⟨y,hy⟩
   obtain⟨c1,c2,c3,c4,c5⟩:=T.h1
   obtain⟨y0,e0⟩:=get 0 0 ti rfl c1
   obtain⟨y1,e1⟩:=get 1 1 ti rfl c1
   obtain⟨y2,e2⟩:=get 2 2 tu rfl c2
   obtain⟨y3,e3⟩:=get 3 3 tu rfl c2
   obtain⟨y4,e4⟩:=get 4 4 tn rfl c3
   obtain⟨y5,e5⟩:=get 5 5 tt rfl c4
   obtain⟨y6,e6⟩:=get 6 6 tL rfl c5
   obtain⟨y7,e7⟩:=get 7 7 tL rfl c5
   match us,hlen with
   |[u0,u1,u2,u3,u4,u5,u6,u7],_=>
    simp only[ab1,List.drop_succ_cons,List.take_succ_cons,List.take_zero] at e0 e1 e2 e3 e4 e5 e6 e7
    obtain⟨n0,w0,k0⟩:=bM T.ki e0
    obtain⟨n1,w1,k1⟩:=bM T.ki e1
    obtain⟨n2,w2,k2⟩:=bM T.ku e2
    obtain⟨n3,w3,k3⟩:=bM T.ku e3
    obtain⟨n4,w4,k4⟩:=bM T.kn e4
    obtain⟨n5,w5,w5',k5⟩:=pU T.kt T.ku c2 e5
    obtain⟨n6,w6,k6⟩:=ih m (by omega) _ _ e6
    obtain⟨n7,w7,k7⟩:=ih m (by omega) _ _ e7
    exact⟨.mk n0 n1 n2 n3 n4 n5 n6 n7,⟨w0,w1,w2,w3,w4,⟨w5,w5'⟩,w6,w7⟩,k0.cat (k1.cat (k2.cat (k3.cat (k4.cat (k5.cat (k6.cat k7))))))⟩
  refine⟨xs,⟨h0,HJ h1⟩,?_⟩
  rw[T.hz,←AJ] at h2
  exact h2
end
end Go.Am
end
section
namespace Go.Am
theorem tH (k:IntKind) (l:List Int) (n:Nat) (h:n<l.length):(dZ k l).getD n .bw = .sc (.int k (l.getD n 0)):=by
 simp[dZ,ch,cb h]
theorem DX (k:IntKind) (l:List Int) (n:Nat) (h:l.length≤n):(dZ k l).getD n .bw = .bw:=by
 simp[dZ,ch,dt h]
@[simp] theorem xM (k:IntKind) (l:List Int) (n:Nat):av ((dZ k l).getD n .bw)=l.getD n 0:=by
  rcases fg n l.length with h | h
  · rw[tH k l n h];rfl
  · rw[DX k l n h]
    simp[ch,dt h]
    rfl
@[simp] theorem xN (k:IntKind) (l:List Int) (n:Nat):isInt k ((dZ k l).getD n .bw)=decide (n<l.length):=by
  rcases fg n l.length with h | h
  · rw[tH k l n h];simp[isInt,h]
  · rw[DX k l n h];simp[isInt];omega
theorem DY {k:IntKind} : ∀{l m:List Int},dZ k l=dZ k m→l=m
 |[],[],_=>rfl
 |[],_::_,h=>by simp[dZ] at h
 |_::_,[],h=>by simp[dZ] at h
 |a::l,b::m,h=>by
  simp only[dZ,oT,List.cons.injEq,PV.sc.injEq,Value.int.injEq,true_and] at h
  rw[h.1,DY (l:=l) (m:=m) h.2]
mutual
theorem L9 : ∀{x y:Ins},zQ x=zQ y→x=y
 |.mk op r a b n tags l e,.mk op' r' a' b' n' tags' l' e',h=>by
  simp only[zQ,List.cons.injEq,PV.sc.injEq,Value.int.injEq,PV.ps.injEq,true_and,and_true] at h
  obtain⟨rfl,rfl,rfl,rfl,rfl,⟨_,h5⟩,⟨_,h6⟩,_,h7⟩:=h
  rw[DY h5,ot h6,ot h7]
theorem ot : ∀{l m:List Ins},aq l=aq m→l=m
 |[],[],_=>rfl
 |[],.mk .. :: _,h=>by simp[aq,zQ] at h
 |.mk .. :: _,[],h=>by simp[aq,zQ] at h
 |x::l,y::m,h=>by
  simp only[aq] at h
  obtain⟨h1,h2⟩:=List.append_inj h (by rw[jc,jc])
  rw[L9 h1,ot h2]
end
theorem tJ : ∀{l:List Ins} {k:Nat} {x:Ins},l[k]? = some x → ∀c,c<8→(aq l).getD (k*8+c) .bw=(zQ x).getD c .bw
 |[],_,_,h,_,_=>by simp at h
 |y::l,0,x,h,c,hc=>by
  simp only[List.getElem?_cons_zero,Option.some.injEq] at h;subst h
  rw[aq,Nat.zero_mul,pw,ch,ch,List.getElem?_append_left (by rw[jc];exact hc)]
 |y::l,k+1,x,h,c,hc=>by
  have ih:=tJ (l:=l) (k:=k) (x:=x) (by simpa using h) c hc
  rw[ch] at ih
  rw[aq,ch,H0 (by rw[jc];omega),jc,show(k+1)*8+c-8=k*8+c by omega]
  exact ih
theorem rN : ∀{l:List Ins} {x:Ins},F0 l→x∈l→QJ x
 |_::_,_,h,.head _=>h.1
 |_::_,_,h,.tail _ hx=>rN h.2 hx
mutual
def Cq:Ins→Nat
 |.mk _ _ _ _ _ tags l e=>1+tags.length+ou l+ou e
def ou:List Ins→Nat
 |[]=>0
 |x::r=>Cq x+ou r
end
theorem DZ : ∀{l:List Ins} {x:Ins},x∈l→Cq x≤ou l
 |y::l,x,h=>by
  simp only[ou]
  cases h with
  |head=>omega
  |tail _ h=>have:=DZ h;omega
mutual
def dn:List Ins→Int→Int→Int
 |[],_,n=>n
 |x::r,most,n=>if n≤most then dn r most (xO x most n) else n
def xO:Ins→Int→Int→Int
 |.mk _ _ _ _ _ tags l e,most,n=>
  let n1:=n+1+min (tags.length:Int) most
  let n2:=if n1≤most then n1+dn l (most-n1) 0 else n1
  if n2≤most then n2+dn e (most-n2) 0 else n2
end
mutual
theorem xP : ∀(x:Ins) (most n:Int),0≤n→n≤most→n≤xO x most n∧xO x most n≤2*most+1
 |.mk _ _ _ _ _ tags l e,most,n,h0,h=>by
  simp only[xO]
  generalize hn1:n+1+min (tags.length:Int) most=n1
  have h1:n+1≤n1∧n1≤2*most+1:=by omega
  generalize hn2:(if n1≤most then n1+dn l (most-n1) 0 else n1)=n2
  have h2:n1≤n2∧n2≤2*most+1:=by
   rw[←hn2]
   split
   · have:=bZ l (most-n1) 0 (by omega) (by omega) (by omega);omega
   · omega
  split
  · have:=bZ e (most-n2) 0 (by omega) (by omega) (by omega);omega
  · omega
theorem bZ : ∀(l:List Ins) (most n:Int),0≤most→0≤n→n≤2*most+1→n≤dn l most n∧dn l most n≤2*most+1
 |[],most,n,_,_,h=>by simp only[dn];omega
 |x::r,most,n,hm,h0,h=>by
  simp only[dn]
  split
  · have h1:=xP x most n h0 (by omega)
    have h2:=bZ r most (xO x most n) hm (by omega) (by omega)
    omega
  · omega
end
mutual
theorem Ma : ∀(x:Ins) (most n:Int),0≤n→n≤most→xO x most n≤most→xO x most n=n+Cq x
 |.mk _ _ _ _ _ tags l e,most,n,h0,h=>by
  simp only[xO,Cq]
  generalize hn1:n+1+min (tags.length:Int) most=n1
  generalize hn2:(if n1≤most then n1+dn l (most-n1) 0 else n1)=n2
  intro h3
  have hle:n2≤most:=by
   split at h3
   · rename_i q;exact q
   · exact h3
  rw[if_pos hle] at h3 ⊢
  have Yo:=bZ e (most-n2) 0 (by omega) (by omega) (by omega)
  have acO:n1≤most:=by
   rw[←hn2] at hle
   split at hle
   · rename_i q;exact q
   · exact hle
  rw[if_pos acO] at hn2
  have HB:=bZ l (most-n1) 0 (by omega) (by omega) (by omega)
  have e1:=rO l (most-n1) 0 (by omega) (by omega) (by omega)
  have e2:=rO e (most-n2) 0 (by omega) (by omega) (by omega)
  have:min (tags.length:Int) most=tags.length:=by omega
  push_cast
  omega
theorem rO : ∀(l:List Ins) (most n:Int),0≤most→0≤n→dn l most n≤most→dn l most n=n+ou l
 |[],most,n,_,_,h=>by simp[dn,ou]
 |x::r,most,n,hm,h0,h=>by
  simp only[dn,ou] at h ⊢
  split at h
  · rename_i hn
    rw[if_pos hn]
    have hr:=xP x most n h0 hn
    have Yo:=bZ r most (xO x most n) hm (by omega) (by omega)
    have e1:=Ma x most n h0 hn (by omega)
    have e2:=rO r most (xO x most n) hm (by omega) h
    push_cast
    omega
  · omega
end
end Go.Am
end
section
namespace Go.Proofs.YtdmmllcjgjmbbaaGreatDoor.N
open Go Go.Am
def aF (l:List PV) (n:Nat):PV:=l.getD n PV.bw
def aJ (i:Nat):Nat:=(i:Int).toNat
def F1:az:= .out (.ret (sB true) [])
def xQ:AV:= .os none 0 0 []
theorem bF:(∀l n,aF l n=l.getD n PV.bw)∧(∀i,aJ i=(i:Int).toNat)∧F1 = .out (.ret (sB true) [])∧xQ = .os none 0 0 []:=⟨fun _ _=>rfl,fun _=>rfl,rfl,rfl⟩
def Mb:List Int:=[0,0,0,0,0,0,0,0,0,1,1,1,1,1,0,0,0,0,0,0,0,0,0,0,0,0,0,0,0,0,0,0,1]++List.replicate 223 0
def iK:List Int:=Pinned.utf8FirstZ.map fun(n:Nat)=>(n:Int)
def Zi:List Int:=[128,191,160,191,128,159,144,191,128,143,0,0,0,0,0,0,0,0,0,0,0,0,0,0,0,0,0,0,0,0,0,0]
def tabs:List (Nat×List Value):=[(2,Mb.map (.int .u8)),(0,iK.map (.int .u8)),(1,Zi.map (.int .u8))]
def keeps:List (Nat×Nat×List Nat):=[(6,2,[1,2,5,6]),(6,6,[1,2,5,7]),(6,10,[1,2,5,8]),(6,14,[1,2,5,9]),(6,18,[1,2,5,10]),(6,22,[1,2,5,11]),(7,0,[1,2,3,4]),(7,4,[1,2,3,6]),(7,8,[1,2,3,7]),(7,12,[1,2,3,8]),(11,0,[1,2,3,8]),(12,0,[1,6,7,8]),(14,0,[3,7,8,9]),(15,0,[1,3,4]),(15,4,[1,3,5]),(15,8,[1,3,6]),(15,12,[1,3,7]),(16,2,[2,3,5]),(16,8,[2,3,6]),(16,14,[2,3,7]),(20,2,[1,2,4]),(23,0,[0,1,5,6]),(24,0,[0,3,4]),(25,0,[0,1,7,8]),(28,0,[1,3,7,8,9]),(30,2,[1,3]),(30,8,[1,4,5]),(31,0,[1,3,4]),(31,6,[1,5,6]),(32,0,[1,3]),(32,6,[1,4]),(32,12,[1,5]),(33,0,[1,3,4]),(33,6,[1,5]),(33,12,[1,6]),(33,18,[1,7]),(34,0,[1,3,13,14,15]),(34,4,[1,3,27,28,29]),(34,8,[1,3,40,41,42]),(34,12,[3,53,54,55]),(36,0,[0,3,4]),(38,0,[2,3,5]),(38,6,[2,3,6]),(38,12,[2,3,7]),(38,18,[2,3,8]),(38,24,[2,3,9]),(38,30,[2,3,10]),(44,0,[1,2,3]),(44,6,[1,2,4]),(44,12,[1,2,5]),(45,0,[1,2,3]),(45,6,[1,2,3,4]),(46,0,[1,2,3]),(46,8,[1,2,3,6]),(47,0,[1,2,3]),(47,6,[1,2,6]),(51,2,[0,3,4]),(54,0,[1,8,9,10]),(56,0,[1,3,9,10,11]),(56,4,[3,24,25,26]),(67,0,[3,11]),(74,0,[1,2,5]),(74,6,[1,2,6]),(74,12,[1,2,7]),(74,18,[1,2,8]),(75,0,[1,3,4]),(75,4,[1,3,5]),(80,2,[0,1,5]),(81,2,[0,1,5]),(84,0,[0,6,7,8]),(86,0,[0,1,3,4,10,11,12]),(90,0,[0,2,6,10,11]),(98,4,[3,22,23,24]),(105,0,[0,1,7,8]),(107,0,[0,1,7,8]),(108,0,[0,1,7,8]),(109,0,[0,1,7,8]),(110,0,[0,1,7,8]),(112,0,[0,1,7,8]),(114,0,[0,3,4,5]),(115,0,[0,3]),(115,4,[0,3,4,25,26,27]),(127,2,[0,1,7,8,10]),(133,0,[0,2,4,6,13,14,15]),(133,4,[0,2,9,32,33,34]),(141,6,[0,3,5,6,8,11]),(141,10,[0,3,5,6,8,12,13]),(145,0,[0,3]),(146,0,[0,3,4]),(147,0,[0,3]),(164,2,[1,3,28,29,30]),(170,0,[0,1,10,11,12]),(170,4,[0,1,24,25,26])]
def wrs (f d:Nat):Bool:=(ae f 115&&ae d 9)||(ae f 165&&ae d 5)||(ae f 83&&ae d 13)
def env:Env where
 dg:=uJ tabs
 wr:=wrs
 keep:=FW keeps
theorem aM:gI acb:=FU (by kernel_rfl)
end Go.Proofs.YtdmmllcjgjmbbaaGreatDoor.N
end
section
namespace Go.Am
mutual
def QK (p:Ins→Bool):Ins→Bool
 |.mk op r a b n tags l e=>p (.mk op r a b n tags l e)&&(zR p l&&zR p e)
def zR (p:Ins→Bool):List Ins→Bool
 |[]=>true
 |x::r=>QK p x&&zR p r
end
mutual
def mK:Ins→Nat
 |.mk _ _ _ _ _ _ l e=>1+cN l+cN e
def cN:List Ins→Nat
 |[]=>0
 |x::r=>mK x+cN r
end
mutual
def zS:Nat→Ins→Nat
 |d,.mk _ _ _ _ _ _ l e=>max d (max (gy (d+1) l) (gy (d+1) e))
def gy:Nat→List Ins→Nat
 |_,[]=>0
 |d,x::r=>max (zS d x) (gy d r)
end
mutual
def F2:Ins→Nat
 |.mk _ _ _ _ _ tags l e=>max tags.length (max (mL l) (mL e))
def mL:List Ins→Nat
 |[]=>0
 |x::r=>max (F2 x) (mL r)
end
theorem kS : ∀l:List Ins,l.length≤cN l
 |[]=>abb _
 |.mk _ _ _ _ _ t l e::r=>by have:=kS r;simp only[cN,mK,ml];omega
mutual
theorem Mc : ∀x:Ins,mK x≤Cq x
 |.mk _ _ _ _ _ t l e=>by have:=rP l;have:=rP e;simp only[mK,Cq];omega
theorem rP : ∀l:List Ins,cN l≤ou l
 |[]=>abb _
 |x::r=>by have:=Mc x;have:=rP r;simp only[cN,ou];omega
end
mutual
theorem Me : ∀x:Ins,F2 x≤Cq x
 |.mk _ _ _ _ _ t l e=>by have:=xR l;have:=xR e;simp only[F2,Cq];omega
theorem xR : ∀l:List Ins,mL l≤ou l
 |[]=>abb _
 |x::r=>by have:=Me x;have:=xR r;simp only[mL,ou];omega
end
mutual
theorem Mf : ∀(d:Nat) (x:Ins),zS d x≤d+mK x
 |d,.mk _ _ _ _ _ t l e=>by have:=xS (d+1) l;have:=xS (d+1) e;simp only[zS,mK];omega
theorem xS : ∀(d:Nat) (l:List Ins),gy d l≤d+cN l
 |_,[]=>abb _
 |d,x::r=>by have:=Mf d x;have:=xS d r;simp only[gy,cN];omega
end
mutual
theorem F3 : ∀(d:Nat) (x:Ins),zS (d+1) x=zS d x+1
 |d,.mk _ _ _ _ _ t l e=>by
  have h1:=mM (d+1) l
  have h2:=mM (d+1) e
  simp only[zS]
  cases l with
  |nil=>cases e with
   |nil=>simp[gy]
   |cons y e=>rw[h2 (by simp)];simp only[gy];omega
  |cons x l=>cases e with
   |nil=>rw[h1 (by simp)];simp only[gy];omega
   |cons y e=>rw[h1 (by simp),h2 (by simp)];omega
theorem mM : ∀(d:Nat) (l:List Ins),l≠[]→gy (d+1) l=gy d l+1
 |_,[],h=>absurd rfl h
 |d,x::r,_=>by
  have h1:=F3 d x
  cases r with
  |nil=>simp only[gy,h1];omega
  |cons y r=>rw[gy,mM d (y::r) (by simp),h1,gy.eq_2 d x];omega
end
abbrev aL (l:List Ins):AV:= .p (.ps l.length 8 (aq l))
def dO (op r a b nn:Int) (tg:List Int) (ll le:List Ins):AV:= .agg [sI .i64 op,sI .i64 r,sI .u32 a,sI .u32 b,sI .i32 nn,.p (.ps tg.length 1 (dZ .u32 tg)),aL ll,aL le]
def QL:Ins→AV
 |.mk op r a b nn tg ll le=>dO op r a b nn tg ll le
theorem Mg {l m:List Ins} (h:aL l=aL m):l=m:=by
 simp only[AV.p.injEq,PV.ps.injEq] at h
 exact ot h.2.2
theorem rQ {l:List Ins} {k:Nat} {op rs a b nn:Int} {tags:List Int} {ll le:List Ins} (h:l[k]? = some (.mk op rs a b nn tags ll le)) :
  (aq l).getD (k*8) .bw = .sc (.int .i64 op)∧(aq l).getD (k*8+1) .bw = .sc (.int .i64 rs)∧(aq l).getD (k*8+2) .bw = .sc (.int .u32 a)∧(aq l).getD (k*8+3) .bw = .sc (.int .u32 b) ∧
    (aq l).getD (k*8+4) .bw = .sc (.int .i32 nn)∧(aq l).getD (k*8+5) .bw = .ps tags.length 1 (dZ .u32 tags)∧(aq l).getD (k*8+6) .bw = .ps ll.length 8 (aq ll)∧(aq l).getD (k*8+7) .bw = .ps le.length 8 (aq le):=
 have hc:=tJ h
 ⟨hc 0 (by omega),hc 1 (by omega),hc 2 (by omega),hc 3 (by omega),hc 4 (by omega),hc 5 (by omega),hc 6 (by omega),hc 7 (by omega)⟩
abbrev jo:=List (List Ins×Nat)
def fF (st:jo):List PV:=st.flatMap fun e=>[.ps e.1.length 8 (aq e.1),.sc (.int .i64 e.2)]
def Mh (p:Ins→Bool) (st:jo):Bool:=st.all fun e=>zR p e.1
def rR (st:jo):Nat:=(st.map fun e=>cN e.1).sum
def xT (st:jo):Nat:=(st.map fun e=>gy e.2 e.1).foldr max 0
def xU (st:jo):Nat:=(st.map fun e=>mL e.1).foldr max 0
def wS (st:jo):Nat:=(st.map fun e=>2*cN e.1+1).sum
theorem jd : ∀st:jo,(fF st).length=st.length*2
 |[]=>rfl
 |e::st=>by rw[fF,List.flatMap_cons,di,ml];have:=jd st;rw[fF] at this;rw[this];simp;omega
theorem ow (s t:jo):fF (s++t)=fF s++fF t:=by simp[fF]
theorem AK (s:List Nat) (b:Nat):s.foldr max b=max (s.foldr max 0) b:=by
 induction s with
 |nil=>simp
 |cons a s ih=>simp only[List.foldr_cons,ih];omega
theorem qq (p:Ins→Bool) (s t:jo):Mh p (s++t)=(Mh p s&&Mh p t):=by simp[Mh]
theorem kT (s t:jo):rR (s++t)=rR s+rR t:=by simp[rR]
theorem tK (s t:jo):wS (s++t)=wS s+wS t:=by simp[wS]
theorem uL (s t:jo):xT (s++t)=max (xT s) (xT t):=by simp only[xT,ab3,ab9];rw[AK]
theorem uM (s t:jo):xU (s++t)=max (xU s) (xU t):=by simp only[xU,ab3,ab9];rw[AK]
@[simp] theorem vH (p:Ins→Bool) (l:List Ins) (d:Nat):Mh p [(l,d)]=zR p l:=by simp[Mh]
@[simp] theorem xV (l:List Ins) (d:Nat):rR [(l,d)]=cN l:=by simp[rR]
@[simp] theorem UW (l:List Ins) (d:Nat):wS [(l,d)]=2*cN l+1:=by simp[wS]
@[simp] theorem D0 (l:List Ins) (d:Nat):xT [(l,d)]=gy d l:=by simp[xT]
@[simp] theorem D1 (l:List Ins) (d:Nat):xU [(l,d)]=mL l:=by simp[xU]
theorem tN : ∀st:jo,st.length≤wS st
 |[]=>abb _
 |e::st=>by have:=tN st;simp only[wS,oT,List.sum_cons,ml] at this ⊢;omega
def gz (st:jo) (cells:List AV):Prop:=cells.take (st.length*2)=(fF st).map .p
theorem gz.len {st:jo} {cells:List AV} (h:gz st cells):st.length*2≤cells.length:=by
 have:=congrArg List.length h
 rw[List.length_take,my,jd] at this
 omega
theorem gz.top {st:jo} {x:List Ins} {d:Nat} {cells:List AV} (h:gz (st++[(x,d)]) cells):cells.getD (st.length*2) .ah = .p (.ps x.length 8 (aq x))∧cells.getD (st.length*2+1) .ah = .p (.sc (.int .i64 d)):=by
 have hl:=h.len
 simp only[di,ml,ab4] at hl
 have get : ∀j,j<2→cells.getD (st.length*2+j) .ah=((fF (st++[(x,d)])).map AV.p).getD (st.length*2+j) .ah:=by
  intro j hj
  rw[←show cells.take ((st++[(x,d)]).length*2)=_ from h,ch,ch,List.getElem?_take_of_lt (by simp only[di,ml,ab4];omega)]
 have g0:=get 0 (by omega)
 have g1:=get 1 (by omega)
 rw[ow,ab3,ch (l:=ab6 AV.p (fF st)++_),H0 (by simp[jd])] at g0 g1
 simp only[my,jd] at g0 g1
 rw[show st.length*2+0-st.length*2=0 by omega] at g0
 rw[show st.length*2+1-st.length*2=1 by omega] at g1
 exact⟨by simpa[fF] using g0,by simpa[fF] using g1⟩
theorem gz.pop {st:jo} {e:List Ins×Nat} {cells:List AV} (h:gz (st++[e]) cells):gz st cells:=by
 unfold gz at h ⊢
 have:=congrArg (ab8 (st.length*2)) h
 rw[List.take_take,ow,ab3,List.take_left' (by simp[jd])] at this
 rw[←this];congr 1
 simp only[di,ml,ab4];omega
theorem gz.keep {st:jo} {cells:List AV} (h:gz st cells):gz st (cells.map aa):=by
 unfold gz at h ⊢
 rw[←List.map_take,h,List.map_map];rfl
theorem gz.push {st:jo} {cells:List AV} (h:gz st cells) (x:List Ins) (d:Nat):gz (st++[(x,d)]) (cells.take (st.length*2)++[.p (.ps x.length 8 (aq x)),.p (.sc (.int .i64 d))]):=by
 have hl:=h.len
 unfold gz at h ⊢
 rw[List.take_of_length_le (by simp;omega),h,ow,ab3];rfl
end Go.Am
end
section
namespace Go.Proofs.YtdmmllcjgjmbbaaGreatDoor.N
open Go Go.Am
def aH (_:FuncId) (_:List AV) (_:Mem):Option (AV×Mem):=none
abbrev sP (n:Int):PV:= .sc (.int .i64 n)
def recC (l:List Ins) (st:LoopState) (pd:Option Code):aU:= .ob (ke acb 106 0 st pd) [aL l,.ah,.mp 2 0,.p (.sc (.bool false)),.mp 3 0,.mp 4 0,.mp 5 0,.ah,.ah,aL l,.fn (.func 115) [] [.mp 1 0],.ah,.ah,.ah,.ah,.ah,.ah,.ah,.ah,.ah,.ah,.ah,.ah,.ah,.ah,.ah,.ah,.ah,.ah,.ah,.ah,.ah,.ah,.ah,.ah,.ah,.ah]
def JA (l:List Ins) (tags n most:Int) (cells:List AV):Mem:=[recC l .ready none,.pc [.ps l.length 8 (aq l)],.pc [sP 0],.pc [sP tags],.pc [sP n],.pc [sP most],.ob (.gr 157 true) cells]
def acQ (_l:List Ins) (_tags _n _most:Int) (_cells:List AV) (k:Nat) (x:List Ins) (d:Int):FuncId→Nat→Nat→Option (AV→AV):=cM [(115,3,3,sI .i64 k),(115,3,5,.agg [aL x,sI .i64 d]),(115,4,3,sI .i64 k)]
def acR (_l:List Ins) (_tags n _most:Int) (_cells:List AV) (_k:Nat) (_xs:List Ins) (d:Int) (i:Nat) (op r a b nn:Int) (tg:List Int) (ll le:List Ins) (_ok:Bool):FuncId→Nat→Nat→Option (AV→AV):=cM [(115,7,1,dO op r a b nn tg ll le),(115,13,0,sI .i64 ((i+1:Nat):Int)),(115,10,5,sI .i64 (d+1)),(115,12,5,sI .i64 (d+1)),(106,8,1,sI .i64 (n+1))]
def acS (_l:List Ins) (_tags _n _most:Int) (_cells:List AV) (_k:Nat) (_xs:List Ins) (_d:Int) (_i:Nat) (_op _r _a _b _nn:Int) (_tg:List Int) (_ll _le:List Ins) (ok:Bool) (f:FuncId) (_:List AV) (m:Mem):Option (AV×Mem):=cond (ae f 125) (some (sB ok,m)) none
def UX (l:List Ins) (tags n most:Int) (cells:List AV) (k:Nat) (x:List Ins) (d:Int):bH:=gx aH aA [(115,0),(115,2)] [(115,0,1)] [(115,3,4),(115,3,5),(115,4,4)] (acQ l tags n most cells k x d)
def Zj:Sc:= .fin
def HK (l:List Ins) (tags n most:Int) (cells:List AV) (k:Nat) (x:List Ins) (d:Int):az:=
 (.test (decide ((↑(k+1):Int)>0))
 (.need (sI .i64 (sb.wrap ((↑(k+1):Int)-1))=sI sb (↑k:Int))
 (.must (aW (↑k:Int) (k+1)&&true&&true)
 (.must ((0+(aJ k)*2+2).ble cells.length&&((bh (some (ace (TypeDesc.slice 55) "[]api.Instr" 1 24 true 8 8 (some (Value.slice none 0 0)) false #[]).desc) (cells.getD (0+(aJ k)*2) .ah)).snd&&((bh (some (ace (TypeDesc.int sb) "int" 1 8 false 8 8 (some (.int .i64 0)) true #[]).desc) (cells.getD (0+(aJ k)*2+1) .ah)).snd&&true))&&true)
 (.need (AV.agg [(bh (aci (ace (TypeDesc.slice 55) "[]api.Instr" 1 24 true 8 8 (aci (Value.slice acg 0 0)) false #[]).desc) (cells.getD (0+(aJ k)*2) AV.ah)).fst,(bh (aci (ace (TypeDesc.int sb) "int" 1 8 false 8 8 (aci (Value.int sb 0)) true #[]).desc) (cells.getD (0+(aJ k)*2+1) AV.ah)).fst]=AV.agg [aL x,sI sb d])
 (.need (sI .i64 (sb.wrap ((↑(k+1):Int)-1))=sI sb (↑k:Int))
 (.must ((aJ k).ble (k+1)&&true&&true&&true)
 (.at (ak acb env 115 2 [.vy 0,.ms 6 0 (aJ k-0) 2 none,.mp 7 0,.p (.ps x.length 8 (aq x)),sI .i64 (↑x.length:Int),sI .i64 0] ([.ob (ke acb 106 0 acj none) [.p (.ps l.length 8 (aq l)),.ah,.mp 2 0,sB false,.mp 3 0,.mp 4 0,.mp 5 0,.ah,.ah,.p (.ps l.length 8 (aq l)),.fn (acm 115) [] [.mp 1 0],.ah,.ah,.ah,.ah,.ah,.ah,.ah,.ah,.ah,.ah,.ah,.ah,.ah,.ah,.ah,.ah,.ah,.ah,.ah,.ah,.ah,.ah,.ah,.ah,.ah,.ah],.pc [.ps l.length 8 (aq l)],.pc [sP 0],.pc [sP tags],.pc [sP n],.pc [sP most],.ob (aD.gr 157 true) (ab6 aa cells),.ac [.p (.ps x.length 8 (aq x)),sI .i64 d]]) 6 64))))))))
 (.out (.ret (.au []) [.ob (ke acb 106 0 acj none) [.p (.ps l.length 8 (aq l)),.ah,.mp 2 0,sB false,.mp 3 0,.mp 4 0,.mp 5 0,.ah,.ah,.p (.ps l.length 8 (aq l)),.fn (acm 115) [] [.mp 1 0],.ah,.ah,.ah,.ah,.ah,.ah,.ah,.ah,.ah,.ah,.ah,.ah,.ah,.ah,.ah,.ah,.ah,.ah,.ah,.ah,.ah,.ah,.ah,.ah,.ah,.ah],.pc [.ps l.length 8 (aq l)],.pc [sP 0],.pc [sP tags],.pc [sP n],.pc [sP most]])))
theorem Mi (l:List Ins) (tags n most:Int) (cells:List AV) (k:Nat) (x:List Ins) (d:Int):grow acb env (UX l tags n most cells k x d) 1000000 true (ak acb env 115 0 ([AV.vy 0,AV.ms 6 0 (k+1) 2 acg]) (JA l tags n most cells) 6 64) Zj atEnd=HK l tags n most cells k x d:=by kernel_rfl
def UY:bH:=aT aH aA [(115,0),(115,2)] [] []
def Zk:Sc:= .fin
def QM (l:List Ins) (tags n most:Int) (_cells:List AV):az:=
 (.out (.ret (.au []) [.ob (ke acb 106 0 acj none) [.p (.ps l.length 8 (aq l)),.ah,.mp 2 0,sB false,.mp 3 0,.mp 4 0,.mp 5 0,.ah,.ah,.p (.ps l.length 8 (aq l)),.fn (acm 115) [] [.mp 1 0],.ah,.ah,.ah,.ah,.ah,.ah,.ah,.ah,.ah,.ah,.ah,.ah,.ah,.ah,.ah,.ah,.ah,.ah,.ah,.ah,.ah,.ah,.ah,.ah,.ah,.ah],.pc [.ps l.length 8 (aq l)],.pc [sP 0],.pc [sP tags],.pc [sP n],.pc [sP most]]))
theorem Mj (l:List Ins) (tags n most:Int) (cells:List AV):grow acb env UY 1000000 true (ak acb env 115 0 ([AV.vy 0,AV.ms 6 0 0 2 acg]) ([recC l acj acg,aU.pc [PV.ps l.length 8 (aq l)],aU.pc [sP 0],aU.pc [sP tags],aU.pc [sP n],aU.pc [sP most],aU.ob (aD.gr 157 true) cells]) 6 64) Zk atEnd=QM l tags n most cells:=by kernel_rfl
def UZ (l:List Ins) (tags n most:Int) (cells:List AV) (k:Nat) (xs:List Ins) (d:Int) (i:Nat) (op r a b nn:Int) (tg:List Int) (ll:List Ins) (le:List Ins) (ok:Bool):bH:=gx (acS l tags n most cells k xs d i op r a b nn tg ll le ok) aA [(115,0),(115,2)] [(115,0,3),(106,0,0),(115,0,5),(115,0,6)] [(115,7,0),(115,7,1),(115,10,8),(115,12,8)] (acR l tags n most cells k xs d i op r a b nn tg ll le ok)
def Zl:Sc:= .fin
def mN (l:List Ins) (tags n most:Int) (cells:List AV) (k:Nat) (xs:List Ins) (d:Int) (i:Nat) (op r a b nn:Int) (tg:List Int) (ll:List Ins) (le:List Ins) (ok:Bool):az:=
 (.test (decide ((↑i:Int)<(↑xs.length:Int)))
 (.must (aW (↑i:Int) xs.length&&true&&true)
 (.must (isInt sb (aF (aq xs) (aJ i*8))&&(isInt sb (aF (aq xs) (aJ i*8+1))&&(isInt abY (aF (aq xs) (aJ i*8+1+1))&&(isInt abY (aF (aq xs) (aJ i*8+1+1+1))&&(isInt IntKind.i32 (aF (aq xs) (aJ i*8+1+1+1+1))&&(bB (aF (aq xs) (aJ i*8+1+1+1+1+1))&&(bB (aF (aq xs) (aJ i*8+1+1+1+1+1+1))&&(bB (aF (aq xs) (aJ i*8+1+1+1+1+1+1+1))&&true)))))))&&true)
 (.need (AV.agg [sI .i64 (av (aF (aq xs) (aJ i*8))),sI .i64 (av (aF (aq xs) (aJ i*8+1))),sI .u32 (av (aF (aq xs) (aJ i*8+1+1))),sI .u32 (av (aF (aq xs) (aJ i*8+1+1+1))),sI .i32 (av (aF (aq xs) (aJ i*8+1+1+1+1))),AV.p (PV.ps (aE (aF (aq xs) (aJ i*8+1+1+1+1+1))) (bC (aF (aq xs) (aJ i*8+1+1+1+1+1))) (aB (aF (aq xs) (aJ i*8+1+1+1+1+1)))),AV.p (PV.ps (aE (aF (aq xs) (aJ i*8+1+1+1+1+1+1))) (bC (aF (aq xs) (aJ i*8+1+1+1+1+1+1))) (aB (aF (aq xs) (aJ i*8+1+1+1+1+1+1)))),AV.p (PV.ps (aE (aF (aq xs) (aJ i*8+1+1+1+1+1+1+1))) (bC (aF (aq xs) (aJ i*8+1+1+1+1+1+1+1))) (aB (aF (aq xs) (aJ i*8+1+1+1+1+1+1+1))))]=dO op r a b nn tg ll le)
 (.call ⟨125,[.agg [sI .i64 op,sI .i64 r,sI .u32 a,sI .u32 b,sI .i32 nn,.p (.ps tg.length 1 (dZ abY tg)),.p (.ps ll.length 8 (aq ll)),.p (.ps le.length 8 (aq le))]],[],.p (.sc (.bool ok)),[]⟩
 (.test (!ok)
 (.out (.ret (.au []) [.ob (ke acb 106 0 (fH (some Code.ret)) (some Code.ret)) [.p (.ps l.length 8 (aq l)),.ah,.mp 2 0,sB false,.mp 3 0,.mp 4 0,.mp 5 0,.ah,.ah,.p (.ps l.length 8 (aq l)),.fn (acm 115) [] [.mp 1 0],.ah,.ah,.ah,.ah,.ah,.ah,.ah,.ah,.ah,.ah,.ah,.ah,.ah,.ah,.ah,.ah,.ah,.ah,.ah,.ah,.ah,.ah,.ah,.ah,.ah,.ah],.pc [.ps l.length 8 (aq l)],.pc [sP 2],.pc [sP tags],.pc [sP n],.pc [sP most]]))
 (.need (sI .i64 (sb.wrap (n+1))=sI sb (n+1))
 (.test (decide ((↑ll.length:Int)>0))
 (.need (sI .i64 (sb.wrap (d+1))=sI sb (d+1))
 (.must (((k+1)*32).ble gi&&(k+1).ble gi&&((k*2).ble cells.length&&true)&&true)
 (.test (decide ((↑le.length:Int)>0))
 (.need (sI .i64 (sb.wrap (d+1))=sI sb (d+1))
 (.must (((k+1+1)*32).ble gi&&(k+1+1).ble gi&&(((k+1)*2).ble (ab8 (k*2) cells++[.p (.ps ll.length 8 (aq ll)),sI .i64 (d+1)]).length&&true)&&true)
 (.need (sI .i64 (sb.wrap ((↑i:Int)+1))=sI sb (↑(i+1):Int))
 (.at (ak acb env 115 2 [.vy 0,.ms 6 0 (k+1+1) 2 none,.mp 7 0,.p (.ps xs.length 8 (aq xs)),sI .i64 (↑xs.length:Int),sI .i64 (↑(i+1):Int)] ([.ob (ke acb 106 0 (fH none) none) [.p (.ps l.length 8 (aq l)),.ah,.mp 2 0,sB false,.mp 3 0,.mp 4 0,.mp 5 0,.ah,.ah,.p (.ps l.length 8 (aq l)),.fn (acm 115) [] [.mp 1 0],.ah,.ah,.ah,.ah,.ah,.ah,.ah,.ah,.ah,.ah,.ah,.ah,.ah,.ah,.ah,.ah,.ah,.ah,.ah,.ah,.ah,.ah,.ah,.ah,.ah,.ah],.pc [.ps l.length 8 (aq l)],.pc [sP 0],.pc [sP (bif false then aco tags (↑tg.length:Int) else acx tags (↑tg.length:Int))],.pc [sP (n+1)],.pc [sP (bif false then aco most d else acx most d)],.ob (aD.gr 157 true) (ab6 aa (ab8 ((k+1)*2) (ab8 (k*2) cells++[.p (.ps ll.length 8 (aq ll)),sI .i64 (d+1)])++[.p (.ps le.length 8 (aq le)),sI .i64 (d+1)])),.ac [.p (.ps xs.length 8 (aq xs)),sI .i64 d]]) 6 64)))))
 (.need (sI .i64 (sb.wrap ((↑i:Int)+1))=sI sb (↑(i+1):Int))
 (.at (ak acb env 115 2 [.vy 0,.ms 6 0 (k+1) 2 none,.mp 7 0,.p (.ps xs.length 8 (aq xs)),sI .i64 (↑xs.length:Int),sI .i64 (↑(i+1):Int)] ([.ob (ke acb 106 0 (fH none) none) [.p (.ps l.length 8 (aq l)),.ah,.mp 2 0,sB false,.mp 3 0,.mp 4 0,.mp 5 0,.ah,.ah,.p (.ps l.length 8 (aq l)),.fn (acm 115) [] [.mp 1 0],.ah,.ah,.ah,.ah,.ah,.ah,.ah,.ah,.ah,.ah,.ah,.ah,.ah,.ah,.ah,.ah,.ah,.ah,.ah,.ah,.ah,.ah,.ah,.ah,.ah,.ah],.pc [.ps l.length 8 (aq l)],.pc [sP 0],.pc [sP (bif false then aco tags (↑tg.length:Int) else acx tags (↑tg.length:Int))],.pc [sP (n+1)],.pc [sP (bif false then aco most d else acx most d)],.ob (aD.gr 157 true) (ab6 aa (ab8 (k*2) cells++[.p (.ps ll.length 8 (aq ll)),sI .i64 (d+1)])),.ac [.p (.ps xs.length 8 (aq xs)),sI .i64 d]]) 6 64))))))
 (.test (decide ((↑le.length:Int)>0))
 (.need (sI .i64 (sb.wrap (d+1))=sI sb (d+1))
 (.must (((k+1)*32).ble gi&&(k+1).ble gi&&((k*2).ble cells.length&&true)&&true)
 (.need (sI .i64 (sb.wrap ((↑i:Int)+1))=sI sb (↑(i+1):Int))
 (.at (ak acb env 115 2 [.vy 0,.ms 6 0 (k+1) 2 none,.mp 7 0,.p (.ps xs.length 8 (aq xs)),sI .i64 (↑xs.length:Int),sI .i64 (↑(i+1):Int)] ([.ob (ke acb 106 0 (fH none) none) [.p (.ps l.length 8 (aq l)),.ah,.mp 2 0,sB false,.mp 3 0,.mp 4 0,.mp 5 0,.ah,.ah,.p (.ps l.length 8 (aq l)),.fn (acm 115) [] [.mp 1 0],.ah,.ah,.ah,.ah,.ah,.ah,.ah,.ah,.ah,.ah,.ah,.ah,.ah,.ah,.ah,.ah,.ah,.ah,.ah,.ah,.ah,.ah,.ah,.ah,.ah,.ah],.pc [.ps l.length 8 (aq l)],.pc [sP 0],.pc [sP (bif false then aco tags (↑tg.length:Int) else acx tags (↑tg.length:Int))],.pc [sP (n+1)],.pc [sP (bif false then aco most d else acx most d)],.ob (aD.gr 157 true) (ab6 aa (ab8 (k*2) cells++[.p (.ps le.length 8 (aq le)),sI .i64 (d+1)])),.ac [.p (.ps xs.length 8 (aq xs)),sI .i64 d]]) 6 64)))))
 (.need (sI .i64 (sb.wrap ((↑i:Int)+1))=sI sb (↑(i+1):Int))
 (.at (ak acb env 115 2 [.vy 0,.ms 6 0 k 2 none,.mp 7 0,.p (.ps xs.length 8 (aq xs)),sI .i64 (↑xs.length:Int),sI .i64 (↑(i+1):Int)] ([.ob (ke acb 106 0 (fH none) none) [.p (.ps l.length 8 (aq l)),.ah,.mp 2 0,sB false,.mp 3 0,.mp 4 0,.mp 5 0,.ah,.ah,.p (.ps l.length 8 (aq l)),.fn (acm 115) [] [.mp 1 0],.ah,.ah,.ah,.ah,.ah,.ah,.ah,.ah,.ah,.ah,.ah,.ah,.ah,.ah,.ah,.ah,.ah,.ah,.ah,.ah,.ah,.ah,.ah,.ah,.ah,.ah],.pc [.ps l.length 8 (aq l)],.pc [sP 0],.pc [sP (bif false then aco tags (↑tg.length:Int) else acx tags (↑tg.length:Int))],.pc [sP (n+1)],.pc [sP (bif false then aco most d else acx most d)],.ob (aD.gr 157 true) (ab6 aa cells),.ac [.p (.ps xs.length 8 (aq xs)),sI .i64 d]]) 6 64)))))))))))
 (.at (ak acb env 115 0 [.vy 0,.ms 6 0 k 2 none] ([.ob (ke acb 106 0 acj none) [.p (.ps l.length 8 (aq l)),.ah,.mp 2 0,sB false,.mp 3 0,.mp 4 0,.mp 5 0,.ah,.ah,.p (.ps l.length 8 (aq l)),.fn (acm 115) [] [.mp 1 0],.ah,.ah,.ah,.ah,.ah,.ah,.ah,.ah,.ah,.ah,.ah,.ah,.ah,.ah,.ah,.ah,.ah,.ah,.ah,.ah,.ah,.ah,.ah,.ah,.ah,.ah],.pc [.ps l.length 8 (aq l)],.pc [sP 0],.pc [sP tags],.pc [sP n],.pc [sP most],.ob (aD.gr 157 true) (ab6 aa cells)]) 6 64)))
theorem xW (l:List Ins) (tags n most:Int) (cells:List AV) (k:Nat) (xs:List Ins) (d:Int) (i:Nat) (op r a b nn:Int) (tg:List Int) (ll:List Ins) (le:List Ins) (ok:Bool):grow acb env (UZ l tags n most cells k xs d i op r a b nn tg ll le ok) 1000000 true (ak acb env 115 2 ([AV.vy 0,AV.ms 6 0 k 2 acg,AV.mp 7 0,aL xs,sI sb (↑xs.length:Int),sI sb (↑i:Int)]) (JA l tags n most cells++[aU.ac [aL xs,sI sb d]]) 6 64) Zl atEnd=mN l tags n most cells k xs d i op r a b nn tg ll le ok:=by kernel_rfl
def acT (l:List Ins) (tags n most:Int):Out:= .ret (.au []) [recC l .ready none,.pc [.ps l.length 8 (aq l)],.pc [sP 0],.pc [sP tags],.pc [sP n],.pc [sP most]]
def Zm (l:List Ins) (tags n most:Int):Out:= .ret (.au []) [recC l .done (some .ret),.pc [.ps l.length 8 (aq l)],.pc [sP 2],.pc [sP tags],.pc [sP n],.pc [sP most]]
def qu:Nat:=1000000000000
def AL (p:Ins→Bool) (l:List Ins) (st:jo) (tags n most:Nat) (o:Out):Prop:=
 (Mh p st=true∧o=acT l (max tags (xU st):Nat) (n+rR st:Nat) (max most (xT st):Nat))∨(Mh p st=false ∧ ∃t k m,o=Zm l t k m)
section
variable (p:Ins→Bool) (hp : ∀x:Ins,an acb env 125 [QL x] [] (sB (p x)) []) (l:List Ins)
include hp in
theorem JB (N:Nat) (ih : ∀(st:jo) (cells:List AV) (tags n most:Nat),wS st<N→gz st cells→n+rR st≤qu→wS st≤qu→(∀e∈st,e.2+cN e.1≤qu) →
   ∃o,cO acb env (ak acb env 115 0 [.vy 0,.ms 6 0 st.length 2 none] (JA l tags n most cells) 6 64) o∧AL p l st tags n most o) (xs:List Ins) (hxs:xs.length≤qu) (d:Nat) :
  ∀(r i:Nat) (st:jo) (cells:List AV) (tags n most:Nat),i+r=xs.length→wS st+2*cN (xs.drop i)<N→gz st cells→n+rR st+cN (xs.drop i)≤qu→wS st+2*cN (xs.drop i)≤qu→(∀e∈st,e.2+cN e.1≤qu)→d+cN (xs.drop i)≤qu →
   ∃o,cO acb env (ak acb env 115 2 [.vy 0,.ms 6 0 st.length 2 none,.mp 7 0,aL xs,sI .i64 xs.length,sI .i64 i] (JA l tags n most cells++[.ac [aL xs,sI .i64 d]]) 6 64) o∧AL p l (st++[(xs.drop i,d)]) tags n most o:=by
 intro r
 induction r with
 |zero=>
  intro i st cells tags n most hi hN ht hn hw he hd
  have h1:xs.drop i=[]:=List.drop_eq_nil_of_le (by omega)
  rw[h1] at hN hn hw ⊢
  simp only[cN] at hN hn hw
  obtain⟨o,ho,hq⟩:=ih st (cells.map aa) tags n most (by omega) ht.keep (by omega) (by omega) he
  refine⟨o,aj aM (xW l tags n most cells st.length xs d i 0 0 0 0 0 [] [] [] true) ?_,?_⟩
  · have h2 : ¬((i:Int)<xs.length):=by omega
    simp only[mN,bF,az.ok]
    exact⟨fun h=>absurd (by simpa using h) h2,fun _=>ho⟩
  · unfold AL at hq ⊢
    rw[qq,kT,uM,uL]
    simpa[zR,cN,mL,gy] using hq
 |succ r ihr=>
  intro i st cells tags n most hi hN ht hn hw he hd
  have Aj:i<xs.length:=by omega
  have U0:xs[i]? = some xs[i]:=cb Aj
  have hdr:xs.drop i=xs[i]::xs.drop (i+1):=List.drop_eq_getElem_cons Aj
  rw[hdr] at hN hn hw hd ⊢
  generalize xs[i]=x at *
  generalize hys:xs.drop (i+1)=ys at *
  obtain⟨op,rs,a,b,nn,tg,ll,le⟩:=x
  obtain⟨c0,c1,c2,c3,c4,c5,c6,c7⟩:=rQ U0
  have hpx:=hp (.mk op rs a b nn tg ll le)
  have Qf:qu=1000000000000:=rfl
  have Cr:gi=70368744177664:=rfl
  simp only[cN,mK] at hN hn hw hd
  have Qd:=tN st
  have Lm:=ht.len
  have w1:sb.wrap ((i:Int)+1)=((i+1:Nat):Int):=by rw[aN (by omega) (by omega)];rfl
  have w2:sb.wrap ((d:Int)+1)=((d+1:Nat):Int):=by rw[aN (by omega) (by omega)];rfl
  have w3:sb.wrap ((n:Int)+1)=((n+1:Nat):Int):=by rw[aN (by omega) (by omega)];rfl
  have P1:(i:Int)<(xs.length:Int):=by omega
  cases hok:p (.mk op rs a b nn tg ll le) with
  |false=>
   refine⟨Zm l tags n most,aj aM (xW l tags n most cells st.length xs d i op rs a b nn tg ll le false) ?_,.inr ⟨?_,_,_,_,rfl⟩⟩
   · simp only[mN,bF,az.ok,acy,fi,aca,c0,c1,c2,c3,c4,c5,c6,c7,isInt,bB,av,aE,bC,aB,aW]
     refine⟨fun _=>⟨by simp[P1],by simp,rfl,?_,fun _=>rfl,fun h=>by cases h⟩,fun h=>absurd P1 (by simpa using h)⟩
     rw[hok] at hpx;exact hpx
   · rw[qq,vH,zR,QK,hok];simp
  |true=>
   have next : ∀(s:jo) (cs:List AV),gz (st++s) cs→wS s≤2*(cN ll+cN le)+2→rR s=cN ll+cN le→Mh p s=(zR p ll&&zR p le)→xU s=max (mL ll) (mL le)→xT s=max (gy (d+1) ll) (gy (d+1) le)→(∀e∈s,e.2+cN e.1≤qu) →
     ∃o,cO acb env (ak acb env 115 2 [.vy 0,.ms 6 0 (st++s).length 2 none,.mp 7 0,aL xs,sI .i64 xs.length,sI .i64 (i+1:Nat)] (JA l (max tags tg.length:Nat) (n+1:Nat) (max most d:Nat) cs++[.ac [aL xs,sI .i64 d]]) 6 64) o∧AL p l (st++[(.mk op rs a b nn tg ll le::ys,d)]) tags n most o:=by
    intro s cs hts hws hns hos TM hds hes
    obtain⟨o,ho,hq⟩:=ihr (i+1) (st++s) cs (max tags tg.length) (n+1) (max most d) (by omega) (by rw[tK,hys];omega) hts (by rw[kT,hys];omega) (by rw[tK,hys];omega)
     (fun e hm=>(List.mem_append.1 hm).elim (he e) (hes e)) (by rw[hys];omega)
    refine⟨o,ho,?_⟩
    rw[hys] at hq
    unfold AL at hq ⊢
    simp only[qq,kT,uM,uL,vH,xV,D1,D0,hos,hns,TM,hds] at hq ⊢
    simp only[zR,QK,cN,mK,mL,F2,gy,zS,hok,Bool.true_and]
    rcases hq with⟨q1,q2⟩ | ⟨q1,q2⟩
    · refine .inl ⟨by rw[Bool.and_assoc] at q1;exact q1,?_⟩
      rw[q2]
      congr 1<;>congr 1<;>omega
    · exact .inr ⟨by rw[Bool.and_assoc] at q1;exact q1,q2⟩
   have tree:=xW l tags n most cells st.length xs d i op rs a b nn tg ll le true
   have QN:an acb env 125 [dO op rs a b nn tg ll le] [] (sB true) []:=by rw[hok] at hpx;exact hpx
   have mx1:max (tags:Int) (tg.length:Int)=((max tags tg.length:Nat):Int):=by omega
   have mx2:max (most:Int) (d:Int)=((max most d:Nat):Int):=by omega
   have nl : ∀z:List Ins,z≠[]→0<(z.length:Int):=fun z hz=>by have:=List.length_pos_iff.2 hz;omega
   by_cases Qc:ll=[]
   · by_cases hle:le=[]
     · subst Qc;subst hle
       obtain⟨o,ho,hq⟩:=next [] (cells.map aa) (by rw[Pl];exact ht.keep) (by simp[wS,cN]) (by simp[rR,cN]) (by simp[Mh,zR]) (by simp[xU,mL]) (by simp[xT,gy]) (fun _ h=>by cases h)
       refine⟨o,aj aM tree ?_,hq⟩
       simp only[mN,bF,az.ok,acy,fi,aca,c0,c1,c2,c3,c4,c5,c6,c7,isInt,bB,av,aE,bC,aB,aW,w1,w2,w3,cond_false,mx1,mx2]
       rw[Pl] at ho
       exact⟨fun _=>⟨by simp[P1],by simp,rfl,QN,fun h=>(by cases h),fun _=>⟨rfl,fun h=>(by simp at h),fun _=>⟨fun h=>(by simp at h),fun _=>⟨(by trivial),ho⟩⟩⟩⟩,fun h=>absurd P1 (by simpa using h)⟩
     · subst Qc
       have nle:=nl le hle
       obtain⟨o,ho,hq⟩:=next [(le,d+1)] _ (ht.push le (d+1)).keep (by simp[cN]) (by simp[cN]) (by simp[zR]) (by simp[mL]) (by simp[gy]) (fun e h=>by simp only[ab5] at h;subst h;simp only;omega)
       refine⟨o,aj aM tree ?_,hq⟩
       simp only[mN,bF,az.ok,acy,fi,aca,c0,c1,c2,c3,c4,c5,c6,c7,isInt,bB,av,aE,bC,aB,aW,w1,w2,w3,cond_false,mx1,mx2]
       rw[di] at ho
       exact⟨fun _=>⟨by simp[P1],by simp,rfl,QN,fun h=>(by cases h),fun _=>⟨rfl,fun h=>(by simp at h),fun _=>⟨fun _=>⟨rfl,(by simp;omega),(by trivial),ho⟩,fun h=>absurd nle (by simpa using h)⟩⟩⟩,fun h=>absurd P1 (by simpa using h)⟩
   · have nll:=nl ll Qc
     by_cases hle:le=[]
     · subst hle
       obtain⟨o,ho,hq⟩:=next [(ll,d+1)] _ (ht.push ll (d+1)).keep (by simp[cN]) (by simp[cN]) (by simp[zR]) (by simp[mL]) (by simp[gy]) (fun e h=>by simp only[ab5] at h;subst h;simp only;omega)
       refine⟨o,aj aM tree ?_,hq⟩
       simp only[mN,bF,az.ok,acy,fi,aca,c0,c1,c2,c3,c4,c5,c6,c7,isInt,bB,av,aE,bC,aB,aW,w1,w2,w3,cond_false,mx1,mx2]
       rw[di] at ho
       exact⟨fun _=>⟨by simp[P1],by simp,rfl,QN,fun h=>(by cases h),fun _=>⟨rfl,fun _=>⟨rfl,(by simp;omega),fun h=>(by simp at h),fun _=>⟨(by trivial),ho⟩⟩,fun h=>absurd nll (by simpa using h)⟩⟩,fun h=>absurd P1 (by simpa using h)⟩
     · have nle:=nl le hle
       have Lw:=(ht.push ll (d+1)).push le (d+1)
       rw[List.append_assoc] at Lw
       obtain⟨o,ho,hq⟩:=next [(ll,d+1),(le,d+1)] _ Lw.keep (by simp[wS];omega) (by simp[rR]) (by simp[Mh]) (by simp[xU]) (by simp[xT]) (fun e h=>by simp only[List.mem_cons,List.not_mem_nil,or_false] at h;rcases h with rfl | rfl<;>simp only<;>omega)
       refine⟨o,aj aM tree ?_,hq⟩
       simp only[mN,bF,az.ok,acy,fi,aca,c0,c1,c2,c3,c4,c5,c6,c7,isInt,bB,av,aE,bC,aB,aW,w1,w2,w3,cond_false,mx1,mx2]
       simp only[di,ml,ab4,aca] at ho
       exact⟨fun _=>⟨by simp[P1],by simp,rfl,QN,fun h=>(by cases h),fun _=>⟨rfl,fun _=>⟨rfl,(by simp;omega),fun _=>⟨rfl,(by simp;omega),(by trivial),ho⟩,fun h=>absurd nle (by simpa using h)⟩,fun h=>absurd nll (by simpa using h)⟩⟩,fun h=>absurd P1 (by simpa using h)⟩
include hp in
theorem AM : ∀(N:Nat) (st:jo) (cells:List AV) (tags n most:Nat),wS st<N→gz st cells→n+rR st≤qu→wS st≤qu→(∀e∈st,e.2+cN e.1≤qu) →
   ∃o,cO acb env (ak acb env 115 0 [.vy 0,.ms 6 0 st.length 2 none] (JA l tags n most cells) 6 64) o∧AL p l st tags n most o
 |0,_,_,_,_,_,h,_,_,_,_=>by omega
 |N+1,st,cells,tags,n,most,hN,ht,hn,hw,he=>by
  rcases List.eq_nil_or_concat st with rfl | ⟨s,⟨x,d⟩,rfl⟩
  · exact⟨_,aj aM (Mj l tags n most cells) rfl,.inl ⟨rfl,(by simp[xU,rR,xT];rfl)⟩⟩
  · rw[List.concat_eq_append] at *
    have hx:=he (x,d) (by simp)
    rw[tK,UW] at hN hw
    rw[kT,xV] at hn
    obtain⟨t0,t1⟩:=ht.top
    have Lm:=ht.len
    have Qd:=tN s
    have Qf:qu=1000000000000:=rfl
    have P0:=kS x
    simp only[di,ml,ab4] at Lm hx
    obtain⟨o,ho,hq⟩:=JB p hp l N (fun st cells tags n most=>AM N st cells tags n most) x (by omega) d x.length 0 s (cells.map aa) tags n most (by omega) (by rw[ab1];omega) ht.pop.keep (by rw[ab1];omega) (by rw[ab1];omega)
     (fun e hm=>he e (List.mem_append_left _ hm)) (by rw[ab1];omega)
    rw[ab1] at hq
    refine⟨o,?_,hq⟩
    have w1:sb.wrap (((s.length+1:Nat):Int)-1)=(s.length:Int):=by rw[aN (by omega) (by omega)];omega
    rw[di,List.length_singleton]
    refine aj aM (Mi l tags n most cells s.length x d) ?_
    simp only[HK,bF,az.ok,acy,pw,t0,t1,bh,iA,w1,isInt,bB,av,aE,bC,aB,aW,Nat.sub_zero]
    exact⟨fun _=>⟨(by trivial),(by simp;omega),(by simp;omega),(by trivial),(by trivial),(by simp),ho⟩,fun h=>absurd h (by simp)⟩
end
end Go.Proofs.YtdmmllcjgjmbbaaGreatDoor.N
end
section
namespace Go.Proofs.YtdmmllcjgjmbbaaGreatDoor.N
open Go Go.Am
section
variable (l:List Ins)
end
end Go.Proofs.YtdmmllcjgjmbbaaGreatDoor.N
end
section
namespace Go.Proofs.YtdmmllcjgjmbbaaGreatDoor.N
open Go Go.Am
def acV (l:List Ins) (tags n most:Int) (f:FuncId) (_:List AV) (_:Mem):Option (AV×Mem):=cond (ae f 115) (some (.au [],[recC l .ready none,.pc [.ps l.length 8 (aq l)],.pc [sP 0],.pc [sP tags],.pc [sP n],.pc [sP most]])) none
def acW (l:List Ins) (tags n most:Int) (f:FuncId) (_:List AV) (_:Mem):Option (AV×Mem):=cond (ae f 115) (some (.au [],[recC l .done (some .ret),.pc [.ps l.length 8 (aq l)],.pc [sP 2],.pc [sP tags],.pc [sP n],.pc [sP most]])) none
def U1:bH:=aT aH aA [(115,0)] [] []
def Zn:Sc:= .fin
def QO (l:List Ins):az:=
 (.at (ak acb env 115 0 [.vy 0,.ms 6 0 1 2 none] ([.ob (ke acb 106 0 acj none) [.p (.ps l.length 8 (aq l)),.ah,.mp 2 0,sB false,.mp 3 0,.mp 4 0,.mp 5 0,.ah,.ah,.p (.ps l.length 8 (aq l)),.fn (acm 115) [] [.mp 1 0],.ah,.ah,.ah,.ah,.ah,.ah,.ah,.ah,.ah,.ah,.ah,.ah,.ah,.ah,.ah,.ah,.ah,.ah,.ah,.ah,.ah,.ah,.ah,.ah,.ah,.ah],.pc [.ps l.length 8 (aq l)],.pc [sP 0],.pc [sP 0],.pc [sP 0],.pc [sP 0],.ob (aD.gr 157 true) [.p (.ps l.length 8 (aq l)),sI .i64 1]]) 6 64))
theorem D2 (l:List Ins):aG acb env U1 1000000 115 ([AV.vy 0,AV.mp 1 0]) ([recC l acj acg,aU.pc [PV.ps l.length 8 (aq l)],aU.pc [sP 0],aU.pc [sP 0],aU.pc [sP 0],aU.pc [sP 0]]) Zn=QO l:=by kernel_rfl
def QS (l:List Ins) (tags n most:Int):bH:=aT (acV l tags n most) aA [] [(106,10,3),(106,10,7),(106,0,0)] []
def U2:Sc:=(.fork (.lit (.lit .fin)) (.fork (.lit .fin) .fin))
def Ml (l:List Ins) (tags n most:Int):az:=
 (.call ⟨115,[.vy 0,.mp 1 0],[.ob (ke acb 106 0 acj none) [.p (.ps l.length 8 (aq l)),.ah,.mp 2 0,sB false,.mp 3 0,.mp 4 0,.mp 5 0,.ah,.ah,.p (.ps l.length 8 (aq l)),.fn (acm 115) [] [.mp 1 0],.ah,.ah,.ah,.ah,.ah,.ah,.ah,.ah,.ah,.ah,.ah,.ah,.ah,.ah,.ah,.ah,.ah,.ah,.ah,.ah,.ah,.ah,.ah,.ah,.ah,.ah],.pc [.ps l.length 8 (aq l)],.pc [sP 0],.pc [sP 0],.pc [sP 0],.pc [sP 0]],.au [],[.ob (ke acb 106 0 acj none) [.p (.ps l.length 8 (aq l)),.ah,.mp 2 0,sB false,.mp 3 0,.mp 4 0,.mp 5 0,.ah,.ah,.p (.ps l.length 8 (aq l)),.fn (acm 115) [] [.mp 1 0],.ah,.ah,.ah,.ah,.ah,.ah,.ah,.ah,.ah,.ah,.ah,.ah,.ah,.ah,.ah,.ah,.ah,.ah,.ah,.ah,.ah,.ah,.ah,.ah,.ah,.ah],.pc [.ps l.length 8 (aq l)],.pc [sP 0],.pc [sP tags],.pc [sP n],.pc [sP most]]⟩
 (.test (decide (n>262144))
 (.out (.ret (sI .i64 141) []))
 (.test (decide (tags>16384))
 (.out (.ret (sI .i64 141) []))
 (.test (decide (most>900))
 (.out (.ret (sI .i64 141) []))
 (.out (.ret (sI .i64 0) []))))))
theorem JC (l:List Ins) (tags n most:Int):aG acb env (QS l tags n most) 1000000 106 ([aL l]) ([]) U2=Ml l tags n most:=by kernel_rfl
def QT (l:List Ins) (tags n most:Int):bH:=aT (acW l tags n most) aA [] [] []
def U3:Sc:= .fin
def Mm (l:List Ins) (tags n most:Int):az:=
 (.call ⟨115,[.vy 0,.mp 1 0],[.ob (ke acb 106 0 acj none) [.p (.ps l.length 8 (aq l)),.ah,.mp 2 0,sB false,.mp 3 0,.mp 4 0,.mp 5 0,.ah,.ah,.p (.ps l.length 8 (aq l)),.fn (acm 115) [] [.mp 1 0],.ah,.ah,.ah,.ah,.ah,.ah,.ah,.ah,.ah,.ah,.ah,.ah,.ah,.ah,.ah,.ah,.ah,.ah,.ah,.ah,.ah,.ah,.ah,.ah,.ah,.ah],.pc [.ps l.length 8 (aq l)],.pc [sP 0],.pc [sP 0],.pc [sP 0],.pc [sP 0]],.au [],[.ob (ke acb 106 0 LoopState.done (some Code.ret)) [.p (.ps l.length 8 (aq l)),.ah,.mp 2 0,sB false,.mp 3 0,.mp 4 0,.mp 5 0,.ah,.ah,.p (.ps l.length 8 (aq l)),.fn (acm 115) [] [.mp 1 0],.ah,.ah,.ah,.ah,.ah,.ah,.ah,.ah,.ah,.ah,.ah,.ah,.ah,.ah,.ah,.ah,.ah,.ah,.ah,.ah,.ah,.ah,.ah,.ah,.ah,.ah],.pc [.ps l.length 8 (aq l)],.pc [sP 2],.pc [sP tags],.pc [sP n],.pc [sP most]]⟩
 (.out (.ret (sI .i64 2) [])))
theorem JD (l:List Ins) (tags n most:Int):aG acb env (QT l tags n most) 1000000 106 ([aL l]) ([]) U3=Mm l tags n most:=by kernel_rfl
theorem QU (l:List Ins):gz [(l,1)] [.p (.ps l.length 8 (aq l)),.p (.sc (.int .i64 1))]:=rfl
def ig (p:Ins→Bool) (l:List Ins):Int:=if zR p l=false then 2 else if 262144<cN l∨16384<mL l∨900<gy 1 l then 141 else 0
theorem xX {p:Ins→Bool} (hp : ∀x:Ins,an acb env 125 [QL x] [] (sB (p x)) []) (l:List Ins) (h:cN l≤100000000000):an acb env 106 [aL l] [] (sI .i64 (ig p l)) []:=by
 have Qf:qu=1000000000000:=rfl
 obtain⟨o,ho,hq⟩:=AM p hp l (2*cN l+2) [(l,1)] _ 0 0 0 (by simp) (QU l) (by simp;omega) (by simp;omega) (fun e he=>by simp only[ab5] at he;subst he;simp only;omega)
 rcases hq with⟨q1,rfl⟩ | ⟨q1,t,k,m,rfl⟩
 · have hd:an acb env 115 [.vy 0,.mp 1 0] _ (.au []) _:=af aM (D2 l) ho
   refine af aM (JC l _ _ _) ⟨hd,?_⟩
   rw[vH] at q1
   simp only[D1,xV,D0,pw,Nat.zero_max]
   have z : ∀a b:Nat,decide ((a:Int)>(b:Int))=decide (b<a):=fun a b=>by congr 1;exact propext (by omega)
   unfold ig
   rw[if_neg (by rw[q1];simp)]
   refine⟨fun h1=> ?_,fun h1=>⟨fun h2=> ?_,fun h2=>⟨fun h3=> ?_,fun h3=> ?_⟩⟩⟩<;>simp only[decide_eq_true_eq,decide_eq_false_iff_not] at *
   · rw[if_pos (by omega)];rfl
   · rw[if_pos (by omega)];rfl
   · rw[if_pos (by omega)];rfl
   · rw[if_neg (by omega)];rfl
 · have hd:an acb env 115 [.vy 0,.mp 1 0] _ (.au []) _:=af aM (D2 l) ho
   refine af aM (JD l t k m) ⟨hd,?_⟩
   rw[vH] at q1
   unfold ig
   rw[if_pos q1];rfl
end Go.Proofs.YtdmmllcjgjmbbaaGreatDoor.N
end
section
namespace Go.Am
open Go.RowKit
section
variable {H:Type} {enc:TypeId×Value→H} {P:Program} {w:World} {base:Nat} {spare:Nat→Bool} {held:Bool} {tL tI ti tu tn tt:TypeId} {fs:Array Field}
theorem xY {g:Gh} {w:World} : ∀{l:List PV} {cs:List Value},Ho g w l cs→cL g w (l.map .p) cs
 |[],[],_=>trivial
 |_::_,_::_,h=>⟨.p _ _ h.1,xY h.2⟩
 |[],_::_,h=>h.elim
 |_::_,[],h=>h.elim
end
end Go.Am
end
section
namespace Go.Am
open Go.RowKit
section
variable {H:Type} {enc:TypeId×Value→H} {P:Program} {w:World} {base:Nat} {spare:Nat→Bool} {held:Bool}
theorem U4 {g:Gh} {w:World} {l:List PV} {cs:Array Value} (h:Ho g w l cs.toList):VA g w (.agg (l.map .p)) (.agg cs):=by
 rw[VA.zk]
 exact xY h
end
end Go.Am
end
section
namespace Go.Am
theorem QV {Q:List Ins→Prop} (h : ∀l,(∀x∈l,Q x.l∧Q x.e)→Q l) : ∀l,Q l:=by
 have key : ∀(N:Nat) (l:List Ins),cN l≤N→Q l:=by
  intro N
  induction N with
  |zero=>
   intro l hl
   cases l with
   |nil=>exact h [] (fun _ hx=>by cases hx)
   |cons x r=>cases x;simp only[cN,mK] at hl;omega
  |succ N ih=>
   intro l hl
   refine h l fun x hx=> ?_
   have hn:mK x≤cN l:=by
    clear hl
    induction l with
    |nil=>cases hx
    |cons y r ih2=>
     simp only[cN]
     cases hx with
     |head=>omega
     |tail _ hx=>have:=ih2 hx;omega
   obtain⟨op,rs,a,b,nn,tg,ll,le⟩:=x
   simp only[mK] at hn
   exact⟨ih ll (by omega),ih le (by omega)⟩
 exact fun l=>key _ l (Nat.le_refl _)
open Classical in
def oN {α:Type} (d:α) (F:List Ins→α) (cs:List PV):α:=if h : ∃l,cs=aq l then F h.choose else d
end Go.Am
end
