import Derived.Test.YtncncijedmfpjaaGreatDoorMG
import Derived.Test.YtncncijedmfpjaaGreatDoorChecked
import Derived.Test.YtncncijedmfpjaaGreatDoorMF
import GoSem.PinnedTables
open List renaming getD_eq_getElem?_getD→di,length_append→dT,length_cons→od,drop_zero→acw,map_append→acx,length_nil→acA,getElem?_append_right→Hm,mem_singleton→acB,getElem?_eq_getElem→de,map→acC,take→acD,getElem?_eq_none→ei,foldr_append→acE,length_map→ov,append_nil→Lk,map_cons→uv
open Nat renaming reduceAdd→acF,add_assoc→gn,zero_le→aai,zero_add→pD,beq→bj,lt_or_ge→gg
open Go.Proofs.Tryz renaming prog→ae
open Go.IntKind renaming i64→sa,u32→acu
open Go.TypeInfo renaming mk→acG
open Option renaming none→acH,some→acI
open Go.LoopState renaming ready→acK
open Min renaming min→acL
open Max renaming max→acM
open Int renaming toNat_natCast→acN
noncomputable section
section
namespace Go.Am
open Go.RowKit
inductive Ins where
 |mk (op results a b n:Int) (tags:List Int) (l e:List Ins)
namespace Ins
def op:Ins→Int | .mk op _ _ _ _ _ _ _=>op
def results:Ins→Int | .mk _ r _ _ _ _ _ _=>r
def a:Ins→Int | .mk _ _ a _ _ _ _ _=>a
def b:Ins→Int | .mk _ _ _ b _ _ _ _=>b
def n:Ins→Int | .mk _ _ _ _ n _ _ _=>n
def tags:Ins→List Int | .mk _ _ _ _ _ t _ _=>t
def l:Ins→List Ins | .mk _ _ _ _ _ _ l _=>l
def e:Ins→List Ins | .mk _ _ _ _ _ _ _ e=>e
end Ins
def bU (k:IntKind) (l:List Int):List PV:=l.map fun t=> .sc (.int k t)
mutual
def xY:Ins→List PV
 |.mk op r a b n tags l e=>[.sc (.int .i64 op),.sc (.int .i64 r),.sc (.int .u32 a),.sc (.int .u32 b),.sc (.int .i32 n),.ps tags.length 1 (bU .u32 tags),.ps l.length 8 (ak l),.ps e.length 8 (ak e)]
def ak:List Ins→List PV
 |[]=>[]
 |x::r=>xY x++ak r
end
mutual
def JE:Ins→Prop
 |.mk op r a b n tags l e=>(Lit.int .i64 op).wf=true∧(Lit.int .i64 r).wf=true∧(Lit.int .u32 a).wf=true∧(Lit.int .u32 b).wf=true∧(Lit.int .i32 n).wf=true∧(tags.length≤maxLen ∧ ∀t∈tags,(Lit.int .u32 t).wf=true)∧(l.length≤maxLen∧sV l)∧e.length≤maxLen∧sV e
def sV:List Ins→Prop
 |[]=>True
 |x::r=>JE x∧sV r
end
theorem zk : ∀l:List Ins,ak l=l.flatMap xY
 |[]=>rfl
 |x::r=>by rw[ak,zk r];rfl
theorem Gj : ∀{l:List Ins},(∀x∈l,JE x)→sV l
 |[],_=>trivial
 |x::_,h=>⟨h x (.head _),Gj fun y hy=>h y (.tail _ hy)⟩
theorem iQ : ∀x:Ins,(xY x).length=8
 |.mk .. =>rfl
structure SM (P:Program) (tL tI ti tu tn tt:TypeId) (fs:Array Field):Prop where
 hL:P.underlying tL=some (.slice tI)
 hI:P.underlying tI=some (.struct fs)
 hz:P.cellsOf tI=8
 hf:fs.toList.map (fun f=>(f.offset,f.type))=[(0,ti),(1,ti),(2,tu),(3,tu),(4,tn),(5,tt),(6,tL),(7,tL)]
 h1:P.cellsOf ti=1∧P.cellsOf tu=1∧P.cellsOf tn=1∧P.cellsOf tt=1∧P.cellsOf tL=1
 ki:P.underlying ti=some (.int .i64)
 ku:P.underlying tu=some (.int .u32)
 kn:P.underlying tn=some (.int .i32)
 kt:P.underlying tt=some (.slice tu)
section
variable {H:Type} {enc:TypeId×Value→H} {P:Program} {w:World} {base:Nat} {spare:Nat→Bool} {held:Bool} {tL tI ti tu tn tt:TypeId} {fs:Array Field}
theorem SN {i:Nat} {o t:Nat} (hf:(fs.toList.map fun f=>(f.offset,f.type))[i]? = some (o,t)) : ∃f,fs[i]? = some f∧f.offset=o∧f.type=t:=by
 rw[List.getElem?_map] at hf
 cases h:fs.toList[i]? with
 |none=>rw[h] at hf;cases hf
 |some f=>
  rw[h] at hf
  simp only[Option.map_some,Option.some.injEq,Prod.mk.injEq] at hf
  exact⟨f,by simpa using h,hf.1,hf.2⟩
theorem bR.cat {w:World} {x:PV} {l:List PV} {v:Value} {cs:List Value} (h:bR w [x] [v]) (k:bR w l cs):bR w (x::l) (v::cs):=h.append k
theorem CI (T:SM P tL tI ti tu tn tt fs) : ∀(fuel:Nat) (cs:List Value) (x:DataW H×List MemPlace),DataW.trod enc P w base spare held fuel tL cs=some x →
  ∃l:List Ins,(l.length≤maxLen∧sV l)∧bR w [.ps l.length 8 (ak l)] cs:=by
 intro fuel
 induction fuel using Nat.strongRecOn with
 |ind fuel ih=>
  intro cs x h
  obtain⟨xs,h0,h1,h2⟩:=jO (lU:=xY) (wf:=JE) T.hL (by rw[T.hz];omega) h fun n hn us y hy=>by
   obtain⟨m,rfl,hlen,hg⟩:=iY T.hI hy
   rw[T.hz] at hlen
   have get : ∀(i:Nat) (o t:Nat),[(0,ti),(1,ti),(2,tu),(3,tu),(4,tn),(5,tt),(6,tL),(7,tL)][i]? = some (o,t)→P.cellsOf t=1 → ∃y,DataW.trod enc P w base spare held m t ((us.drop o).take 1)=some y:=by
    intro i o t hi hc
    obtain⟨f,q1,q2,q3⟩:=SN (fs:=fs) (i:=i) (by rw[T.hf];exact hi)
    obtain⟨y,hy⟩:=hg i f q1
    rw[q2,q3,hc] at hy
    exact⟨y,hy⟩
   obtain⟨c1,c2,c3,c4,c5⟩:=T.h1
   obtain⟨y0,e0⟩:=get 0 0 ti rfl c1
   obtain⟨y1,e1⟩:=get 1 1 ti rfl c1
   obtain⟨y2,e2⟩:=get 2 2 tu rfl c2
   obtain⟨y3,e3⟩:=get 3 3 tu rfl c2
   obtain⟨y4,e4⟩:=get 4 4 tn rfl c3
   obtain⟨y5,e5⟩:=get 5 5 tt rfl c4
   obtain⟨y6,e6⟩:=get 6 6 tL rfl c5
   obtain⟨y7,e7⟩:=get 7 7 tL rfl c5
   match us,hlen with
   |[u0,u1,u2,u3,u4,u5,u6,u7],_=>
    simp only[acw,List.drop_succ_cons,List.take_succ_cons,List.take_zero] at e0 e1 e2 e3 e4 e5 e6 e7
    obtain⟨n0,w0,k0⟩:=bS T.ki e0
    obtain⟨n1,w1,k1⟩:=bS T.ki e1
    obtain⟨n2,w2,k2⟩:=bS T.ku e2
    obtain⟨n3,w3,k3⟩:=bS T.ku e3
    obtain⟨n4,w4,k4⟩:=bS T.kn e4
    obtain⟨n5,w5,w5',k5⟩:=oC T.kt T.ku c2 e5
    obtain⟨n6,w6,k6⟩:=ih m (by omega) _ _ e6
    obtain⟨n7,w7,k7⟩:=ih m (by omega) _ _ e7
    exact⟨.mk n0 n1 n2 n3 n4 n5 n6 n7,⟨w0,w1,w2,w3,w4,⟨w5,w5'⟩,w6,w7⟩,k0.cat (k1.cat (k2.cat (k3.cat (k4.cat (k5.cat (k6.cat k7))))))⟩
  refine⟨xs,⟨h0,Gj h1⟩,?_⟩
  rw[T.hz,←zk] at h2
  exact h2
end
end Go.Am
end
section
namespace Go.Am
theorem nT (k:IntKind) (l:List Int) (n:Nat) (h:n<l.length):(bU k l).getD n .bk = .sc (.int k (l.getD n 0)):=by
 simp[bU,di,de h]
theorem CJ (k:IntKind) (l:List Int) (n:Nat) (h:l.length≤n):(bU k l).getD n .bk = .bk:=by
 simp[bU,di,ei h]
@[simp] theorem SO (k:IntKind) (l:List Int) (n:Nat):aq ((bU k l).getD n .bk)=l.getD n 0:=by
  rcases gg n l.length with h | h
  · rw[nT k l n h];rfl
  · rw[CJ k l n h]
    simp[di,ei h]
    rfl
@[simp] theorem SP (k:IntKind) (l:List Int) (n:Nat):isInt k ((bU k l).getD n .bk)=decide (n<l.length):=by
  rcases gg n l.length with h | h
  · rw[nT k l n h];simp[isInt,h]
  · rw[CJ k l n h];simp[isInt];omega
theorem CK {k:IntKind} : ∀{l m:List Int},bU k l=bU k m→l=m
 |[],[],_=>rfl
 |[],_::_,h=>by simp[bU] at h
 |_::_,[],h=>by simp[bU] at h
 |a::l,b::m,h=>by
  simp only[bU,uv,List.cons.injEq,PV.sc.injEq,Value.int.injEq,true_and] at h
  rw[h.1,CK (l:=l) (m:=m) h.2]
mutual
theorem KW : ∀{x y:Ins},xY x=xY y→x=y
 |.mk op r a b n tags l e,.mk op' r' a' b' n' tags' l' e',h=>by
  simp only[xY,List.cons.injEq,PV.sc.injEq,Value.int.injEq,PV.ps.injEq,true_and,and_true] at h
  obtain⟨rfl,rfl,rfl,rfl,rfl,⟨_,h5⟩,⟨_,h6⟩,_,h7⟩:=h
  rw[CK h5,kU h6,kU h7]
theorem kU : ∀{l m:List Ins},ak l=ak m→l=m
 |[],[],_=>rfl
 |[],.mk .. :: _,h=>by simp[ak,xY] at h
 |.mk .. :: _,[],h=>by simp[ak,xY] at h
 |x::l,y::m,h=>by
  simp only[ak] at h
  obtain⟨h1,h2⟩:=List.append_inj h (by rw[iQ,iQ])
  rw[KW h1,kU h2]
end
theorem rO : ∀{l:List Ins} {k:Nat} {x:Ins},l[k]? = some x → ∀c,c<8→(ak l).getD (k*8+c) .bk=(xY x).getD c .bk
 |[],_,_,h,_,_=>by simp at h
 |y::l,0,x,h,c,hc=>by
  simp only[List.getElem?_cons_zero,Option.some.injEq] at h;subst h
  rw[ak,Nat.zero_mul,pD,di,di,List.getElem?_append_left (by rw[iQ];exact hc)]
 |y::l,k+1,x,h,c,hc=>by
  have ih:=rO (l:=l) (k:=k) (x:=x) (by simpa using h) c hc
  rw[di] at ih
  rw[ak,di,Hm (by rw[iQ];omega),iQ,show(k+1)*8+c-8=k*8+c by omega]
  exact ih
theorem nU : ∀{l:List Ins} {x:Ins},sV l→x∈l→JE x
 |_::_,_,h,.head _=>h.1
 |_::_,_,h,.tail _ hx=>nU h.2 hx
mutual
def kD:Ins→Nat
 |.mk _ _ _ _ _ tags l e=>1+tags.length+cZ l+cZ e
def cZ:List Ins→Nat
 |[]=>0
 |x::r=>kD x+cZ r
end
theorem nr : ∀l:List Ins,l.length≤cZ l
 |[]=>aai _
 |.mk _ _ _ _ _ t l e::r=>by have:=nr r;simp only[cZ,kD,od];omega
theorem kV : ∀{l:List Ins} {x:Ins},x∈l→kD x≤cZ l
 |y::l,x,h=>by
  simp only[cZ]
  cases h with
  |head=>omega
  |tail _ h=>have:=kV h;omega
mutual
def cS:List Ins→Int→Int→Int
 |[],_,n=>n
 |x::r,most,n=>if n≤most then cS r most (vK x most n) else n
def vK:Ins→Int→Int→Int
 |.mk _ _ _ _ _ tags l e,most,n=>
  let n1:=n+1+min (tags.length:Int) most
  let n2:=if n1≤most then n1+cS l (most-n1) 0 else n1
  if n2≤most then n2+cS e (most-n2) 0 else n2
end
mutual
theorem vL : ∀(x:Ins) (most n:Int),0≤n→n≤most→n≤vK x most n∧vK x most n≤2*most+1
 |.mk _ _ _ _ _ tags l e,most,n,h0,h=>by
  simp only[vK]
  generalize hn1:n+1+min (tags.length:Int) most=n1
  have h1:n+1≤n1∧n1≤2*most+1:=by omega
  generalize hn2:(if n1≤most then n1+cS l (most-n1) 0 else n1)=n2
  have h2:n1≤n2∧n2≤2*most+1:=by
   rw[←hn2]
   split
   · have:=cq l (most-n1) 0 (by omega) (by omega) (by omega);omega
   · omega
  split
  · have:=cq e (most-n2) 0 (by omega) (by omega) (by omega);omega
  · omega
theorem cq : ∀(l:List Ins) (most n:Int),0≤most→0≤n→n≤2*most+1→n≤cS l most n∧cS l most n≤2*most+1
 |[],most,n,_,_,h=>by simp only[cS];omega
 |x::r,most,n,hm,h0,h=>by
  simp only[cS]
  split
  · have h1:=vL x most n h0 (by omega)
    have h2:=cq r most (vK x most n) hm (by omega) (by omega)
    omega
  · omega
end
mutual
theorem KX : ∀(x:Ins) (most n:Int),0≤n→n≤most→vK x most n≤most→vK x most n=n+kD x
 |.mk _ _ _ _ _ tags l e,most,n,h0,h=>by
  simp only[vK,kD]
  generalize hn1:n+1+min (tags.length:Int) most=n1
  generalize hn2:(if n1≤most then n1+cS l (most-n1) 0 else n1)=n2
  intro h3
  have hle:n2≤most:=by
   split at h3
   · rename_i q;exact q
   · exact h3
  rw[if_pos hle] at h3 ⊢
  have Wv:=cq e (most-n2) 0 (by omega) (by omega) (by omega)
  have aaS:n1≤most:=by
   rw[←hn2] at hle
   split at hle
   · rename_i q;exact q
   · exact hle
  rw[if_pos aaS] at hn2
  have Sg:=cq l (most-n1) 0 (by omega) (by omega) (by omega)
  have e1:=nu l (most-n1) 0 (by omega) (by omega) (by omega)
  have e2:=nu e (most-n2) 0 (by omega) (by omega) (by omega)
  have:min (tags.length:Int) most=tags.length:=by omega
  push_cast
  omega
theorem nu : ∀(l:List Ins) (most n:Int),0≤most→0≤n→cS l most n≤most→cS l most n=n+cZ l
 |[],most,n,_,_,h=>by simp[cS,cZ]
 |x::r,most,n,hm,h0,h=>by
  simp only[cS,cZ] at h ⊢
  split at h
  · rename_i hn
    rw[if_pos hn]
    have hr:=vL x most n h0 hn
    have Wv:=cq r most (vK x most n) hm (by omega) (by omega)
    have e1:=KX x most n h0 hn (by omega)
    have e2:=nu r most (vK x most n) hm (by omega) h
    push_cast
    omega
  · omega
end
end Go.Am
end
section
namespace Go.Proofs.YtncncijedmfpjaaGreatDoor.N
open Go Go.Am
def av (l:List PV) (n:Nat):PV:=l.getD n PV.bk
def aB (i:Nat):Nat:=(i:Int).toNat
def A2:aA:= .out (.ret (sB true) [])
def fE:AV:= .os none 0 0 []
theorem bu:(∀l n,av l n=l.getD n PV.bk)∧(∀i,aB i=(i:Int).toNat)∧A2 = .out (.ret (sB true) [])∧fE = .os none 0 0 []:=⟨fun _ _=>rfl,fun _=>rfl,rfl,rfl⟩
def KY:List Int:=[0,0,0,0,0,0,0,0,0,1,1,1,1,1,0,0,0,0,0,0,0,0,0,0,0,0,0,0,0,0,0,0,1]++List.replicate 223 0
def ir:List Int:=Pinned.utf8FirstZ.map fun(n:Nat)=>(n:Int)
def Xu:List Int:=[128,191,160,191,128,159,144,191,128,143,0,0,0,0,0,0,0,0,0,0,0,0,0,0,0,0,0,0,0,0,0,0]
def tabs:List (Nat×List Value):=[(2,KY.map (.int .u8)),(0,ir.map (.int .u8)),(1,Xu.map (.int .u8))]
def keeps:List (Nat×Nat×List Nat):=[(6,22,[1,2,5,11]),(6,18,[1,2,5,10]),(6,14,[1,2,5,9]),(6,10,[1,2,5,8]),(6,6,[1,2,5,7]),(6,2,[1,2,5,6]),(7,2,[1,5,6]),(9,14,[2,3,7]),(9,8,[2,3,6]),(9,2,[2,3,5]),(10,12,[1,2,3,8]),(10,8,[1,2,3,7]),(10,4,[1,2,3,6]),(10,0,[1,2,3,4]),(11,2,[1,5,6]),(14,0,[2,3]),(16,0,[0,1,5,6]),(17,0,[1,6,7,8]),(22,30,[2,3,10]),(22,24,[2,3,9]),(22,18,[2,3,8]),(22,12,[2,3,7]),(22,6,[2,3,6]),(22,0,[2,3,5]),(23,0,[0,3,4]),(27,2,[2,5,6]),(27,8,[2,5,9]),(27,12,[2,5,10]),(28,2,[1,5,6,7,8]),(29,2,[2,5,6]),(29,10,[2,5,8]),(30,6,[2,5,6,7]),(30,2,[2,5,6]),(30,12,[2,5,8]),(30,16,[2,5,11]),(32,0,[1,3,7,8,9]),(46,2,[0,1,5]),(47,2,[0,1,5]),(48,8,[1,4,5]),(48,2,[1,3]),(49,6,[1,5,6]),(49,0,[1,3,4]),(50,12,[1,5]),(50,6,[1,4]),(50,0,[1,3]),(51,18,[1,7]),(51,12,[1,6]),(51,6,[1,5]),(51,0,[1,3,4]),(52,0,[0,3]),(58,2,[0,3,4]),(61,0,[1,8,9,10]),(63,4,[3,24,25,26]),(63,0,[1,3,9,10,11]),(74,0,[3,11]),(81,2,[2,13,14]),(83,6,[5,18,19,27,28]),(83,2,[5,18,19]),(93,0,[1,34,35,36]),(97,0,[0,1,5]),(99,18,[1,2,8]),(99,12,[1,2,7]),(99,6,[1,2,6]),(99,0,[1,2,5]),(100,4,[1,3,5]),(100,0,[1,3,4]),(104,0,[0,3,4]),(107,0,[0,1,7,8]),(108,12,[3,53,54,55]),(108,8,[1,3,40,41,42]),(108,4,[1,3,27,28,29]),(108,0,[1,3,13,14,15]),(110,0,[0,1,7,8]),(111,0,[0,1,7,8]),(112,0,[0,1,7,8]),(113,0,[0,1,7,8]),(115,0,[0,1,7,8]),(116,0,[0,1,7,8]),(121,0,[0,3,4,5]),(123,0,[0,3,4]),(127,34,[2,5,7,14,15,16,101,102,103]),(127,0,[2,5,14,15,16]),(128,2,[0,1,7,8,10]),(129,0,[0,3]),(130,0,[0,3,4]),(131,0,[0,3,4]),(132,0,[0,3]),(133,10,[1,3,6]),(134,4,[0,3,4,25,26,27]),(134,0,[0,3]),(148,0,[3,4]),(149,4,[0,1,24,25,26]),(149,0,[0,1,10,11,12]),(150,0,[0,1,5]),(153,16,[0,9,10,12]),(153,10,[0,9,10,11,12]),(153,6,[0,9,10,12]),(153,0,[0,3,4,5,6]),(155,12,[0,9,47,48,49]),(155,0,[0,1,5,6,14]),(159,10,[0,1,7,8]),(159,2,[0,1,19,20]),(160,10,[0,1,7,8]),(160,2,[0,1,15,16])]
def wrs (f d:Nat):Bool:=bj f 134&&bj d 9
def env:Env where
 dS:=sS tabs
 wr:=wrs
 keep:=E5 keeps
theorem aI:gj ae:=E3 (by kernel_rfl)
end Go.Proofs.YtncncijedmfpjaaGreatDoor.N
end
section
namespace Go.Am
mutual
def Ww (p:Ins→Bool):Ins→Bool
 |.mk op r a b n tags l e=>p (.mk op r a b n tags l e)&&(zl p l&&zl p e)
def zl (p:Ins→Bool):List Ins→Bool
 |[]=>true
 |x::r=>Ww p x&&zl p r
end
mutual
def vM:Ins→Nat
 |.mk _ _ _ _ _ _ l e=>1+dZ l+dZ e
def dZ:List Ins→Nat
 |[]=>0
 |x::r=>vM x+dZ r
end
mutual
def E7:Nat→Ins→Nat
 |d,.mk _ _ _ _ _ _ l e=>max d (max (jP (d+1) l) (jP (d+1) e))
def jP:Nat→List Ins→Nat
 |_,[]=>0
 |d,x::r=>max (E7 d x) (jP d r)
end
mutual
def OI:Ins→Nat
 |.mk _ _ _ _ _ tags l e=>max tags.length (max (oZ l) (oZ e))
def oZ:List Ins→Nat
 |[]=>0
 |x::r=>max (OI x) (oZ r)
end
theorem sW : ∀l:List Ins,l.length≤dZ l
 |[]=>aai _
 |.mk _ _ _ _ _ t l e::r=>by have:=sW r;simp only[dZ,vM,od];omega
mutual
theorem KZ : ∀x:Ins,vM x≤kD x
 |.mk _ _ _ _ _ t l e=>by have:=nv l;have:=nv e;simp only[vM,kD];omega
theorem nv : ∀l:List Ins,dZ l≤cZ l
 |[]=>aai _
 |x::r=>by have:=KZ x;have:=nv r;simp only[dZ,cZ];omega
end
mutual
theorem K0 : ∀x:Ins,OI x≤kD x
 |.mk _ _ _ _ _ t l e=>by have:=vN l;have:=vN e;simp only[OI,kD];omega
theorem vN : ∀l:List Ins,oZ l≤cZ l
 |[]=>aai _
 |x::r=>by have:=K0 x;have:=vN r;simp only[oZ,cZ];omega
end
mutual
theorem K1 : ∀(d:Nat) (x:Ins),E7 d x≤d+vM x
 |d,.mk _ _ _ _ _ t l e=>by have:=vO (d+1) l;have:=vO (d+1) e;simp only[E7,vM];omega
theorem vO : ∀(d:Nat) (l:List Ins),jP d l≤d+dZ l
 |_,[]=>aai _
 |d,x::r=>by have:=K1 d x;have:=vO d r;simp only[jP,dZ];omega
end
mutual
theorem E8 : ∀(d:Nat) (x:Ins),E7 (d+1) x=E7 d x+1
 |d,.mk _ _ _ _ _ t l e=>by
  have h1:=o7 (d+1) l
  have h2:=o7 (d+1) e
  simp only[E7]
  cases l with
  |nil=>cases e with
   |nil=>simp[jP]
   |cons y e=>rw[h2 (by simp)];simp only[jP];omega
  |cons x l=>cases e with
   |nil=>rw[h1 (by simp)];simp only[jP];omega
   |cons y e=>rw[h1 (by simp),h2 (by simp)];omega
theorem o7 : ∀(d:Nat) (l:List Ins),l≠[]→jP (d+1) l=jP d l+1
 |_,[],h=>absurd rfl h
 |d,x::r,_=>by
  have h1:=E8 d x
  cases r with
  |nil=>simp only[jP,h1];omega
  |cons y r=>rw[jP,o7 d (y::r) (by simp),h1,jP.eq_2 d x];omega
end
abbrev aL (l:List Ins):AV:= .p (.ps l.length 8 (ak l))
def CL (op r a b nn:Int) (tg:List Int) (ll le:List Ins):AV:= .agg [sI .i64 op,sI .i64 r,sI .u32 a,sI .u32 b,sI .i32 nn,.p (.ps tg.length 1 (bU .u32 tg)),aL ll,aL le]
def SQ:Ins→AV
 |.mk op r a b nn tg ll le=>CL op r a b nn tg ll le
theorem K2 {l m:List Ins} (h:aL l=aL m):l=m:=by
 simp only[AV.p.injEq,PV.ps.injEq] at h
 exact kU h.2.2
theorem qp {l:List Ins} {k:Nat} {op rs a b nn:Int} {tags:List Int} {ll le:List Ins} (h:l[k]? = some (.mk op rs a b nn tags ll le)) :
  (ak l).getD (k*8) .bk = .sc (.int .i64 op)∧(ak l).getD (k*8+1) .bk = .sc (.int .i64 rs)∧(ak l).getD (k*8+2) .bk = .sc (.int .u32 a)∧(ak l).getD (k*8+3) .bk = .sc (.int .u32 b) ∧
    (ak l).getD (k*8+4) .bk = .sc (.int .i32 nn)∧(ak l).getD (k*8+5) .bk = .ps tags.length 1 (bU .u32 tags)∧(ak l).getD (k*8+6) .bk = .ps ll.length 8 (ak ll)∧(ak l).getD (k*8+7) .bk = .ps le.length 8 (ak le):=
 have hc:=rO h
 ⟨hc 0 (by omega),hc 1 (by omega),hc 2 (by omega),hc 3 (by omega),hc 4 (by omega),hc 5 (by omega),hc 6 (by omega),hc 7 (by omega)⟩
abbrev iZ:=List (List Ins×Nat)
def fm (st:iZ):List PV:=st.flatMap fun e=>[.ps e.1.length 8 (ak e.1),.sc (.int .i64 e.2)]
def K3 (p:Ins→Bool) (st:iZ):Bool:=st.all fun e=>zl p e.1
def qq (st:iZ):Nat:=(st.map fun e=>dZ e.1).sum
def vP (st:iZ):Nat:=(st.map fun e=>jP e.2 e.1).foldr max 0
def vQ (st:iZ):Nat:=(st.map fun e=>oZ e.1).foldr max 0
def wS (st:iZ):Nat:=(st.map fun e=>2*dZ e.1+1).sum
theorem iR : ∀st:iZ,(fm st).length=st.length*2
 |[]=>rfl
 |e::st=>by rw[fm,List.flatMap_cons,dT,od];have:=iR st;rw[fm] at this;rw[this];simp;omega
theorem nw (s t:iZ):fm (s++t)=fm s++fm t:=by simp[fm]
theorem zm (s:List Nat) (b:Nat):s.foldr max b=max (s.foldr max 0) b:=by
 induction s with
 |nil=>simp
 |cons a s ih=>simp only[List.foldr_cons,ih];omega
theorem o8 (p:Ins→Bool) (s t:iZ):K3 p (s++t)=(K3 p s&&K3 p t):=by simp[K3]
theorem kj (s t:iZ):qq (s++t)=qq s+qq t:=by simp[qq]
theorem rP (s t:iZ):wS (s++t)=wS s+wS t:=by simp[wS]
theorem sX (s t:iZ):vP (s++t)=max (vP s) (vP t):=by simp only[vP,acx,acE];rw[zm]
theorem sY (s t:iZ):vQ (s++t)=max (vQ s) (vQ t):=by simp only[vQ,acx,acE];rw[zm]
@[simp] theorem ud (p:Ins→Bool) (l:List Ins) (d:Nat):K3 p [(l,d)]=zl p l:=by simp[K3]
@[simp] theorem vR (l:List Ins) (d:Nat):qq [(l,d)]=dZ l:=by simp[qq]
@[simp] theorem SR (l:List Ins) (d:Nat):wS [(l,d)]=2*dZ l+1:=by simp[wS]
@[simp] theorem CM (l:List Ins) (d:Nat):vP [(l,d)]=jP d l:=by simp[vP]
@[simp] theorem CN (l:List Ins) (d:Nat):vQ [(l,d)]=oZ l:=by simp[vQ]
theorem rQ : ∀st:iZ,st.length≤wS st
 |[]=>aai _
 |e::st=>by have:=rQ st;simp only[wS,uv,List.sum_cons,od] at this ⊢;omega
def fW (st:iZ) (cells:List AV):Prop:=cells.take (st.length*2)=(fm st).map .p
theorem fW.len {st:iZ} {cells:List AV} (h:fW st cells):st.length*2≤cells.length:=by
 have:=congrArg List.length h
 rw[List.length_take,ov,iR] at this
 omega
theorem fW.top {st:iZ} {x:List Ins} {d:Nat} {cells:List AV} (h:fW (st++[(x,d)]) cells):cells.getD (st.length*2) .aT = .p (.ps x.length 8 (ak x))∧cells.getD (st.length*2+1) .aT = .p (.sc (.int .i64 d)):=by
 have hl:=h.len
 simp only[dT,od,acA] at hl
 have get : ∀j,j<2→cells.getD (st.length*2+j) .aT=((fm (st++[(x,d)])).map AV.p).getD (st.length*2+j) .aT:=by
  intro j hj
  rw[←show cells.take ((st++[(x,d)]).length*2)=_ from h,di,di,List.getElem?_take_of_lt (by simp only[dT,od,acA];omega)]
 have g0:=get 0 (by omega)
 have g1:=get 1 (by omega)
 rw[nw,acx,di (l:=acC AV.p (fm st)++_),Hm (by simp[iR])] at g0 g1
 simp only[ov,iR] at g0 g1
 rw[show st.length*2+0-st.length*2=0 by omega] at g0
 rw[show st.length*2+1-st.length*2=1 by omega] at g1
 exact⟨by simpa[fm] using g0,by simpa[fm] using g1⟩
theorem fW.pop {st:iZ} {e:List Ins×Nat} {cells:List AV} (h:fW (st++[e]) cells):fW st cells:=by
 unfold fW at h ⊢
 have:=congrArg (acD (st.length*2)) h
 rw[List.take_take,nw,acx,List.take_left' (by simp[iR])] at this
 rw[←this];congr 1
 simp only[dT,od,acA];omega
theorem fW.keep {st:iZ} {cells:List AV} (h:fW st cells):fW st (cells.map aj):=by
 unfold fW at h ⊢
 rw[←List.map_take,h,List.map_map];rfl
theorem fW.push {st:iZ} {cells:List AV} (h:fW st cells) (x:List Ins) (d:Nat):fW (st++[(x,d)]) (cells.take (st.length*2)++[.p (.ps x.length 8 (ak x)),.p (.sc (.int .i64 d))]):=by
 have hl:=h.len
 unfold fW at h ⊢
 rw[List.take_of_length_le (by simp;omega),h,nw,acx];rfl
end Go.Am
end
section
namespace Go.Proofs.YtncncijedmfpjaaGreatDoor.N
open Go Go.Am
def aF (_:FuncId) (_:List AV) (_:Mem):Option (AV×Mem):=none
abbrev sP (n:Int):PV:= .sc (.int .i64 n)
def recC (l:List Ins) (st:LoopState) (pd:Option Code):aN:= .ob (Ry ae 109 0 st pd) [aL l,.aT,.mp 2 0,.p (.sc (.bool false)),.mp 3 0,.mp 4 0,.mp 5 0,.aT,.aT,aL l,.fn (.func 134) [] [.mp 1 0],.aT,.aT,.aT,.aT,.aT,.aT,.aT,.aT,.aT,.aT,.aT,.aT,.aT,.aT,.aT,.aT,.aT,.aT,.aT,.aT,.aT,.aT,.aT,.aT,.aT,.aT]
def HV (l:List Ins) (tags n most:Int) (cells:List AV):Mem:=[recC l .ready none,.pc [.ps l.length 8 (ak l)],.pc [sP 0],.pc [sP tags],.pc [sP n],.pc [sP most],.ob (.gr 155 true) cells]
def aaU (_l:List Ins) (_tags _n _most:Int) (_cells:List AV) (k:Nat) (x:List Ins) (d:Int):FuncId→Nat→Nat→Option (AV→AV):=cu [(134,3,3,sI .i64 k),(134,3,5,.agg [aL x,sI .i64 d]),(134,4,3,sI .i64 k)]
def aaV (_l:List Ins) (_tags n _most:Int) (_cells:List AV) (_k:Nat) (_xs:List Ins) (d:Int) (i:Nat) (op r a b nn:Int) (tg:List Int) (ll le:List Ins) (_ok:Bool):FuncId→Nat→Nat→Option (AV→AV):=cu [(134,7,1,CL op r a b nn tg ll le),(134,13,0,sI .i64 ((i+1:Nat):Int)),(134,10,5,sI .i64 (d+1)),(134,12,5,sI .i64 (d+1)),(109,8,1,sI .i64 (n+1))]
def aaW (_l:List Ins) (_tags _n _most:Int) (_cells:List AV) (_k:Nat) (_xs:List Ins) (_d:Int) (_i:Nat) (_op _r _a _b _nn:Int) (_tg:List Int) (_ll _le:List Ins) (ok:Bool) (f:FuncId) (_:List AV) (m:Mem):Option (AV×Mem):=cond (bj f 125) (some (sB ok,m)) none
def SS (l:List Ins) (tags n most:Int) (cells:List AV) (k:Nat) (x:List Ins) (d:Int):bN:=gI aF aC [(134,0),(134,2)] [(134,0,1)] [(134,3,4),(134,3,5),(134,4,4)] (aaU l tags n most cells k x d)
def Xv:Sc:= .fin
def Gk (l:List Ins) (tags n most:Int) (cells:List AV) (k:Nat) (x:List Ins) (d:Int):aA:=
 (.test (decide ((↑(k+1):Int)>0))
 (.need (sI .i64 (sa.wrap ((↑(k+1):Int)-1))=sI sa (↑k:Int))
 (.must (aM (↑k:Int) (k+1)&&true&&true)
 (.must ((0+(aB k)*2+2).ble cells.length&&((gX (some (acG (TypeDesc.slice 75) "[]api.Instr" 1 24 true 8 8 (some (Value.slice none 0 0)) false #[]).desc) (cells.getD (0+(aB k)*2) .aT)).snd&&((gX (some (acG (TypeDesc.int sa) "int" 1 8 false 8 8 (some (.int .i64 0)) true #[]).desc) (cells.getD (0+(aB k)*2+1) .aT)).snd&&true))&&true)
 (.need (AV.agg [(gX (acI (acG (TypeDesc.slice 75) "[]api.Instr" 1 24 true 8 8 (acI (Value.slice acH 0 0)) false #[]).desc) (cells.getD (0+(aB k)*2) AV.aT)).fst,(gX (acI (acG (TypeDesc.int sa) "int" 1 8 false 8 8 (acI (Value.int sa 0)) true #[]).desc) (cells.getD (0+(aB k)*2+1) AV.aT)).fst]=AV.agg [aL x,sI sa d])
 (.need (sI .i64 (sa.wrap ((↑(k+1):Int)-1))=sI sa (↑k:Int))
 (.must ((aB k).ble (k+1)&&true&&true&&true)
 (.at (af ae env 134 2 [.vy 0,.ms 6 0 (aB k-0) 2 none,.mp 7 0,.p (.ps x.length 8 (ak x)),sI .i64 (↑x.length:Int),sI .i64 0] ([recC l acK none,.pc [.ps l.length 8 (ak l)],.pc [sP 0],.pc [sP tags],.pc [sP n],.pc [sP most],.ob (dV.gr 155 true) (acC aj cells),.ac [.p (.ps x.length 8 (ak x)),sI .i64 d]]) 6 64))))))))
 (.out (.ret (.aK []) [recC l acK none,.pc [.ps l.length 8 (ak l)],.pc [sP 0],.pc [sP tags],.pc [sP n],.pc [sP most]])))
theorem K4 (l:List Ins) (tags n most:Int) (cells:List AV) (k:Nat) (x:List Ins) (d:Int):grow ae env (SS l tags n most cells k x d) 1000000 true (af ae env 134 0 ([AV.vy 0,AV.ms 6 0 (k+1) 2 acH]) (HV l tags n most cells) 6 64) Xv atEnd=Gk l tags n most cells k x d:=by kernel_rfl
def SU:bN:=aP aF aC [(134,0),(134,2)] [] []
def Xw:Sc:= .fin
def OJ (l:List Ins) (tags n most:Int) (_cells:List AV):aA:=
 (.out (.ret (.aK []) [recC l acK none,.pc [.ps l.length 8 (ak l)],.pc [sP 0],.pc [sP tags],.pc [sP n],.pc [sP most]]))
theorem K5 (l:List Ins) (tags n most:Int) (cells:List AV):grow ae env SU 1000000 true (af ae env 134 0 ([AV.vy 0,AV.ms 6 0 0 2 acH]) ([recC l acK acH,aN.pc [PV.ps l.length 8 (ak l)],aN.pc [sP 0],aN.pc [sP tags],aN.pc [sP n],aN.pc [sP most],aN.ob (dV.gr 155 true) cells]) 6 64) Xw atEnd=OJ l tags n most cells:=by kernel_rfl
def SV (l:List Ins) (tags n most:Int) (cells:List AV) (k:Nat) (xs:List Ins) (d:Int) (i:Nat) (op r a b nn:Int) (tg:List Int) (ll:List Ins) (le:List Ins) (ok:Bool):bN:=gI (aaW l tags n most cells k xs d i op r a b nn tg ll le ok) aC [(134,0),(134,2)] [(134,0,3),(109,0,0),(134,0,5),(134,0,6)] [(134,7,0),(134,7,1),(134,10,8),(134,12,8)] (aaV l tags n most cells k xs d i op r a b nn tg ll le ok)
def Xx:Sc:= .fin
def lV (l:List Ins) (tags n most:Int) (cells:List AV) (k:Nat) (xs:List Ins) (d:Int) (i:Nat) (op r a b nn:Int) (tg:List Int) (ll:List Ins) (le:List Ins) (ok:Bool):aA:=
 (.test (decide ((↑i:Int)<(↑xs.length:Int)))
 (.must (aM (↑i:Int) xs.length&&true&&true)
 (.must (isInt sa (av (ak xs) (aB i*8))&&(isInt sa (av (ak xs) (aB i*8+1))&&(isInt acu (av (ak xs) (aB i*8+1+1))&&(isInt acu (av (ak xs) (aB i*8+1+1+1))&&(isInt IntKind.i32 (av (ak xs) (aB i*8+1+1+1+1))&&(aQ (av (ak xs) (aB i*8+1+1+1+1+1))&&(aQ (av (ak xs) (aB i*8+1+1+1+1+1+1))&&(aQ (av (ak xs) (aB i*8+1+1+1+1+1+1+1))&&true)))))))&&true)
 (.need (AV.agg [sI .i64 (aq (av (ak xs) (aB i*8))),sI .i64 (aq (av (ak xs) (aB i*8+1))),sI .u32 (aq (av (ak xs) (aB i*8+1+1))),sI .u32 (aq (av (ak xs) (aB i*8+1+1+1))),sI .i32 (aq (av (ak xs) (aB i*8+1+1+1+1))),AV.p (PV.ps (az (av (ak xs) (aB i*8+1+1+1+1+1))) (aR (av (ak xs) (aB i*8+1+1+1+1+1))) (an (av (ak xs) (aB i*8+1+1+1+1+1)))),AV.p (PV.ps (az (av (ak xs) (aB i*8+1+1+1+1+1+1))) (aR (av (ak xs) (aB i*8+1+1+1+1+1+1))) (an (av (ak xs) (aB i*8+1+1+1+1+1+1)))),AV.p (PV.ps (az (av (ak xs) (aB i*8+1+1+1+1+1+1+1))) (aR (av (ak xs) (aB i*8+1+1+1+1+1+1+1))) (an (av (ak xs) (aB i*8+1+1+1+1+1+1+1))))]=CL op r a b nn tg ll le)
 (.call ⟨125,[.agg [sI .i64 op,sI .i64 r,sI .u32 a,sI .u32 b,sI .i32 nn,.p (.ps tg.length 1 (bU acu tg)),.p (.ps ll.length 8 (ak ll)),.p (.ps le.length 8 (ak le))]],[],.p (.sc (.bool ok)),[]⟩
 (.test (!ok)
 (.out (.ret (.aK []) [.ob (Ry ae 109 0 (fy (some Code.ret)) (some Code.ret)) [.p (.ps l.length 8 (ak l)),.aT,.mp 2 0,sB false,.mp 3 0,.mp 4 0,.mp 5 0,.aT,.aT,.p (.ps l.length 8 (ak l)),.fn (Fn.func 134) [] [.mp 1 0],.aT,.aT,.aT,.aT,.aT,.aT,.aT,.aT,.aT,.aT,.aT,.aT,.aT,.aT,.aT,.aT,.aT,.aT,.aT,.aT,.aT,.aT,.aT,.aT,.aT,.aT],.pc [.ps l.length 8 (ak l)],.pc [sP 2],.pc [sP tags],.pc [sP n],.pc [sP most]]))
 (.need (sI .i64 (sa.wrap (n+1))=sI sa (n+1))
 (.test (decide ((↑ll.length:Int)>0))
 (.need (sI .i64 (sa.wrap (d+1))=sI sa (d+1))
 (.must (((k+1)*32).ble bH&&(k+1).ble bH&&((k*2).ble cells.length&&true)&&true)
 (.test (decide ((↑le.length:Int)>0))
 (.need (sI .i64 (sa.wrap (d+1))=sI sa (d+1))
 (.must (((k+1+1)*32).ble bH&&(k+1+1).ble bH&&(((k+1)*2).ble (acD (k*2) cells++[.p (.ps ll.length 8 (ak ll)),sI .i64 (d+1)]).length&&true)&&true)
 (.need (sI .i64 (sa.wrap ((↑i:Int)+1))=sI sa (↑(i+1):Int))
 (.at (af ae env 134 2 [.vy 0,.ms 6 0 (k+1+1) 2 none,.mp 7 0,.p (.ps xs.length 8 (ak xs)),sI .i64 (↑xs.length:Int),sI .i64 (↑(i+1):Int)] ([recC l (fy none) none,.pc [.ps l.length 8 (ak l)],.pc [sP 0],.pc [sP (bif false then acL tags (↑tg.length:Int) else acM tags (↑tg.length:Int))],.pc [sP (n+1)],.pc [sP (bif false then acL most d else acM most d)],.ob (dV.gr 155 true) (acC aj (acD ((k+1)*2) (acD (k*2) cells++[.p (.ps ll.length 8 (ak ll)),sI .i64 (d+1)])++[.p (.ps le.length 8 (ak le)),sI .i64 (d+1)])),.ac [.p (.ps xs.length 8 (ak xs)),sI .i64 d]]) 6 64)))))
 (.need (sI .i64 (sa.wrap ((↑i:Int)+1))=sI sa (↑(i+1):Int))
 (.at (af ae env 134 2 [.vy 0,.ms 6 0 (k+1) 2 none,.mp 7 0,.p (.ps xs.length 8 (ak xs)),sI .i64 (↑xs.length:Int),sI .i64 (↑(i+1):Int)] ([recC l (fy none) none,.pc [.ps l.length 8 (ak l)],.pc [sP 0],.pc [sP (bif false then acL tags (↑tg.length:Int) else acM tags (↑tg.length:Int))],.pc [sP (n+1)],.pc [sP (bif false then acL most d else acM most d)],.ob (dV.gr 155 true) (acC aj (acD (k*2) cells++[.p (.ps ll.length 8 (ak ll)),sI .i64 (d+1)])),.ac [.p (.ps xs.length 8 (ak xs)),sI .i64 d]]) 6 64))))))
 (.test (decide ((↑le.length:Int)>0))
 (.need (sI .i64 (sa.wrap (d+1))=sI sa (d+1))
 (.must (((k+1)*32).ble bH&&(k+1).ble bH&&((k*2).ble cells.length&&true)&&true)
 (.need (sI .i64 (sa.wrap ((↑i:Int)+1))=sI sa (↑(i+1):Int))
 (.at (af ae env 134 2 [.vy 0,.ms 6 0 (k+1) 2 none,.mp 7 0,.p (.ps xs.length 8 (ak xs)),sI .i64 (↑xs.length:Int),sI .i64 (↑(i+1):Int)] ([recC l (fy none) none,.pc [.ps l.length 8 (ak l)],.pc [sP 0],.pc [sP (bif false then acL tags (↑tg.length:Int) else acM tags (↑tg.length:Int))],.pc [sP (n+1)],.pc [sP (bif false then acL most d else acM most d)],.ob (dV.gr 155 true) (acC aj (acD (k*2) cells++[.p (.ps le.length 8 (ak le)),sI .i64 (d+1)])),.ac [.p (.ps xs.length 8 (ak xs)),sI .i64 d]]) 6 64)))))
 (.need (sI .i64 (sa.wrap ((↑i:Int)+1))=sI sa (↑(i+1):Int))
 (.at (af ae env 134 2 [.vy 0,.ms 6 0 k 2 none,.mp 7 0,.p (.ps xs.length 8 (ak xs)),sI .i64 (↑xs.length:Int),sI .i64 (↑(i+1):Int)] ([recC l (fy none) none,.pc [.ps l.length 8 (ak l)],.pc [sP 0],.pc [sP (bif false then acL tags (↑tg.length:Int) else acM tags (↑tg.length:Int))],.pc [sP (n+1)],.pc [sP (bif false then acL most d else acM most d)],.ob (dV.gr 155 true) (acC aj cells),.ac [.p (.ps xs.length 8 (ak xs)),sI .i64 d]]) 6 64)))))))))))
 (.at (af ae env 134 0 [.vy 0,.ms 6 0 k 2 none] ([recC l acK none,.pc [.ps l.length 8 (ak l)],.pc [sP 0],.pc [sP tags],.pc [sP n],.pc [sP most],.ob (dV.gr 155 true) (acC aj cells)]) 6 64)))
theorem vS (l:List Ins) (tags n most:Int) (cells:List AV) (k:Nat) (xs:List Ins) (d:Int) (i:Nat) (op r a b nn:Int) (tg:List Int) (ll:List Ins) (le:List Ins) (ok:Bool):grow ae env (SV l tags n most cells k xs d i op r a b nn tg ll le ok) 1000000 true (af ae env 134 2 ([AV.vy 0,AV.ms 6 0 k 2 acH,AV.mp 7 0,aL xs,sI sa (↑xs.length:Int),sI sa (↑i:Int)]) (HV l tags n most cells++[aN.ac [aL xs,sI sa d]]) 6 64) Xx atEnd=lV l tags n most cells k xs d i op r a b nn tg ll le ok:=by kernel_rfl
def aaX (l:List Ins) (tags n most:Int):Out:= .ret (.aK []) [recC l .ready none,.pc [.ps l.length 8 (ak l)],.pc [sP 0],.pc [sP tags],.pc [sP n],.pc [sP most]]
def Xy (l:List Ins) (tags n most:Int):Out:= .ret (.aK []) [recC l .done (some .ret),.pc [.ps l.length 8 (ak l)],.pc [sP 2],.pc [sP tags],.pc [sP n],.pc [sP most]]
def o9:Nat:=1000000000000
def zn (p:Ins→Bool) (l:List Ins) (st:iZ) (tags n most:Nat) (o:Out):Prop:=
 (K3 p st=true∧o=aaX l (max tags (vQ st):Nat) (n+qq st:Nat) (max most (vP st):Nat))∨(K3 p st=false ∧ ∃t k m,o=Xy l t k m)
section
variable (p:Ins→Bool) (hp : ∀x:Ins,au ae env 125 [SQ x] [] (sB (p x)) []) (l:List Ins)
include hp in
theorem HW (N:Nat) (ih : ∀(st:iZ) (cells:List AV) (tags n most:Nat),wS st<N→fW st cells→n+qq st≤o9→wS st≤o9→(∀e∈st,e.2+dZ e.1≤o9) →
   ∃o,bD ae env (af ae env 134 0 [.vy 0,.ms 6 0 st.length 2 none] (HV l tags n most cells) 6 64) o∧zn p l st tags n most o) (xs:List Ins) (hxs:xs.length≤o9) (d:Nat) :
  ∀(r i:Nat) (st:iZ) (cells:List AV) (tags n most:Nat),i+r=xs.length→wS st+2*dZ (xs.drop i)<N→fW st cells→n+qq st+dZ (xs.drop i)≤o9→wS st+2*dZ (xs.drop i)≤o9→(∀e∈st,e.2+dZ e.1≤o9)→d+dZ (xs.drop i)≤o9 →
   ∃o,bD ae env (af ae env 134 2 [.vy 0,.ms 6 0 st.length 2 none,.mp 7 0,aL xs,sI .i64 xs.length,sI .i64 i] (HV l tags n most cells++[.ac [aL xs,sI .i64 d]]) 6 64) o∧zn p l (st++[(xs.drop i,d)]) tags n most o:=by
 intro r
 induction r with
 |zero=>
  intro i st cells tags n most hi hN ht hn hw he hd
  have h1:xs.drop i=[]:=List.drop_eq_nil_of_le (by omega)
  rw[h1] at hN hn hw ⊢
  simp only[dZ] at hN hn hw
  obtain⟨o,ho,hq⟩:=ih st (cells.map aj) tags n most (by omega) ht.keep (by omega) (by omega) he
  refine⟨o,ah aI (vS l tags n most cells st.length xs d i 0 0 0 0 0 [] [] [] true) ?_,?_⟩
  · have h2 : ¬((i:Int)<xs.length):=by omega
    simp only[lV,bu,aA.ok]
    exact⟨fun h=>absurd (by simpa using h) h2,fun _=>ho⟩
  · unfold zn at hq ⊢
    rw[o8,kj,sY,sX]
    simpa[zl,dZ,oZ,jP] using hq
 |succ r ihr=>
  intro i st cells tags n most hi hN ht hn hw he hd
  have Cc:i<xs.length:=by omega
  have Xz:xs[i]? = some xs[i]:=de Cc
  have hdr:xs.drop i=xs[i]::xs.drop (i+1):=List.drop_eq_getElem_cons Cc
  rw[hdr] at hN hn hw hd ⊢
  generalize xs[i]=x at *
  generalize hys:xs.drop (i+1)=ys at *
  obtain⟨op,rs,a,b,nn,tg,ll,le⟩:=x
  obtain⟨c0,c1,c2,c3,c4,c5,c6,c7⟩:=qp Xz
  have hpx:=hp (.mk op rs a b nn tg ll le)
  have Oa:o9=1000000000000:=rfl
  have ct:bH=70368744177664:=rfl
  simp only[dZ,vM] at hN hn hw hd
  have RU:=rQ st
  have HC:=ht.len
  have w1:sa.wrap ((i:Int)+1)=((i+1:Nat):Int):=by rw[bA (by omega) (by omega)];rfl
  have w2:sa.wrap ((d:Int)+1)=((d+1:Nat):Int):=by rw[bA (by omega) (by omega)];rfl
  have w3:sa.wrap ((n:Int)+1)=((n+1:Nat):Int):=by rw[bA (by omega) (by omega)];rfl
  have NT:(i:Int)<(xs.length:Int):=by omega
  cases hok:p (.mk op rs a b nn tg ll le) with
  |false=>
   refine⟨Xy l tags n most,ah aI (vS l tags n most cells st.length xs d i op rs a b nn tg ll le false) ?_,.inr ⟨?_,_,_,_,rfl⟩⟩
   · simp only[lV,bu,aA.ok,acN,gn,acF,c0,c1,c2,c3,c4,c5,c6,c7,isInt,aQ,aq,az,aR,an,aM]
     refine⟨fun _=>⟨by simp[NT],by simp,rfl,?_,fun _=>rfl,fun h=>by cases h⟩,fun h=>absurd NT (by simpa using h)⟩
     rw[hok] at hpx;exact hpx
   · rw[o8,ud,zl,Ww,hok];simp
  |true=>
   have next : ∀(s:iZ) (cs:List AV),fW (st++s) cs→wS s≤2*(dZ ll+dZ le)+2→qq s=dZ ll+dZ le→K3 p s=(zl p ll&&zl p le)→vQ s=max (oZ ll) (oZ le)→vP s=max (jP (d+1) ll) (jP (d+1) le)→(∀e∈s,e.2+dZ e.1≤o9) →
     ∃o,bD ae env (af ae env 134 2 [.vy 0,.ms 6 0 (st++s).length 2 none,.mp 7 0,aL xs,sI .i64 xs.length,sI .i64 (i+1:Nat)] (HV l (max tags tg.length:Nat) (n+1:Nat) (max most d:Nat) cs++[.ac [aL xs,sI .i64 d]]) 6 64) o∧zn p l (st++[(.mk op rs a b nn tg ll le::ys,d)]) tags n most o:=by
    intro s cs hts hws hns hos htg hds hes
    obtain⟨o,ho,hq⟩:=ihr (i+1) (st++s) cs (max tags tg.length) (n+1) (max most d) (by omega) (by rw[rP,hys];omega) hts (by rw[kj,hys];omega) (by rw[rP,hys];omega)
     (fun e hm=>(List.mem_append.1 hm).elim (he e) (hes e)) (by rw[hys];omega)
    refine⟨o,ho,?_⟩
    rw[hys] at hq
    unfold zn at hq ⊢
    simp only[o8,kj,sY,sX,ud,vR,CN,CM,hos,hns,htg,hds] at hq ⊢
    simp only[zl,Ww,dZ,vM,oZ,OI,jP,E7,hok,Bool.true_and]
    rcases hq with⟨q1,q2⟩ | ⟨q1,q2⟩
    · refine .inl ⟨by rw[Bool.and_assoc] at q1;exact q1,?_⟩
      rw[q2]
      congr 1<;>congr 1<;>omega
    · exact .inr ⟨by rw[Bool.and_assoc] at q1;exact q1,q2⟩
   have tree:=vS l tags n most cells st.length xs d i op rs a b nn tg ll le true
   have OK:au ae env 125 [CL op rs a b nn tg ll le] [] (sB true) []:=by rw[hok] at hpx;exact hpx
   have ZU:max (tags:Int) (tg.length:Int)=((max tags tg.length:Nat):Int):=by omega
   have ZV:max (most:Int) (d:Int)=((max most d:Nat):Int):=by omega
   have nl : ∀z:List Ins,z≠[]→0<(z.length:Int):=fun z hz=>by have:=List.length_pos_iff.2 hz;omega
   by_cases RS:ll=[]
   · by_cases hle:le=[]
     · subst RS;subst hle
       obtain⟨o,ho,hq⟩:=next [] (cells.map aj) (by rw[Lk];exact ht.keep) (by simp[wS,dZ]) (by simp[qq,dZ]) (by simp[K3,zl]) (by simp[vQ,oZ]) (by simp[vP,jP]) (fun _ h=>by cases h)
       refine⟨o,ah aI tree ?_,hq⟩
       simp only[lV,bu,aA.ok,acN,gn,acF,c0,c1,c2,c3,c4,c5,c6,c7,isInt,aQ,aq,az,aR,an,aM,w1,w2,w3,cond_false,ZU,ZV]
       rw[Lk] at ho
       exact⟨fun _=>⟨by simp[NT],by simp,rfl,OK,fun h=>(by cases h),fun _=>⟨rfl,fun h=>(by simp at h),fun _=>⟨fun h=>(by simp at h),fun _=>⟨(by trivial),ho⟩⟩⟩⟩,fun h=>absurd NT (by simpa using h)⟩
     · subst RS
       have nle:=nl le hle
       obtain⟨o,ho,hq⟩:=next [(le,d+1)] _ (ht.push le (d+1)).keep (by simp[dZ]) (by simp[dZ]) (by simp[zl]) (by simp[oZ]) (by simp[jP]) (fun e h=>by simp only[acB] at h;subst h;simp only;omega)
       refine⟨o,ah aI tree ?_,hq⟩
       simp only[lV,bu,aA.ok,acN,gn,acF,c0,c1,c2,c3,c4,c5,c6,c7,isInt,aQ,aq,az,aR,an,aM,w1,w2,w3,cond_false,ZU,ZV]
       rw[dT] at ho
       exact⟨fun _=>⟨by simp[NT],by simp,rfl,OK,fun h=>(by cases h),fun _=>⟨rfl,fun h=>(by simp at h),fun _=>⟨fun _=>⟨rfl,(by simp;omega),(by trivial),ho⟩,fun h=>absurd nle (by simpa using h)⟩⟩⟩,fun h=>absurd NT (by simpa using h)⟩
   · have nll:=nl ll RS
     by_cases hle:le=[]
     · subst hle
       obtain⟨o,ho,hq⟩:=next [(ll,d+1)] _ (ht.push ll (d+1)).keep (by simp[dZ]) (by simp[dZ]) (by simp[zl]) (by simp[oZ]) (by simp[jP]) (fun e h=>by simp only[acB] at h;subst h;simp only;omega)
       refine⟨o,ah aI tree ?_,hq⟩
       simp only[lV,bu,aA.ok,acN,gn,acF,c0,c1,c2,c3,c4,c5,c6,c7,isInt,aQ,aq,az,aR,an,aM,w1,w2,w3,cond_false,ZU,ZV]
       rw[dT] at ho
       exact⟨fun _=>⟨by simp[NT],by simp,rfl,OK,fun h=>(by cases h),fun _=>⟨rfl,fun _=>⟨rfl,(by simp;omega),fun h=>(by simp at h),fun _=>⟨(by trivial),ho⟩⟩,fun h=>absurd nll (by simpa using h)⟩⟩,fun h=>absurd NT (by simpa using h)⟩
     · have nle:=nl le hle
       have Kr:=(ht.push ll (d+1)).push le (d+1)
       rw[List.append_assoc] at Kr
       obtain⟨o,ho,hq⟩:=next [(ll,d+1),(le,d+1)] _ Kr.keep (by simp[wS];omega) (by simp[qq]) (by simp[K3]) (by simp[vQ]) (by simp[vP]) (fun e h=>by simp only[List.mem_cons,List.not_mem_nil,or_false] at h;rcases h with rfl | rfl<;>simp only<;>omega)
       refine⟨o,ah aI tree ?_,hq⟩
       simp only[lV,bu,aA.ok,acN,gn,acF,c0,c1,c2,c3,c4,c5,c6,c7,isInt,aQ,aq,az,aR,an,aM,w1,w2,w3,cond_false,ZU,ZV]
       simp only[dT,od,acA,acF] at ho
       exact⟨fun _=>⟨by simp[NT],by simp,rfl,OK,fun h=>(by cases h),fun _=>⟨rfl,fun _=>⟨rfl,(by simp;omega),fun _=>⟨rfl,(by simp;omega),(by trivial),ho⟩,fun h=>absurd nle (by simpa using h)⟩,fun h=>absurd nll (by simpa using h)⟩⟩,fun h=>absurd NT (by simpa using h)⟩
include hp in
theorem zo : ∀(N:Nat) (st:iZ) (cells:List AV) (tags n most:Nat),wS st<N→fW st cells→n+qq st≤o9→wS st≤o9→(∀e∈st,e.2+dZ e.1≤o9) →
   ∃o,bD ae env (af ae env 134 0 [.vy 0,.ms 6 0 st.length 2 none] (HV l tags n most cells) 6 64) o∧zn p l st tags n most o
 |0,_,_,_,_,_,h,_,_,_,_=>by omega
 |N+1,st,cells,tags,n,most,hN,ht,hn,hw,he=>by
  rcases List.eq_nil_or_concat st with rfl | ⟨s,⟨x,d⟩,rfl⟩
  · exact⟨_,ah aI (K5 l tags n most cells) rfl,.inl ⟨rfl,(by simp[vQ,qq,vP];rfl)⟩⟩
  · rw[List.concat_eq_append] at *
    have hx:=he (x,d) (by simp)
    rw[rP,SR] at hN hw
    rw[kj,vR] at hn
    obtain⟨t0,t1⟩:=ht.top
    have HC:=ht.len
    have RU:=rQ s
    have Oa:o9=1000000000000:=rfl
    have hnx:=sW x
    simp only[dT,od,acA] at HC hx
    obtain⟨o,ho,hq⟩:=HW p hp l N (fun st cells tags n most=>zo N st cells tags n most) x (by omega) d x.length 0 s (cells.map aj) tags n most (by omega) (by rw[acw];omega) ht.pop.keep (by rw[acw];omega) (by rw[acw];omega)
     (fun e hm=>he e (List.mem_append_left _ hm)) (by rw[acw];omega)
    rw[acw] at hq
    refine⟨o,?_,hq⟩
    have w1:sa.wrap (((s.length+1:Nat):Int)-1)=(s.length:Int):=by rw[bA (by omega) (by omega)];omega
    rw[dT,List.length_singleton]
    refine ah aI (K4 l tags n most cells s.length x d) ?_
    simp only[Gk,bu,aA.ok,acN,pD,t0,t1,gX,yu,w1,isInt,aQ,aq,az,aR,an,aM,Nat.sub_zero]
    exact⟨fun _=>⟨(by trivial),(by simp;omega),(by simp;omega),(by trivial),(by trivial),(by simp),ho⟩,fun h=>absurd h (by simp)⟩
end
end Go.Proofs.YtncncijedmfpjaaGreatDoor.N
end
section
namespace Go.Proofs.YtncncijedmfpjaaGreatDoor.N
open Go Go.Am
section
variable (l:List Ins)
end
end Go.Proofs.YtncncijedmfpjaaGreatDoor.N
end
section
namespace Go.Proofs.YtncncijedmfpjaaGreatDoor.N
open Go Go.Am
def aaZ (l:List Ins) (tags n most:Int) (f:FuncId) (_:List AV) (_:Mem):Option (AV×Mem):=cond (bj f 134) (some (.aK [],[recC l .ready none,.pc [.ps l.length 8 (ak l)],.pc [sP 0],.pc [sP tags],.pc [sP n],.pc [sP most]])) none
def aa0 (l:List Ins) (tags n most:Int) (f:FuncId) (_:List AV) (_:Mem):Option (AV×Mem):=cond (bj f 134) (some (.aK [],[recC l .done (some .ret),.pc [.ps l.length 8 (ak l)],.pc [sP 2],.pc [sP tags],.pc [sP n],.pc [sP most]])) none
def SW:bN:=aP aF aC [(134,0)] [] []
def XA:Sc:= .fin
def OL (l:List Ins):aA:=
 (.at (af ae env 134 0 [.vy 0,.ms 6 0 1 2 none] ([recC l acK none,.pc [.ps l.length 8 (ak l)],.pc [sP 0],.pc [sP 0],.pc [sP 0],.pc [sP 0],.ob (dV.gr 155 true) [.p (.ps l.length 8 (ak l)),sI .i64 1]]) 6 64))
theorem CO (l:List Ins):aG ae env SW 1000000 134 ([AV.vy 0,AV.mp 1 0]) ([recC l acK acH,aN.pc [PV.ps l.length 8 (ak l)],aN.pc [sP 0],aN.pc [sP 0],aN.pc [sP 0],aN.pc [sP 0]]) XA=OL l:=by kernel_rfl
def OM (l:List Ins) (tags n most:Int):bN:=aP (aaZ l tags n most) aC [] [(109,10,3),(109,10,7),(109,0,0)] []
def SX:Sc:=(.fork (.lit (.lit .fin)) (.fork (.lit .fin) .fin))
def K6 (l:List Ins) (tags n most:Int):aA:=
 (.call ⟨134,[.vy 0,.mp 1 0],[recC l acK none,.pc [.ps l.length 8 (ak l)],.pc [sP 0],.pc [sP 0],.pc [sP 0],.pc [sP 0]],.aK [],[recC l acK none,.pc [.ps l.length 8 (ak l)],.pc [sP 0],.pc [sP tags],.pc [sP n],.pc [sP most]]⟩
 (.test (decide (n>262144))
 (.out (.ret (sI .i64 141) []))
 (.test (decide (tags>16384))
 (.out (.ret (sI .i64 141) []))
 (.test (decide (most>900))
 (.out (.ret (sI .i64 141) []))
 (.out (.ret (sI .i64 0) []))))))
theorem HX (l:List Ins) (tags n most:Int):aG ae env (OM l tags n most) 1000000 109 ([aL l]) ([]) SX=K6 l tags n most:=by kernel_rfl
def ON (l:List Ins) (tags n most:Int):bN:=aP (aa0 l tags n most) aC [] [] []
def SY:Sc:= .fin
def K7 (l:List Ins) (tags n most:Int):aA:=
 (.call ⟨134,[.vy 0,.mp 1 0],[recC l acK none,.pc [.ps l.length 8 (ak l)],.pc [sP 0],.pc [sP 0],.pc [sP 0],.pc [sP 0]],.aK [],[recC l LoopState.done (some Code.ret),.pc [.ps l.length 8 (ak l)],.pc [sP 2],.pc [sP tags],.pc [sP n],.pc [sP most]]⟩
 (.out (.ret (sI .i64 2) [])))
theorem HY (l:List Ins) (tags n most:Int):aG ae env (ON l tags n most) 1000000 109 ([aL l]) ([]) SY=K7 l tags n most:=by kernel_rfl
theorem OO (l:List Ins):fW [(l,1)] [.p (.ps l.length 8 (ak l)),.p (.sc (.int .i64 1))]:=rfl
def dg (p:Ins→Bool) (l:List Ins):Int:=if zl p l=false then 2 else if 262144<dZ l∨16384<oZ l∨900<jP 1 l then 141 else 0
theorem vT {p:Ins→Bool} (hp : ∀x:Ins,au ae env 125 [SQ x] [] (sB (p x)) []) (l:List Ins) (h:dZ l≤100000000000):au ae env 109 [aL l] [] (sI .i64 (dg p l)) []:=by
 have Oa:o9=1000000000000:=rfl
 obtain⟨o,ho,hq⟩:=zo p hp l (2*dZ l+2) [(l,1)] _ 0 0 0 (by simp) (OO l) (by simp;omega) (by simp;omega) (fun e he=>by simp only[acB] at he;subst he;simp only;omega)
 rcases hq with⟨q1,rfl⟩ | ⟨q1,t,k,m,rfl⟩
 · have hd:au ae env 134 [.vy 0,.mp 1 0] _ (.aK []) _:=aa aI (CO l) ho
   refine aa aI (HX l _ _ _) ⟨hd,?_⟩
   rw[ud] at q1
   simp only[CN,vR,CM,pD,Nat.zero_max]
   have z : ∀a b:Nat,decide ((a:Int)>(b:Int))=decide (b<a):=fun a b=>by congr 1;exact propext (by omega)
   unfold dg
   rw[if_neg (by rw[q1];simp)]
   refine⟨fun h1=> ?_,fun h1=>⟨fun h2=> ?_,fun h2=>⟨fun h3=> ?_,fun h3=> ?_⟩⟩⟩<;>simp only[decide_eq_true_eq,decide_eq_false_iff_not] at *
   · rw[if_pos (by omega)];rfl
   · rw[if_pos (by omega)];rfl
   · rw[if_pos (by omega)];rfl
   · rw[if_neg (by omega)];rfl
 · have hd:au ae env 134 [.vy 0,.mp 1 0] _ (.aK []) _:=aa aI (CO l) ho
   refine aa aI (HY l t k m) ⟨hd,?_⟩
   rw[ud] at q1
   unfold dg
   rw[if_pos q1];rfl
end Go.Proofs.YtncncijedmfpjaaGreatDoor.N
end
section
namespace Go.Proofs.YtncncijedmfpjaaGreatDoor.N
open Go Go.Am
def HZ:dx:=⟨153,[.p (.sc (.string ⟨#[101,113,122,32,101,113,32,110,101,32,108,116,95,115,32,108,116,95,117,32,103,116,95,115,32,103,116,95,117,32,108,101,95,115,32,108,101,95,117,32,103,101,95,115,32,103,101,95,117]⟩))],[],.p (.ps 11 1 [.sc (.string ⟨#[101,113,122]⟩),.sc (.string ⟨#[101,113]⟩),.sc (.string ⟨#[110,101]⟩),.sc (.string ⟨#[108,116,95,115]⟩),.sc (.string ⟨#[108,116,95,117]⟩),.sc (.string ⟨#[103,116,95,115]⟩),.sc (.string ⟨#[103,116,95,117]⟩),.sc (.string ⟨#[108,101,95,115]⟩),.sc (.string ⟨#[108,101,95,117]⟩),.sc (.string ⟨#[103,101,95,115]⟩),.sc (.string ⟨#[103,101,95,117]⟩)]),[]⟩
theorem aa1:au ae env HZ.g HZ.args HZ.m HZ.v HZ.m':=gC aI (K:=[]) nR (n:=10000000) (by kernel_rfl)
def SZ:List dx:=HZ::[]
theorem K8:gu ae env SZ:=iq aa1 nR
def H6:dx:=⟨153,[.p (.sc (.string ⟨#[99,108,122,32,99,116,122,32,112,111,112,99,110,116,32,97,100,100,32,115,117,98,32,109,117,108,32,100,105,118,95,115,32,100,105,118,95,117,32,114,101,109,95,115,32,114,101,109,95,117,32,97,110,100,32,111,114,32,120,111,114,32,115,104,108,32,115,104,114,95,115,32,115,104,114,95,117,32,114,111,116,108,32,114,111,116,114]⟩))],[],.p (.ps 18 1 [.sc (.string ⟨#[99,108,122]⟩),.sc (.string ⟨#[99,116,122]⟩),.sc (.string ⟨#[112,111,112,99,110,116]⟩),.sc (.string ⟨#[97,100,100]⟩),.sc (.string ⟨#[115,117,98]⟩),.sc (.string ⟨#[109,117,108]⟩),.sc (.string ⟨#[100,105,118,95,115]⟩),.sc (.string ⟨#[100,105,118,95,117]⟩),.sc (.string ⟨#[114,101,109,95,115]⟩),.sc (.string ⟨#[114,101,109,95,117]⟩),.sc (.string ⟨#[97,110,100]⟩),.sc (.string ⟨#[111,114]⟩),.sc (.string ⟨#[120,111,114]⟩),.sc (.string ⟨#[115,104,108]⟩),.sc (.string ⟨#[115,104,114,95,115]⟩),.sc (.string ⟨#[115,104,114,95,117]⟩),.sc (.string ⟨#[114,111,116,108]⟩),.sc (.string ⟨#[114,111,116,114]⟩)]),[]⟩
theorem aa2:au ae env H6.g H6.args H6.m H6.v H6.m':=gC aI (K:=SZ) K8 (n:=10000000) (by kernel_rfl)
def XB:List dx:=H6::SZ
theorem S0:gu ae env XB:=iq aa2 K8
def NU:List ByteArray:=[⟨#[117,110,114,101,97,99,104,97,98,108,101]⟩,⟨#[110,111,112]⟩,⟨#[98,108,111,99,107]⟩,⟨#[108,111,111,112]⟩,⟨#[105,102]⟩,⟨#[]⟩,⟨#[]⟩,⟨#[]⟩,⟨#[]⟩,⟨#[]⟩,⟨#[]⟩,⟨#[]⟩,⟨#[98,114]⟩,⟨#[98,114,95,105,102]⟩,⟨#[98,114,95,116,97,98,108,101]⟩,⟨#[114,101,116,117,114,110]⟩,⟨#[99,97,108,108]⟩,⟨#[99,97,108,108,95,105,110,100,105,114,101,99,116]⟩,⟨#[]⟩,⟨#[]⟩,⟨#[]⟩,⟨#[]⟩,⟨#[]⟩,⟨#[]⟩,⟨#[]⟩,⟨#[]⟩,⟨#[100,114,111,112]⟩,⟨#[115,101,108,101,99,116]⟩,⟨#[]⟩,⟨#[]⟩,⟨#[]⟩,⟨#[]⟩,⟨#[108,111,99,97,108,46,103,101,116]⟩,⟨#[108,111,99,97,108,46,115,101,116]⟩,⟨#[108,111,99,97,108,46,116,101,101]⟩,⟨#[103,108,111,98,97,108,46,103,101,116]⟩,⟨#[103,108,111,98,97,108,46,115,101,116]⟩,⟨#[]⟩,⟨#[]⟩,⟨#[]⟩,⟨#[105,51,50,46,108,111,97,100]⟩,⟨#[]⟩,⟨#[]⟩,⟨#[]⟩,⟨#[105,51,50,46,108,111,97,100,56,95,115]⟩,⟨#[105,51,50,46,108,111,97,100,56,95,117]⟩,⟨#[105,51,50,46,108,111,97,100,49,54,95,115]⟩,⟨#[105,51,50,46,108,111,97,100,49,54,95,117]⟩,⟨#[]⟩,⟨#[]⟩,⟨#[]⟩,⟨#[]⟩,⟨#[]⟩,⟨#[]⟩,⟨#[105,51,50,46,115,116,111,114,101]⟩,⟨#[]⟩,⟨#[]⟩,⟨#[]⟩,⟨#[105,51,50,46,115,116,111,114,101,56]⟩,⟨#[105,51,50,46,115,116,111,114,101,49,54]⟩,⟨#[]⟩,⟨#[]⟩,⟨#[]⟩,⟨#[109,101,109,111,114,121,46,115,105,122,101]⟩,⟨#[109,101,109,111,114,121,46,103,114,111,119]⟩,⟨#[105,51,50,46,99,111,110,115,116]⟩,⟨#[]⟩,⟨#[]⟩,⟨#[]⟩,⟨#[105,51,50,46,101,113,122]⟩,⟨#[105,51,50,46,101,113]⟩,⟨#[105,51,50,46,110,101]⟩,⟨#[105,51,50,46,108,116,95,115]⟩,⟨#[105,51,50,46,108,116,95,117]⟩,⟨#[105,51,50,46,103,116,95,115]⟩,⟨#[105,51,50,46,103,116,95,117]⟩,⟨#[105,51,50,46,108,101,95,115]⟩,⟨#[105,51,50,46,108,101,95,117]⟩,⟨#[105,51,50,46,103,101,95,115]⟩,⟨#[105,51,50,46,103,101,95,117]⟩,⟨#[]⟩,⟨#[]⟩,⟨#[]⟩,⟨#[]⟩,⟨#[]⟩,⟨#[]⟩,⟨#[]⟩,⟨#[]⟩,⟨#[]⟩,⟨#[]⟩,⟨#[]⟩,⟨#[]⟩,⟨#[]⟩,⟨#[]⟩,⟨#[]⟩,⟨#[]⟩,⟨#[]⟩,⟨#[]⟩,⟨#[]⟩,⟨#[]⟩,⟨#[]⟩,⟨#[]⟩,⟨#[]⟩,⟨#[105,51,50,46,99,108,122]⟩,⟨#[105,51,50,46,99,116,122]⟩,⟨#[105,51,50,46,112,111,112,99,110,116]⟩,⟨#[105,51,50,46,97,100,100]⟩,⟨#[105,51,50,46,115,117,98]⟩,⟨#[105,51,50,46,109,117,108]⟩,⟨#[105,51,50,46,100,105,118,95,115]⟩,⟨#[105,51,50,46,100,105,118,95,117]⟩,⟨#[105,51,50,46,114,101,109,95,115]⟩,⟨#[105,51,50,46,114,101,109,95,117]⟩,⟨#[105,51,50,46,97,110,100]⟩,⟨#[105,51,50,46,111,114]⟩,⟨#[105,51,50,46,120,111,114]⟩,⟨#[105,51,50,46,115,104,108]⟩,⟨#[105,51,50,46,115,104,114,95,115]⟩,⟨#[105,51,50,46,115,104,114,95,117]⟩,⟨#[105,51,50,46,114,111,116,108]⟩,⟨#[105,51,50,46,114,111,116,114]⟩,⟨#[]⟩,⟨#[]⟩,⟨#[]⟩,⟨#[]⟩,⟨#[]⟩,⟨#[]⟩,⟨#[]⟩,⟨#[]⟩,⟨#[]⟩,⟨#[]⟩,⟨#[]⟩,⟨#[]⟩,⟨#[]⟩,⟨#[]⟩,⟨#[]⟩,⟨#[]⟩,⟨#[]⟩,⟨#[]⟩,⟨#[]⟩,⟨#[]⟩,⟨#[]⟩,⟨#[]⟩,⟨#[]⟩,⟨#[]⟩,⟨#[]⟩,⟨#[]⟩,⟨#[]⟩,⟨#[]⟩,⟨#[]⟩,⟨#[]⟩,⟨#[]⟩,⟨#[]⟩,⟨#[]⟩,⟨#[]⟩,⟨#[]⟩,⟨#[]⟩,⟨#[]⟩,⟨#[]⟩,⟨#[]⟩,⟨#[]⟩,⟨#[]⟩,⟨#[]⟩,⟨#[]⟩,⟨#[]⟩,⟨#[]⟩,⟨#[]⟩,⟨#[]⟩,⟨#[]⟩,⟨#[]⟩,⟨#[]⟩,⟨#[]⟩,⟨#[]⟩,⟨#[]⟩,⟨#[]⟩,⟨#[]⟩,⟨#[]⟩,⟨#[]⟩,⟨#[]⟩,⟨#[]⟩,⟨#[]⟩,⟨#[]⟩,⟨#[]⟩,⟨#[]⟩,⟨#[]⟩,⟨#[]⟩,⟨#[]⟩,⟨#[]⟩,⟨#[]⟩,⟨#[]⟩,⟨#[]⟩,⟨#[]⟩,⟨#[]⟩,⟨#[]⟩,⟨#[]⟩,⟨#[]⟩,⟨#[]⟩,⟨#[]⟩,⟨#[]⟩,⟨#[]⟩,⟨#[]⟩,⟨#[]⟩,⟨#[]⟩,⟨#[]⟩,⟨#[]⟩,⟨#[]⟩,⟨#[]⟩,⟨#[]⟩,⟨#[]⟩,⟨#[]⟩,⟨#[]⟩,⟨#[]⟩,⟨#[]⟩,⟨#[]⟩,⟨#[]⟩,⟨#[]⟩,⟨#[]⟩,⟨#[]⟩,⟨#[]⟩,⟨#[]⟩,⟨#[]⟩,⟨#[]⟩,⟨#[]⟩,⟨#[]⟩,⟨#[]⟩,⟨#[]⟩,⟨#[]⟩,⟨#[]⟩,⟨#[]⟩,⟨#[]⟩,⟨#[]⟩,⟨#[]⟩,⟨#[]⟩,⟨#[]⟩,⟨#[]⟩,⟨#[]⟩,⟨#[]⟩,⟨#[]⟩,⟨#[]⟩,⟨#[]⟩,⟨#[]⟩,⟨#[]⟩,⟨#[]⟩,⟨#[]⟩,⟨#[]⟩,⟨#[]⟩,⟨#[]⟩,⟨#[]⟩,⟨#[]⟩,⟨#[]⟩,⟨#[]⟩,⟨#[]⟩,⟨#[]⟩,⟨#[]⟩,⟨#[]⟩,⟨#[]⟩]
theorem S1:au ae env 149 [] [] (.agg (NU.map fun s=> .p (.sc (.string s)))) []:=gC aI (K:=XB) S0 (n:=10000000) (by kernel_rfl)
end Go.Proofs.YtncncijedmfpjaaGreatDoor.N
end
