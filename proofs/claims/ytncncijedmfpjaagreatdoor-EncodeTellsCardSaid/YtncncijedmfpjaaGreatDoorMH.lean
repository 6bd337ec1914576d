import Derived.Test.YtncncijedmfpjaaGreatDoorMG
import Derived.Test.YtncncijedmfpjaaGreatDoorChecked
import Derived.Test.YtncncijedmfpjaaGreatDoorMF
import GoSem.PinnedTables
open List renaming getD_eq_getElem?_getD→de,length_append→dC,length_cons→ml,drop_zero→aeI,map_append→aeJ,length_nil→aeK,getElem?_append_right→yr,mem_singleton→aeL,getElem?_eq_getElem→da,map→aeM,take→aeQ,getElem?_eq_none→eb,append_assoc→tl,foldr_append→aeT,length_map→my,append_nil→Hc,map_cons→s0
open Nat renaming reduceAdd→aeV,add_assoc→fw,zero_le→H5,zero_add→pn,beq→ba,lt_or_ge→ft
open Go.Proofs.Tryz renaming prog→ae
open Go.IntKind renaming i64→re,u32→aeG
open Go.TypeInfo renaming mk→aeY
open Option renaming none→ae1,some→ae2
open Go.LoopState renaming ready→ae3
open Min renaming min→ae4
open Max renaming max→afg
open Int renaming toNat_natCast→afm
noncomputable section
section
namespace Go.Am
open Go.RowKit
inductive Ins where
 |mk (op results a b n:Int) (tags:List Int) (l e:List Ins)
namespace Ins
def op:Ins→Int | .mk op _ _ _ _ _ _ _=>op
def results:Ins→Int | .mk _ r _ _ _ _ _ _=>r
def a:Ins→Int | .mk _ _ a _ _ _ _ _=>a
def b:Ins→Int | .mk _ _ _ b _ _ _ _=>b
def n:Ins→Int | .mk _ _ _ _ n _ _ _=>n
def tags:Ins→List Int | .mk _ _ _ _ _ t _ _=>t
def l:Ins→List Ins | .mk _ _ _ _ _ _ l _=>l
def e:Ins→List Ins | .mk _ _ _ _ _ _ _ e=>e
end Ins
def bN (k:IntKind) (l:List Int):List PV:=l.map fun t=> .sc (.int k t)
mutual
def tW:Ins→List PV
 |.mk op r a b n tags l e=>[.sc (.int .i64 op),.sc (.int .i64 r),.sc (.int .u32 a),.sc (.int .u32 b),.sc (.int .i32 n),.ps tags.length 1 (bN .u32 tags),.ps l.length 8 (aj l),.ps e.length 8 (aj e)]
def aj:List Ins→List PV
 |[]=>[]
 |x::r=>tW x++aj r
end
mutual
def Tw:Ins→Prop
 |.mk op r a b n tags l e=>(Lit.int .i64 op).wf=true∧(Lit.int .i64 r).wf=true∧(Lit.int .u32 a).wf=true∧(Lit.int .u32 b).wf=true∧(Lit.int .i32 n).wf=true∧(tags.length≤maxLen ∧ ∀t∈tags,(Lit.int .u32 t).wf=true)∧(l.length≤maxLen∧qn l)∧e.length≤maxLen∧qn e
def qn:List Ins→Prop
 |[]=>True
 |x::r=>Tw x∧qn r
end
theorem Bm : ∀l:List Ins,aj l=l.flatMap tW
 |[]=>rfl
 |x::r=>by rw[aj,Bm r];rfl
theorem J7 : ∀{l:List Ins},(∀x∈l,Tw x)→qn l
 |[],_=>trivial
 |x::_,h=>⟨h x (.head _),J7 fun y hy=>h y (.tail _ hy)⟩
theorem jq : ∀x:Ins,(tW x).length=8
 |.mk .. =>rfl
structure Zr (P:Program) (tL tI ti tu tn tt:TypeId) (fs:Array Field):Prop where
 hL:P.underlying tL=some (.slice tI)
 hI:P.underlying tI=some (.struct fs)
 hz:P.cellsOf tI=8
 hf:fs.toList.map (fun f=>(f.offset,f.type))=[(0,ti),(1,ti),(2,tu),(3,tu),(4,tn),(5,tt),(6,tL),(7,tL)]
 h1:P.cellsOf ti=1∧P.cellsOf tu=1∧P.cellsOf tn=1∧P.cellsOf tt=1∧P.cellsOf tL=1
 ki:P.underlying ti=some (.int .i64)
 ku:P.underlying tu=some (.int .u32)
 kn:P.underlying tn=some (.int .i32)
 kt:P.underlying tt=some (.slice tu)
section
variable {H:Type} {enc:TypeId×Value→H} {P:Program} {w:World} {base:Nat} {spare:Nat→Bool} {held:Bool} {tL tI ti tu tn tt:TypeId} {fs:Array Field}
theorem Zs {i:Nat} {o t:Nat} (hf:(fs.toList.map fun f=>(f.offset,f.type))[i]? = some (o,t)) : ∃f,fs[i]? = some f∧f.offset=o∧f.type=t:=by
 rw[List.getElem?_map] at hf
 cases h:fs.toList[i]? with
 |none=>rw[h] at hf;cases hf
 |some f=>
  rw[h] at hf
  simp only[Option.map_some,Option.some.injEq,Prod.mk.injEq] at hf
  exact⟨f,by simpa using h,hf.1,hf.2⟩
theorem cq.cat {w:World} {x:PV} {l:List PV} {v:Value} {cs:List Value} (h:cq w [x] [v]) (k:cq w l cs):cq w (x::l) (v::cs):=h.append k
theorem Fv (T:Zr P tL tI ti tu tn tt fs) : ∀(fuel:Nat) (cs:List Value) (x:DataW H×List MemPlace),DataW.trod enc P w base spare held fuel tL cs=some x →
  ∃l:List Ins,(l.length≤maxLen∧qn l)∧cq w [.ps l.length 8 (aj l)] cs:=by
 intro fuel
 induction fuel using Nat.strongRecOn with
 |ind fuel ih=>
  intro cs x h
  obtain⟨xs,h0,h1,h2⟩:=kI (m0:=tW) (wf:=Tw) T.hL (by rw[T.hz];omega) h fun n hn us y hy=>by
   obtain⟨m,rfl,hlen,hg⟩:=jF T.hI hy
   rw[T.hz] at hlen
   have get : ∀(i:Nat) (o t:Nat),[(0,ti),(1,ti),(2,tu),(3,tu),(4,tn),(5,tt),(6,tL),(7,tL)][i]? = some (o,t)→P.cellsOf t=1 → ∃y,DataW.trod enc P w base spare held m t ((us.drop o).take 1)=some y:=by
    intro i o t hi hc
    obtain⟨f,q1,q2,q3⟩:=Zs (fs:=fs) (i:=i) (by rw[T.hf];exact hi)
    obtain⟨y,hy⟩:=hg i f q1
    rw[q2,q3,hc] at hy
    exact⟨y,hy⟩
   obtain⟨c1,c2,c3,c4,c5⟩:=T.h1
   obtain⟨y0,e0⟩:=get 0 0 ti rfl c1
   obtain⟨y1,e1⟩:=get 1 1 ti rfl c1
   obtain⟨y2,e2⟩:=get 2 2 tu rfl c2
   obtain⟨y3,e3⟩:=get 3 3 tu rfl c2
   obtain⟨y4,e4⟩:=get 4 4 tn rfl c3
   obtain⟨y5,e5⟩:=get 5 5 tt rfl c4
   obtain⟨y6,e6⟩:=get 6 6 tL rfl c5
   obtain⟨y7,e7⟩:=get 7 7 tL rfl c5
   match us,hlen with
   |[u0,u1,u2,u3,u4,u5,u6,u7],_=>
    simp only[aeI,List.drop_succ_cons,List.take_succ_cons,List.take_zero] at e0 e1 e2 e3 e4 e5 e6 e7
    obtain⟨n0,w0,k0⟩:=cr T.ki e0
    obtain⟨n1,w1,k1⟩:=cr T.ki e1
    obtain⟨n2,w2,k2⟩:=cr T.ku e2
    obtain⟨n3,w3,k3⟩:=cr T.ku e3
    obtain⟨n4,w4,k4⟩:=cr T.kn e4
    obtain⟨n5,w5,w5',k5⟩:=qm T.kt T.ku c2 e5
    obtain⟨n6,w6,k6⟩:=ih m (by omega) _ _ e6
    obtain⟨n7,w7,k7⟩:=ih m (by omega) _ _ e7
    exact⟨.mk n0 n1 n2 n3 n4 n5 n6 n7,⟨w0,w1,w2,w3,w4,⟨w5,w5'⟩,w6,w7⟩,k0.cat (k1.cat (k2.cat (k3.cat (k4.cat (k5.cat (k6.cat k7))))))⟩
  refine⟨xs,⟨h0,J7 h1⟩,?_⟩
  rw[T.hz,←Bm] at h2
  exact h2
end
end Go.Am
end
section
namespace Go.Am
theorem pH (k:IntKind) (l:List Int) (n:Nat) (h:n<l.length):(bN k l).getD n .bz = .sc (.int k (l.getD n 0)):=by
 simp[bN,de,da h]
theorem Fw (k:IntKind) (l:List Int) (n:Nat) (h:l.length≤n):(bN k l).getD n .bz = .bz:=by
 simp[bN,de,eb h]
@[simp] theorem Zt (k:IntKind) (l:List Int) (n:Nat):au ((bN k l).getD n .bz)=l.getD n 0:=by
  rcases ft n l.length with h | h
  · rw[pH k l n h];rfl
  · rw[Fw k l n h]
    simp[de,eb h]
    rfl
@[simp] theorem Zu (k:IntKind) (l:List Int) (n:Nat):isInt k ((bN k l).getD n .bz)=decide (n<l.length):=by
  rcases ft n l.length with h | h
  · rw[pH k l n h];simp[isInt,h]
  · rw[Fw k l n h];simp[isInt];omega
theorem Fx {k:IntKind} : ∀{l m:List Int},bN k l=bN k m→l=m
 |[],[],_=>rfl
 |[],_::_,h=>by simp[bN] at h
 |_::_,[],h=>by simp[bN] at h
 |a::l,b::m,h=>by
  simp only[bN,s0,List.cons.injEq,PV.sc.injEq,Value.int.injEq,true_and] at h
  rw[h.1,Fx (l:=l) (m:=m) h.2]
mutual
theorem Pf : ∀{x y:Ins},tW x=tW y→x=y
 |.mk op r a b n tags l e,.mk op' r' a' b' n' tags' l' e',h=>by
  simp only[tW,List.cons.injEq,PV.sc.injEq,Value.int.injEq,PV.ps.injEq,true_and,and_true] at h
  obtain⟨rfl,rfl,rfl,rfl,rfl,⟨_,h5⟩,⟨_,h6⟩,_,h7⟩:=h
  rw[Fx h5,mq h6,mq h7]
theorem mq : ∀{l m:List Ins},aj l=aj m→l=m
 |[],[],_=>rfl
 |[],.mk .. :: _,h=>by simp[aj,tW] at h
 |.mk .. :: _,[],h=>by simp[aj,tW] at h
 |x::l,y::m,h=>by
  simp only[aj] at h
  obtain⟨h1,h2⟩:=List.append_inj h (by rw[jq,jq])
  rw[Pf h1,mq h2]
end
theorem tX : ∀{l:List Ins} {k:Nat} {x:Ins},l[k]? = some x → ∀c,c<8→(aj l).getD (k*8+c) .bz=(tW x).getD c .bz
 |[],_,_,h,_,_=>by simp at h
 |y::l,0,x,h,c,hc=>by
  simp only[List.getElem?_cons_zero,Option.some.injEq] at h;subst h
  rw[aj,Nat.zero_mul,pn,de,de,List.getElem?_append_left (by rw[jq];exact hc)]
 |y::l,k+1,x,h,c,hc=>by
  have ih:=tX (l:=l) (k:=k) (x:=x) (by simpa using h) c hc
  rw[de] at ih
  rw[aj,de,yr (by rw[jq];omega),jq,show(k+1)*8+c-8=k*8+c by omega]
  exact ih
theorem uT : ∀l m:List Ins,aj (l++m)=aj l++aj m
 |[],_=>rfl
 |x::l,m=>by rw[List.cons_append,aj,aj,uT l m,tl]
theorem Pg (x:Ins):aj [x]=tW x:=by simp[aj]
theorem lF : ∀{l:List Ins} {x:Ins},qn l→x∈l→Tw x
 |_::_,_,h,.head _=>h.1
 |_::_,_,h,.tail _ hx=>lF h.2 hx
mutual
def jr:Ins→Nat
 |.mk _ _ _ _ _ tags l e=>1+tags.length+cz l+cz e
def cz:List Ins→Nat
 |[]=>0
 |x::r=>jr x+cz r
end
theorem jt : ∀l:List Ins,l.length≤cz l
 |[]=>H5 _
 |.mk _ _ _ _ _ t l e::r=>by have:=jt r;simp only[cz,jr,ml];omega
theorem fS : ∀{l:List Ins} {x:Ins},x∈l→jr x≤cz l
 |y::l,x,h=>by
  simp only[cz]
  cases h with
  |head=>omega
  |tail _ h=>have:=fS h;omega
mutual
def dm:List Ins→Int→Int→Int
 |[],_,n=>n
 |x::r,most,n=>if n≤most then dm r most (xP x most n) else n
def xP:Ins→Int→Int→Int
 |.mk _ _ _ _ _ tags l e,most,n=>
  let n1:=n+1+min (tags.length:Int) most
  let n2:=if n1≤most then n1+dm l (most-n1) 0 else n1
  if n2≤most then n2+dm e (most-n2) 0 else n2
end
mutual
theorem xQ : ∀(x:Ins) (most n:Int),0≤n→n≤most→n≤xP x most n∧xP x most n≤2*most+1
 |.mk _ _ _ _ _ tags l e,most,n,h0,h=>by
  simp only[xP]
  generalize hn1:n+1+min (tags.length:Int) most=n1
  have h1:n+1≤n1∧n1≤2*most+1:=by omega
  generalize hn2:(if n1≤most then n1+dm l (most-n1) 0 else n1)=n2
  have h2:n1≤n2∧n2≤2*most+1:=by
   rw[←hn2]
   split
   · have:=cN l (most-n1) 0 (by omega) (by omega) (by omega);omega
   · omega
  split
  · have:=cN e (most-n2) 0 (by omega) (by omega) (by omega);omega
  · omega
theorem cN : ∀(l:List Ins) (most n:Int),0≤most→0≤n→n≤2*most+1→n≤dm l most n∧dm l most n≤2*most+1
 |[],most,n,_,_,h=>by simp only[dm];omega
 |x::r,most,n,hm,h0,h=>by
  simp only[dm]
  split
  · have h1:=xQ x most n h0 (by omega)
    have h2:=cN r most (xP x most n) hm (by omega) (by omega)
    omega
  · omega
end
mutual
theorem Ph : ∀(x:Ins) (most n:Int),0≤n→n≤most→xP x most n≤most→xP x most n=n+jr x
 |.mk _ _ _ _ _ tags l e,most,n,h0,h=>by
  simp only[xP,jr]
  generalize hn1:n+1+min (tags.length:Int) most=n1
  generalize hn2:(if n1≤most then n1+dm l (most-n1) 0 else n1)=n2
  intro h3
  have hle:n2≤most:=by
   split at h3
   · rename_i q;exact q
   · exact h3
  rw[if_pos hle] at h3 ⊢
  have hr2:=cN e (most-n2) 0 (by omega) (by omega) (by omega)
  have akx:n1≤most:=by
   rw[←hn2] at hle
   split at hle
   · rename_i q;exact q
   · exact hle
  rw[if_pos akx] at hn2
  have YX:=cN l (most-n1) 0 (by omega) (by omega) (by omega)
  have e1:=oI l (most-n1) 0 (by omega) (by omega) (by omega)
  have e2:=oI e (most-n2) 0 (by omega) (by omega) (by omega)
  have:min (tags.length:Int) most=tags.length:=by omega
  push_cast
  omega
theorem oI : ∀(l:List Ins) (most n:Int),0≤most→0≤n→dm l most n≤most→dm l most n=n+cz l
 |[],most,n,_,_,h=>by simp[dm,cz]
 |x::r,most,n,hm,h0,h=>by
  simp only[dm,cz] at h ⊢
  split at h
  · rename_i hn
    rw[if_pos hn]
    have hr:=xQ x most n h0 hn
    have hr2:=cN r most (xP x most n) hm (by omega) (by omega)
    have e1:=Ph x most n h0 hn (by omega)
    have e2:=oI r most (xP x most n) hm (by omega) h
    push_cast
    omega
  · omega
end
end Go.Am
end
section
namespace Go.Proofs.YtncncijedmfpjaaGreatDoor.N
open Go Go.Am
def aq (l:List PV) (n:Nat):PV:=l.getD n PV.bz
def aB (i:Nat):Nat:=(i:Int).toNat
def gj:aA:= .out (.ret (sB true) [])
def bB:AV:= .os none 0 0 []
theorem aV:(∀l n,aq l n=l.getD n PV.bz)∧(∀i,aB i=(i:Int).toNat)∧gj = .out (.ret (sB true) [])∧bB = .os none 0 0 []:=⟨fun _ _=>rfl,fun _=>rfl,rfl,rfl⟩
def Pj:List Int:=[0,0,0,0,0,0,0,0,0,1,1,1,1,1,0,0,0,0,0,0,0,0,0,0,0,0,0,0,0,0,0,0,1]++List.replicate 223 0
def iR:List Int:=Pinned.utf8FirstZ.map fun(n:Nat)=>(n:Int)
def afB:List Int:=[128,191,160,191,128,159,144,191,128,143,0,0,0,0,0,0,0,0,0,0,0,0,0,0,0,0,0,0,0,0,0,0]
def tabs:List (Nat×List Value):=[(2,Pj.map (.int .u8)),(0,iR.map (.int .u8)),(1,afB.map (.int .u8))]
def keeps:List (Nat×Nat×List Nat):=[(6,22,[1,2,5,11]),(6,18,[1,2,5,10]),(6,14,[1,2,5,9]),(6,10,[1,2,5,8]),(6,6,[1,2,5,7]),(6,2,[1,2,5,6]),(7,2,[1,5,6]),(9,14,[2,3,7]),(9,8,[2,3,6]),(9,2,[2,3,5]),(10,12,[1,2,3,8]),(10,8,[1,2,3,7]),(10,4,[1,2,3,6]),(10,0,[1,2,3,4]),(11,2,[1,5,6]),(14,0,[2,3]),(16,0,[0,1,5,6]),(17,0,[1,6,7,8]),(22,30,[2,3,10]),(22,24,[2,3,9]),(22,18,[2,3,8]),(22,12,[2,3,7]),(22,6,[2,3,6]),(22,0,[2,3,5]),(23,0,[0,3,4]),(27,2,[2,5,6]),(27,8,[2,5,9]),(27,12,[2,5,10]),(28,2,[1,5,6,7,8]),(29,2,[2,5,6]),(29,10,[2,5,8]),(30,6,[2,5,6,7]),(30,2,[2,5,6]),(30,12,[2,5,8]),(30,16,[2,5,11]),(32,0,[1,3,7,8,9]),(46,2,[0,1,5]),(47,2,[0,1,5]),(48,8,[1,4,5]),(48,2,[1,3]),(49,6,[1,5,6]),(49,0,[1,3,4]),(50,12,[1,5]),(50,6,[1,4]),(50,0,[1,3]),(51,18,[1,7]),(51,12,[1,6]),(51,6,[1,5]),(51,0,[1,3,4]),(52,0,[0,3]),(58,2,[0,3,4]),(61,0,[1,8,9,10]),(63,4,[3,24,25,26]),(63,0,[1,3,9,10,11]),(74,0,[3,11]),(81,2,[2,13,14]),(83,6,[5,18,19,27,28]),(83,2,[5,18,19]),(93,0,[1,34,35,36]),(97,0,[0,1,5]),(99,18,[1,2,8]),(99,12,[1,2,7]),(99,6,[1,2,6]),(99,0,[1,2,5]),(100,4,[1,3,5]),(100,0,[1,3,4]),(104,0,[0,3,4]),(107,0,[0,1,7,8]),(108,12,[3,53,54,55]),(108,8,[1,3,40,41,42]),(108,4,[1,3,27,28,29]),(108,0,[1,3,13,14,15]),(110,0,[0,1,7,8]),(111,0,[0,1,7,8]),(112,0,[0,1,7,8]),(113,0,[0,1,7,8]),(115,0,[0,1,7,8]),(116,0,[0,1,7,8]),(121,0,[0,3,4,5]),(123,0,[0,3,4]),(127,34,[2,5,7,14,15,16,101,102,103]),(127,0,[2,5,14,15,16]),(128,2,[0,1,7,8,10]),(129,0,[0,3]),(130,0,[0,3,4]),(131,0,[0,3,4]),(132,0,[0,3]),(133,10,[1,3,6]),(134,4,[0,3,4,25,26,27]),(134,0,[0,3]),(148,0,[3,4]),(149,4,[0,1,24,25,26]),(149,0,[0,1,10,11,12]),(150,0,[0,1,5]),(153,16,[0,9,10,12]),(153,10,[0,9,10,11,12]),(153,6,[0,9,10,12]),(153,0,[0,3,4,5,6]),(155,12,[0,9,47,48,49]),(155,0,[0,1,5,6,14]),(159,10,[0,1,7,8]),(159,2,[0,1,19,20]),(160,10,[0,1,7,8]),(160,2,[0,1,15,16])]
def wrs (f d:Nat):Bool:=ba f 134&&ba d 9
def env:Env where
 ec:=uR tabs
 wr:=wrs
 keep:=IA keeps
theorem aH:gM ae:=Iy (by kernel_rfl)
end Go.Proofs.YtncncijedmfpjaaGreatDoor.N
end
section
namespace Go.Am
mutual
def okI (p:Ins→Bool):Ins→Bool
 |.mk op r a b n tags l e=>p (.mk op r a b n tags l e)&&(sW p l&&sW p e)
def sW (p:Ins→Bool):List Ins→Bool
 |[]=>true
 |x::r=>okI p x&&sW p r
end
mutual
def pY:Ins→Nat
 |.mk _ _ _ _ _ _ l e=>1+cg l+cg e
def cg:List Ins→Nat
 |[]=>0
 |x::r=>pY x+cg r
end
mutual
def Ds:Nat→Ins→Nat
 |d,.mk _ _ _ _ _ _ l e=>max d (max (dP (d+1) l) (dP (d+1) e))
def dP:Nat→List Ins→Nat
 |_,[]=>0
 |d,x::r=>max (Ds d x) (dP d r)
end
mutual
def Pk:Ins→Nat
 |.mk _ _ _ _ _ tags l e=>max tags.length (max (iS l) (iS e))
def iS:List Ins→Nat
 |[]=>0
 |x::r=>max (Pk x) (iS r)
end
theorem fT : ∀l:List Ins,l.length≤cg l
 |[]=>H5 _
 |.mk _ _ _ _ _ t l e::r=>by have:=fT r;simp only[cg,pY,ml];omega
mutual
theorem Pm : ∀x:Ins,pY x≤jr x
 |.mk _ _ _ _ _ t l e=>by have:=mw l;have:=mw e;simp only[pY,jr];omega
theorem mw : ∀l:List Ins,cg l≤cz l
 |[]=>H5 _
 |x::r=>by have:=Pm x;have:=mw r;simp only[cg,cz];omega
end
mutual
theorem Pn : ∀x:Ins,Pk x≤jr x
 |.mk _ _ _ _ _ t l e=>by have:=xR l;have:=xR e;simp only[Pk,jr];omega
theorem xR : ∀l:List Ins,iS l≤cz l
 |[]=>H5 _
 |x::r=>by have:=Pn x;have:=xR r;simp only[iS,cz];omega
end
mutual
theorem Po : ∀(d:Nat) (x:Ins),Ds d x≤d+pY x
 |d,.mk _ _ _ _ _ t l e=>by have:=oJ (d+1) l;have:=oJ (d+1) e;simp only[Ds,pY];omega
theorem oJ : ∀(d:Nat) (l:List Ins),dP d l≤d+cg l
 |_,[]=>H5 _
 |d,x::r=>by have:=Po d x;have:=oJ d r;simp only[dP,cg];omega
end
mutual
theorem IC : ∀(d:Nat) (x:Ins),Ds (d+1) x=Ds d x+1
 |d,.mk _ _ _ _ _ t l e=>by
  have h1:=m4 (d+1) l
  have h2:=m4 (d+1) e
  simp only[Ds]
  cases l with
  |nil=>cases e with
   |nil=>simp[dP]
   |cons y e=>rw[h2 (by simp)];simp only[dP];omega
  |cons x l=>cases e with
   |nil=>rw[h1 (by simp)];simp only[dP];omega
   |cons y e=>rw[h1 (by simp),h2 (by simp)];omega
theorem m4 : ∀(d:Nat) (l:List Ins),l≠[]→dP (d+1) l=dP d l+1
 |_,[],h=>absurd rfl h
 |d,x::r,_=>by
  have h1:=IC d x
  cases r with
  |nil=>simp only[dP,h1];omega
  |cons y r=>rw[dP,m4 d (y::r) (by simp),h1,dP.eq_2 d x];omega
end
abbrev aL (l:List Ins):AV:= .p (.ps l.length 8 (aj l))
def nI (op r a b nn:Int) (tg:List Int) (ll le:List Ins):AV:= .agg [sI .i64 op,sI .i64 r,sI .u32 a,sI .u32 b,sI .i32 nn,.p (.ps tg.length 1 (bN .u32 tg)),aL ll,aL le]
def LY:Ins→AV
 |.mk op r a b nn tg ll le=>nI op r a b nn tg ll le
theorem Pp {l m:List Ins} (h:aL l=aL m):l=m:=by
 simp only[AV.p.injEq,PV.ps.injEq] at h
 exact mq h.2.2
theorem gE {l:List Ins} {k:Nat} {op rs a b nn:Int} {tags:List Int} {ll le:List Ins} (h:l[k]? = some (.mk op rs a b nn tags ll le)) :
  (aj l).getD (k*8) .bz = .sc (.int .i64 op)∧(aj l).getD (k*8+1) .bz = .sc (.int .i64 rs)∧(aj l).getD (k*8+2) .bz = .sc (.int .u32 a)∧(aj l).getD (k*8+3) .bz = .sc (.int .u32 b) ∧
    (aj l).getD (k*8+4) .bz = .sc (.int .i32 nn)∧(aj l).getD (k*8+5) .bz = .ps tags.length 1 (bN .u32 tags)∧(aj l).getD (k*8+6) .bz = .ps ll.length 8 (aj ll)∧(aj l).getD (k*8+7) .bz = .ps le.length 8 (aj le):=
 have hc:=tX h
 ⟨hc 0 (by omega),hc 1 (by omega),hc 2 (by omega),hc 3 (by omega),hc 4 (by omega),hc 5 (by omega),hc 6 (by omega),hc 7 (by omega)⟩
abbrev jG:=List (List Ins×Nat)
def dW (st:jG):List PV:=st.flatMap fun e=>[.ps e.1.length 8 (aj e.1),.sc (.int .i64 e.2)]
def Pq (p:Ins→Bool) (st:jG):Bool:=st.all fun e=>sW p e.1
def sq (st:jG):Nat:=(st.map fun e=>cg e.1).sum
def xS (st:jG):Nat:=(st.map fun e=>dP e.2 e.1).foldr max 0
def xT (st:jG):Nat:=(st.map fun e=>iS e.1).foldr max 0
def wS (st:jG):Nat:=(st.map fun e=>2*cg e.1+1).sum
theorem ju : ∀st:jG,(dW st).length=st.length*2
 |[]=>rfl
 |e::st=>by rw[dW,List.flatMap_cons,dC,ml];have:=ju st;rw[dW] at this;rw[this];simp;omega
theorem oK (s t:jG):dW (s++t)=dW s++dW t:=by simp[dW]
theorem Bn (s:List Nat) (b:Nat):s.foldr max b=max (s.foldr max 0) b:=by
 induction s with
 |nil=>simp
 |cons a s ih=>simp only[List.foldr_cons,ih];omega
theorem qO (p:Ins→Bool) (s t:jG):Pq p (s++t)=(Pq p s&&Pq p t):=by simp[Pq]
theorem lG (s t:jG):sq (s++t)=sq s+sq t:=by simp[sq]
theorem tY (s t:jG):wS (s++t)=wS s+wS t:=by simp[wS]
theorem uU (s t:jG):xS (s++t)=max (xS s) (xS t):=by simp only[xS,aeJ,aeT];rw[Bn]
theorem uV (s t:jG):xT (s++t)=max (xT s) (xT t):=by simp only[xT,aeJ,aeT];rw[Bn]
@[simp] theorem vM (p:Ins→Bool) (l:List Ins) (d:Nat):Pq p [(l,d)]=sW p l:=by simp[Pq]
@[simp] theorem xU (l:List Ins) (d:Nat):sq [(l,d)]=cg l:=by simp[sq]
@[simp] theorem Zv (l:List Ins) (d:Nat):wS [(l,d)]=2*cg l+1:=by simp[wS]
@[simp] theorem Fy (l:List Ins) (d:Nat):xS [(l,d)]=dP d l:=by simp[xS]
@[simp] theorem Fz (l:List Ins) (d:Nat):xT [(l,d)]=iS l:=by simp[xT]
theorem tZ : ∀st:jG,st.length≤wS st
 |[]=>H5 _
 |e::st=>by have:=tZ st;simp only[wS,s0,List.sum_cons,ml] at this ⊢;omega
def gF (st:jG) (cells:List AV):Prop:=cells.take (st.length*2)=(dW st).map .p
theorem gF.len {st:jG} {cells:List AV} (h:gF st cells):st.length*2≤cells.length:=by
 have:=congrArg List.length h
 rw[List.length_take,my,ju] at this
 omega
theorem gF.top {st:jG} {x:List Ins} {d:Nat} {cells:List AV} (h:gF (st++[(x,d)]) cells):cells.getD (st.length*2) .bC = .p (.ps x.length 8 (aj x))∧cells.getD (st.length*2+1) .bC = .p (.sc (.int .i64 d)):=by
 have hl:=h.len
 simp only[dC,ml,aeK] at hl
 have get : ∀j,j<2→cells.getD (st.length*2+j) .bC=((dW (st++[(x,d)])).map AV.p).getD (st.length*2+j) .bC:=by
  intro j hj
  rw[←show cells.take ((st++[(x,d)]).length*2)=_ from h,de,de,List.getElem?_take_of_lt (by simp only[dC,ml,aeK];omega)]
 have g0:=get 0 (by omega)
 have g1:=get 1 (by omega)
 rw[oK,aeJ,de (l:=aeM AV.p (dW st)++_),yr (by simp[ju])] at g0 g1
 simp only[my,ju] at g0 g1
 rw[show st.length*2+0-st.length*2=0 by omega] at g0
 rw[show st.length*2+1-st.length*2=1 by omega] at g1
 exact⟨by simpa[dW] using g0,by simpa[dW] using g1⟩
theorem gF.pop {st:jG} {e:List Ins×Nat} {cells:List AV} (h:gF (st++[e]) cells):gF st cells:=by
 unfold gF at h ⊢
 have:=congrArg (aeQ (st.length*2)) h
 rw[List.take_take,oK,aeJ,List.take_left' (by simp[ju])] at this
 rw[←this];congr 1
 simp only[dC,ml,aeK];omega
theorem gF.keep {st:jG} {cells:List AV} (h:gF st cells):gF st (cells.map av):=by
 unfold gF at h ⊢
 rw[←List.map_take,h,List.map_map];rfl
theorem gF.push {st:jG} {cells:List AV} (h:gF st cells) (x:List Ins) (d:Nat):gF (st++[(x,d)]) (cells.take (st.length*2)++[.p (.ps x.length 8 (aj x)),.p (.sc (.int .i64 d))]):=by
 have hl:=h.len
 unfold gF at h ⊢
 rw[List.take_of_length_le (by simp;omega),h,oK,aeJ];rfl
end Go.Am
end
section
namespace Go.Proofs.YtncncijedmfpjaaGreatDoor.N
open Go Go.Am
def aE (_:FuncId) (_:List AV) (_:Mem):Option (AV×Mem):=none
abbrev sP (n:Int):PV:= .sc (.int .i64 n)
def recC (l:List Ins) (st:LoopState) (pd:Option Code):bq:= .ob (Yh ae 109 0 st pd) [aL l,.bC,.mp 2 0,.p (.sc (.bool false)),.mp 3 0,.mp 4 0,.mp 5 0,.bC,.bC,aL l,.fn (.func 134) [] [.mp 1 0],.bC,.bC,.bC,.bC,.bC,.bC,.bC,.bC,.bC,.bC,.bC,.bC,.bC,.bC,.bC,.bC,.bC,.bC,.bC,.bC,.bC,.bC,.bC,.bC,.bC,.bC]
def LZ (l:List Ins) (tags n most:Int) (cells:List AV):Mem:=[recC l .ready none,.pc [.ps l.length 8 (aj l)],.pc [sP 0],.pc [sP tags],.pc [sP n],.pc [sP most],.ob (.gr 155 true) cells]
def akz (_l:List Ins) (_tags _n _most:Int) (_cells:List AV) (k:Nat) (x:List Ins) (d:Int):FuncId→Nat→Nat→Option (AV→AV):=bJ [(134,3,3,sI .i64 k),(134,3,5,.agg [aL x,sI .i64 d]),(134,4,3,sI .i64 k)]
def akA (_l:List Ins) (_tags n _most:Int) (_cells:List AV) (_k:Nat) (_xs:List Ins) (d:Int) (i:Nat) (op r a b nn:Int) (tg:List Int) (ll le:List Ins) (_ok:Bool):FuncId→Nat→Nat→Option (AV→AV):=bJ [(134,7,1,nI op r a b nn tg ll le),(134,13,0,sI .i64 ((i+1:Nat):Int)),(134,10,5,sI .i64 (d+1)),(134,12,5,sI .i64 (d+1)),(109,8,1,sI .i64 (n+1))]
def akB (_l:List Ins) (_tags _n _most:Int) (_cells:List AV) (_k:Nat) (_xs:List Ins) (_d:Int) (_i:Nat) (_op _r _a _b _nn:Int) (_tg:List Int) (_ll _le:List Ins) (ok:Bool) (f:FuncId) (_:List AV) (m:Mem):Option (AV×Mem):=cond (ba f 125) (some (sB ok,m)) none
def Zw (l:List Ins) (tags n most:Int) (cells:List AV) (k:Nat) (x:List Ins) (d:Int):bA:=dY aE aC [(134,0),(134,2)] [(134,0,1)] [(134,3,4),(134,3,5),(134,4,4)] (akz l tags n most cells k x d)
def afD:Sc:= .fin
def J8 (l:List Ins) (tags n most:Int) (cells:List AV) (k:Nat) (x:List Ins) (d:Int):aA:=
 (.test (decide ((↑(k+1):Int)>0))
 (.need (sI .i64 (re.wrap ((↑(k+1):Int)-1))=sI re (↑k:Int))
 (.must (aP (↑k:Int) (k+1)&&true&&true)
 (.must ((0+(aB k)*2+2).ble cells.length&&((iF (some (aeY (TypeDesc.slice 75) "[]api.Instr" 1 24 true 8 8 (some (Value.slice none 0 0)) false #[]).desc) (cells.getD (0+(aB k)*2) .bC)).snd&&((iF (some (aeY (TypeDesc.int re) "int" 1 8 false 8 8 (some (.int .i64 0)) true #[]).desc) (cells.getD (0+(aB k)*2+1) .bC)).snd&&true))&&true)
 (.need (AV.agg [(iF (ae2 (aeY (TypeDesc.slice 75) "[]api.Instr" 1 24 true 8 8 (ae2 (Value.slice ae1 0 0)) false #[]).desc) (cells.getD (0+(aB k)*2) AV.bC)).fst,(iF (ae2 (aeY (TypeDesc.int re) "int" 1 8 false 8 8 (ae2 (Value.int re 0)) true #[]).desc) (cells.getD (0+(aB k)*2+1) AV.bC)).fst]=AV.agg [aL x,sI re d])
 (.need (sI .i64 (re.wrap ((↑(k+1):Int)-1))=sI re (↑k:Int))
 (.must ((aB k).ble (k+1)&&true&&true&&true)
 (.at (ah ae env 134 2 [.vy 0,.ms 6 0 (aB k-0) 2 none,.mp 7 0,.p (.ps x.length 8 (aj x)),sI .i64 (↑x.length:Int),sI .i64 0] ([recC l ae3 none,.pc [.ps l.length 8 (aj l)],.pc [sP 0],.pc [sP tags],.pc [sP n],.pc [sP most],.ob (dS.gr 155 true) (aeM av cells),.ac [.p (.ps x.length 8 (aj x)),sI .i64 d]]) 6 64))))))))
 (.out (.ret (.aK []) [recC l ae3 none,.pc [.ps l.length 8 (aj l)],.pc [sP 0],.pc [sP tags],.pc [sP n],.pc [sP most]])))
theorem Pr (l:List Ins) (tags n most:Int) (cells:List AV) (k:Nat) (x:List Ins) (d:Int):grow ae env (Zw l tags n most cells k x d) 1000000 true (ah ae env 134 0 ([AV.vy 0,AV.ms 6 0 (k+1) 2 ae1]) (LZ l tags n most cells) 6 64) afD atEnd=J8 l tags n most cells k x d:=by kernel_rfl
def Zx:bA:=aM aE aC [(134,0),(134,2)] [] []
def afE:Sc:= .fin
def Ui (l:List Ins) (tags n most:Int) (_cells:List AV):aA:=
 (.out (.ret (.aK []) [recC l ae3 none,.pc [.ps l.length 8 (aj l)],.pc [sP 0],.pc [sP tags],.pc [sP n],.pc [sP most]]))
theorem Pu (l:List Ins) (tags n most:Int) (cells:List AV):grow ae env Zx 1000000 true (ah ae env 134 0 ([AV.vy 0,AV.ms 6 0 0 2 ae1]) ([recC l ae3 ae1,bq.pc [PV.ps l.length 8 (aj l)],bq.pc [sP 0],bq.pc [sP tags],bq.pc [sP n],bq.pc [sP most],bq.ob (dS.gr 155 true) cells]) 6 64) afE atEnd=Ui l tags n most cells:=by kernel_rfl
def Zy (l:List Ins) (tags n most:Int) (cells:List AV) (k:Nat) (xs:List Ins) (d:Int) (i:Nat) (op r a b nn:Int) (tg:List Int) (ll:List Ins) (le:List Ins) (ok:Bool):bA:=dY (akB l tags n most cells k xs d i op r a b nn tg ll le ok) aC [(134,0),(134,2)] [(134,0,3),(109,0,0),(134,0,5),(134,0,6)] [(134,7,0),(134,7,1),(134,10,8),(134,12,8)] (akA l tags n most cells k xs d i op r a b nn tg ll le ok)
def afF:Sc:= .fin
def m5 (l:List Ins) (tags n most:Int) (cells:List AV) (k:Nat) (xs:List Ins) (d:Int) (i:Nat) (op r a b nn:Int) (tg:List Int) (ll:List Ins) (le:List Ins) (ok:Bool):aA:=
 (.test (decide ((↑i:Int)<(↑xs.length:Int)))
 (.must (aP (↑i:Int) xs.length&&true&&true)
 (.must (isInt re (aq (aj xs) (aB i*8))&&(isInt re (aq (aj xs) (aB i*8+1))&&(isInt aeG (aq (aj xs) (aB i*8+1+1))&&(isInt aeG (aq (aj xs) (aB i*8+1+1+1))&&(isInt IntKind.i32 (aq (aj xs) (aB i*8+1+1+1+1))&&(aO (aq (aj xs) (aB i*8+1+1+1+1+1))&&(aO (aq (aj xs) (aB i*8+1+1+1+1+1+1))&&(aO (aq (aj xs) (aB i*8+1+1+1+1+1+1+1))&&true)))))))&&true)
 (.need (AV.agg [sI .i64 (au (aq (aj xs) (aB i*8))),sI .i64 (au (aq (aj xs) (aB i*8+1))),sI .u32 (au (aq (aj xs) (aB i*8+1+1))),sI .u32 (au (aq (aj xs) (aB i*8+1+1+1))),sI .i32 (au (aq (aj xs) (aB i*8+1+1+1+1))),AV.p (PV.ps (an (aq (aj xs) (aB i*8+1+1+1+1+1))) (aD (aq (aj xs) (aB i*8+1+1+1+1+1))) (ak (aq (aj xs) (aB i*8+1+1+1+1+1)))),AV.p (PV.ps (an (aq (aj xs) (aB i*8+1+1+1+1+1+1))) (aD (aq (aj xs) (aB i*8+1+1+1+1+1+1))) (ak (aq (aj xs) (aB i*8+1+1+1+1+1+1)))),AV.p (PV.ps (an (aq (aj xs) (aB i*8+1+1+1+1+1+1+1))) (aD (aq (aj xs) (aB i*8+1+1+1+1+1+1+1))) (ak (aq (aj xs) (aB i*8+1+1+1+1+1+1+1))))]=nI op r a b nn tg ll le)
 (.call ⟨125,[.agg [sI .i64 op,sI .i64 r,sI .u32 a,sI .u32 b,sI .i32 nn,.p (.ps tg.length 1 (bN aeG tg)),.p (.ps ll.length 8 (aj ll)),.p (.ps le.length 8 (aj le))]],[],.p (.sc (.bool ok)),[]⟩
 (.test (!ok)
 (.out (.ret (.aK []) [.ob (Yh ae 109 0 (fN (some Code.ret)) (some Code.ret)) [.p (.ps l.length 8 (aj l)),.bC,.mp 2 0,sB false,.mp 3 0,.mp 4 0,.mp 5 0,.bC,.bC,.p (.ps l.length 8 (aj l)),.fn (Fn.func 134) [] [.mp 1 0],.bC,.bC,.bC,.bC,.bC,.bC,.bC,.bC,.bC,.bC,.bC,.bC,.bC,.bC,.bC,.bC,.bC,.bC,.bC,.bC,.bC,.bC,.bC,.bC,.bC,.bC],.pc [.ps l.length 8 (aj l)],.pc [sP 2],.pc [sP tags],.pc [sP n],.pc [sP most]]))
 (.need (sI .i64 (re.wrap (n+1))=sI re (n+1))
 (.test (decide ((↑ll.length:Int)>0))
 (.need (sI .i64 (re.wrap (d+1))=sI re (d+1))
 (.must (((k+1)*32).ble aR&&(k+1).ble aR&&((k*2).ble cells.length&&true)&&true)
 (.test (decide ((↑le.length:Int)>0))
 (.need (sI .i64 (re.wrap (d+1))=sI re (d+1))
 (.must (((k+1+1)*32).ble aR&&(k+1+1).ble aR&&(((k+1)*2).ble (aeQ (k*2) cells++[.p (.ps ll.length 8 (aj ll)),sI .i64 (d+1)]).length&&true)&&true)
 (.need (sI .i64 (re.wrap ((↑i:Int)+1))=sI re (↑(i+1):Int))
 (.at (ah ae env 134 2 [.vy 0,.ms 6 0 (k+1+1) 2 none,.mp 7 0,.p (.ps xs.length 8 (aj xs)),sI .i64 (↑xs.length:Int),sI .i64 (↑(i+1):Int)] ([recC l (fN none) none,.pc [.ps l.length 8 (aj l)],.pc [sP 0],.pc [sP (bif false then ae4 tags (↑tg.length:Int) else afg tags (↑tg.length:Int))],.pc [sP (n+1)],.pc [sP (bif false then ae4 most d else afg most d)],.ob (dS.gr 155 true) (aeM av (aeQ ((k+1)*2) (aeQ (k*2) cells++[.p (.ps ll.length 8 (aj ll)),sI .i64 (d+1)])++[.p (.ps le.length 8 (aj le)),sI .i64 (d+1)])),.ac [.p (.ps xs.length 8 (aj xs)),sI .i64 d]]) 6 64)))))
 (.need (sI .i64 (re.wrap ((↑i:Int)+1))=sI re (↑(i+1):Int))
 (.at (ah ae env 134 2 [.vy 0,.ms 6 0 (k+1) 2 none,.mp 7 0,.p (.ps xs.length 8 (aj xs)),sI .i64 (↑xs.length:Int),sI .i64 (↑(i+1):Int)] ([recC l (fN none) none,.pc [.ps l.length 8 (aj l)],.pc [sP 0],.pc [sP (bif false then ae4 tags (↑tg.length:Int) else afg tags (↑tg.length:Int))],.pc [sP (n+1)],.pc [sP (bif false then ae4 most d else afg most d)],.ob (dS.gr 155 true) (aeM av (aeQ (k*2) cells++[.p (.ps ll.length 8 (aj ll)),sI .i64 (d+1)])),.ac [.p (.ps xs.length 8 (aj xs)),sI .i64 d]]) 6 64))))))
 (.test (decide ((↑le.length:Int)>0))
 (.need (sI .i64 (re.wrap (d+1))=sI re (d+1))
 (.must (((k+1)*32).ble aR&&(k+1).ble aR&&((k*2).ble cells.length&&true)&&true)
 (.need (sI .i64 (re.wrap ((↑i:Int)+1))=sI re (↑(i+1):Int))
 (.at (ah ae env 134 2 [.vy 0,.ms 6 0 (k+1) 2 none,.mp 7 0,.p (.ps xs.length 8 (aj xs)),sI .i64 (↑xs.length:Int),sI .i64 (↑(i+1):Int)] ([recC l (fN none) none,.pc [.ps l.length 8 (aj l)],.pc [sP 0],.pc [sP (bif false then ae4 tags (↑tg.length:Int) else afg tags (↑tg.length:Int))],.pc [sP (n+1)],.pc [sP (bif false then ae4 most d else afg most d)],.ob (dS.gr 155 true) (aeM av (aeQ (k*2) cells++[.p (.ps le.length 8 (aj le)),sI .i64 (d+1)])),.ac [.p (.ps xs.length 8 (aj xs)),sI .i64 d]]) 6 64)))))
 (.need (sI .i64 (re.wrap ((↑i:Int)+1))=sI re (↑(i+1):Int))
 (.at (ah ae env 134 2 [.vy 0,.ms 6 0 k 2 none,.mp 7 0,.p (.ps xs.length 8 (aj xs)),sI .i64 (↑xs.length:Int),sI .i64 (↑(i+1):Int)] ([recC l (fN none) none,.pc [.ps l.length 8 (aj l)],.pc [sP 0],.pc [sP (bif false then ae4 tags (↑tg.length:Int) else afg tags (↑tg.length:Int))],.pc [sP (n+1)],.pc [sP (bif false then ae4 most d else afg most d)],.ob (dS.gr 155 true) (aeM av cells),.ac [.p (.ps xs.length 8 (aj xs)),sI .i64 d]]) 6 64)))))))))))
 (.at (ah ae env 134 0 [.vy 0,.ms 6 0 k 2 none] ([recC l ae3 none,.pc [.ps l.length 8 (aj l)],.pc [sP 0],.pc [sP tags],.pc [sP n],.pc [sP most],.ob (dS.gr 155 true) (aeM av cells)]) 6 64)))
theorem xV (l:List Ins) (tags n most:Int) (cells:List AV) (k:Nat) (xs:List Ins) (d:Int) (i:Nat) (op r a b nn:Int) (tg:List Int) (ll:List Ins) (le:List Ins) (ok:Bool):grow ae env (Zy l tags n most cells k xs d i op r a b nn tg ll le ok) 1000000 true (ah ae env 134 2 ([AV.vy 0,AV.ms 6 0 k 2 ae1,AV.mp 7 0,aL xs,sI re (↑xs.length:Int),sI re (↑i:Int)]) (LZ l tags n most cells++[bq.ac [aL xs,sI re d]]) 6 64) afF atEnd=m5 l tags n most cells k xs d i op r a b nn tg ll le ok:=by kernel_rfl
def akC (l:List Ins) (tags n most:Int):Out:= .ret (.aK []) [recC l .ready none,.pc [.ps l.length 8 (aj l)],.pc [sP 0],.pc [sP tags],.pc [sP n],.pc [sP most]]
def afG (l:List Ins) (tags n most:Int):Out:= .ret (.aK []) [recC l .done (some .ret),.pc [.ps l.length 8 (aj l)],.pc [sP 2],.pc [sP tags],.pc [sP n],.pc [sP most]]
def iT:Nat:=1000000000000
def Bo (p:Ins→Bool) (l:List Ins) (st:jG) (tags n most:Nat) (o:Out):Prop:=
 (Pq p st=true∧o=akC l (max tags (xT st):Nat) (n+sq st:Nat) (max most (xS st):Nat))∨(Pq p st=false ∧ ∃t k m,o=afG l t k m)
section
variable (p:Ins→Bool) (hp : ∀x:Ins,az ae env 125 [LY x] [] (sB (p x)) []) (l:List Ins)
include hp in
theorem L0 (N:Nat) (ih : ∀(st:jG) (cells:List AV) (tags n most:Nat),wS st<N→gF st cells→n+sq st≤iT→wS st≤iT→(∀e∈st,e.2+cg e.1≤iT) →
   ∃o,aU ae env (ah ae env 134 0 [.vy 0,.ms 6 0 st.length 2 none] (LZ l tags n most cells) 6 64) o∧Bo p l st tags n most o) (xs:List Ins) (hxs:xs.length≤iT) (d:Nat) :
  ∀(r i:Nat) (st:jG) (cells:List AV) (tags n most:Nat),i+r=xs.length→wS st+2*cg (xs.drop i)<N→gF st cells→n+sq st+cg (xs.drop i)≤iT→wS st+2*cg (xs.drop i)≤iT→(∀e∈st,e.2+cg e.1≤iT)→d+cg (xs.drop i)≤iT →
   ∃o,aU ae env (ah ae env 134 2 [.vy 0,.ms 6 0 st.length 2 none,.mp 7 0,aL xs,sI .i64 xs.length,sI .i64 i] (LZ l tags n most cells++[.ac [aL xs,sI .i64 d]]) 6 64) o∧Bo p l (st++[(xs.drop i,d)]) tags n most o:=by
 intro r
 induction r with
 |zero=>
  intro i st cells tags n most hi hN ht hn hw he hd
  have h1:xs.drop i=[]:=List.drop_eq_nil_of_le (by omega)
  rw[h1] at hN hn hw ⊢
  simp only[cg] at hN hn hw
  obtain⟨o,ho,hq⟩:=ih st (cells.map av) tags n most (by omega) ht.keep (by omega) (by omega) he
  refine⟨o,af aH (xV l tags n most cells st.length xs d i 0 0 0 0 0 [] [] [] true) ?_,?_⟩
  · have h2 : ¬((i:Int)<xs.length):=by omega
    simp only[m5,aV,aA.ok]
    exact⟨fun h=>absurd (by simpa using h) h2,fun _=>ho⟩
  · unfold Bo at hq ⊢
    rw[qO,lG,uV,uU]
    simpa[sW,cg,iS,dP] using hq
 |succ r ihr=>
  intro i st cells tags n most hi hN ht hn hw he hd
  have nG:i<xs.length:=by omega
  have FA:xs[i]? = some xs[i]:=da nG
  have hdr:xs.drop i=xs[i]::xs.drop (i+1):=List.drop_eq_getElem_cons nG
  rw[hdr] at hN hn hw hd ⊢
  generalize xs[i]=x at *
  generalize hys:xs.drop (i+1)=ys at *
  obtain⟨op,rs,a,b,nn,tg,ll,le⟩:=x
  obtain⟨c0,c1,c2,c3,c4,c5,c6,c7⟩:=gE FA
  have hpx:=hp (.mk op rs a b nn tg ll le)
  have Al:iT=1000000000000:=rfl
  have bw:aR=70368744177664:=rfl
  simp only[cg,pY] at hN hn hw hd
  have Oy:=tZ st
  have LD:=ht.len
  have w1:re.wrap ((i:Int)+1)=((i+1:Nat):Int):=by rw[aQ (by omega) (by omega)];rfl
  have w2:re.wrap ((d:Int)+1)=((d+1:Nat):Int):=by rw[aQ (by omega) (by omega)];rfl
  have w3:re.wrap ((n:Int)+1)=((n+1:Nat):Int):=by rw[aQ (by omega) (by omega)];rfl
  have Tx:(i:Int)<(xs.length:Int):=by omega
  cases hok:p (.mk op rs a b nn tg ll le) with
  |false=>
   refine⟨afG l tags n most,af aH (xV l tags n most cells st.length xs d i op rs a b nn tg ll le false) ?_,.inr ⟨?_,_,_,_,rfl⟩⟩
   · simp only[m5,aV,aA.ok,afm,fw,aeV,c0,c1,c2,c3,c4,c5,c6,c7,isInt,aO,au,an,aD,ak,aP]
     refine⟨fun _=>⟨by simp[Tx],by simp,rfl,?_,fun _=>rfl,fun h=>by cases h⟩,fun h=>absurd Tx (by simpa using h)⟩
     rw[hok] at hpx;exact hpx
   · rw[qO,vM,sW,okI,hok];simp
  |true=>
   have next : ∀(s:jG) (cs:List AV),gF (st++s) cs→wS s≤2*(cg ll+cg le)+2→sq s=cg ll+cg le→Pq p s=(sW p ll&&sW p le)→xT s=max (iS ll) (iS le)→xS s=max (dP (d+1) ll) (dP (d+1) le)→(∀e∈s,e.2+cg e.1≤iT) →
     ∃o,aU ae env (ah ae env 134 2 [.vy 0,.ms 6 0 (st++s).length 2 none,.mp 7 0,aL xs,sI .i64 xs.length,sI .i64 (i+1:Nat)] (LZ l (max tags tg.length:Nat) (n+1:Nat) (max most d:Nat) cs++[.ac [aL xs,sI .i64 d]]) 6 64) o∧Bo p l (st++[(.mk op rs a b nn tg ll le::ys,d)]) tags n most o:=by
    intro s cs hts hws hns hos htg hds hes
    obtain⟨o,ho,hq⟩:=ihr (i+1) (st++s) cs (max tags tg.length) (n+1) (max most d) (by omega) (by rw[tY,hys];omega) hts (by rw[lG,hys];omega) (by rw[tY,hys];omega)
     (fun e hm=>(List.mem_append.1 hm).elim (he e) (hes e)) (by rw[hys];omega)
    refine⟨o,ho,?_⟩
    rw[hys] at hq
    unfold Bo at hq ⊢
    simp only[qO,lG,uV,uU,vM,xU,Fz,Fy,hos,hns,htg,hds] at hq ⊢
    simp only[sW,okI,cg,pY,iS,Pk,dP,Ds,hok,Bool.true_and]
    rcases hq with⟨q1,q2⟩ | ⟨q1,q2⟩
    · refine .inl ⟨by rw[Bool.and_assoc] at q1;exact q1,?_⟩
      rw[q2]
      congr 1<;>congr 1<;>omega
    · exact .inr ⟨by rw[Bool.and_assoc] at q1;exact q1,q2⟩
   have tree:=xV l tags n most cells st.length xs d i op rs a b nn tg ll le true
   have Uj:az ae env 125 [nI op rs a b nn tg ll le] [] (sB true) []:=by rw[hok] at hpx;exact hpx
   have mx1:max (tags:Int) (tg.length:Int)=((max tags tg.length:Nat):Int):=by omega
   have mx2:max (most:Int) (d:Int)=((max most d:Nat):Int):=by omega
   have nl : ∀z:List Ins,z≠[]→0<(z.length:Int):=fun z hz=>by have:=List.length_pos_iff.2 hz;omega
   by_cases TJ:ll=[]
   · by_cases hle:le=[]
     · subst TJ;subst hle
       obtain⟨o,ho,hq⟩:=next [] (cells.map av) (by rw[Hc];exact ht.keep) (by simp[wS,cg]) (by simp[sq,cg]) (by simp[Pq,sW]) (by simp[xT,iS]) (by simp[xS,dP]) (fun _ h=>by cases h)
       refine⟨o,af aH tree ?_,hq⟩
       simp only[m5,aV,aA.ok,afm,fw,aeV,c0,c1,c2,c3,c4,c5,c6,c7,isInt,aO,au,an,aD,ak,aP,w1,w2,w3,cond_false,mx1,mx2]
       rw[Hc] at ho
       exact⟨fun _=>⟨by simp[Tx],by simp,rfl,Uj,fun h=>(by cases h),fun _=>⟨rfl,fun h=>(by simp at h),fun _=>⟨fun h=>(by simp at h),fun _=>⟨(by trivial),ho⟩⟩⟩⟩,fun h=>absurd Tx (by simpa using h)⟩
     · subst TJ
       have nle:=nl le hle
       obtain⟨o,ho,hq⟩:=next [(le,d+1)] _ (ht.push le (d+1)).keep (by simp[cg]) (by simp[cg]) (by simp[sW]) (by simp[iS]) (by simp[dP]) (fun e h=>by simp only[aeL] at h;subst h;simp only;omega)
       refine⟨o,af aH tree ?_,hq⟩
       simp only[m5,aV,aA.ok,afm,fw,aeV,c0,c1,c2,c3,c4,c5,c6,c7,isInt,aO,au,an,aD,ak,aP,w1,w2,w3,cond_false,mx1,mx2]
       rw[dC] at ho
       exact⟨fun _=>⟨by simp[Tx],by simp,rfl,Uj,fun h=>(by cases h),fun _=>⟨rfl,fun h=>(by simp at h),fun _=>⟨fun _=>⟨rfl,(by simp;omega),(by trivial),ho⟩,fun h=>absurd nle (by simpa using h)⟩⟩⟩,fun h=>absurd Tx (by simpa using h)⟩
   · have nll:=nl ll TJ
     by_cases hle:le=[]
     · subst hle
       obtain⟨o,ho,hq⟩:=next [(ll,d+1)] _ (ht.push ll (d+1)).keep (by simp[cg]) (by simp[cg]) (by simp[sW]) (by simp[iS]) (by simp[dP]) (fun e h=>by simp only[aeL] at h;subst h;simp only;omega)
       refine⟨o,af aH tree ?_,hq⟩
       simp only[m5,aV,aA.ok,afm,fw,aeV,c0,c1,c2,c3,c4,c5,c6,c7,isInt,aO,au,an,aD,ak,aP,w1,w2,w3,cond_false,mx1,mx2]
       rw[dC] at ho
       exact⟨fun _=>⟨by simp[Tx],by simp,rfl,Uj,fun h=>(by cases h),fun _=>⟨rfl,fun _=>⟨rfl,(by simp;omega),fun h=>(by simp at h),fun _=>⟨(by trivial),ho⟩⟩,fun h=>absurd nll (by simpa using h)⟩⟩,fun h=>absurd Tx (by simpa using h)⟩
     · have nle:=nl le hle
       have OJ:=(ht.push ll (d+1)).push le (d+1)
       rw[tl] at OJ
       obtain⟨o,ho,hq⟩:=next [(ll,d+1),(le,d+1)] _ OJ.keep (by simp[wS];omega) (by simp[sq]) (by simp[Pq]) (by simp[xT]) (by simp[xS]) (fun e h=>by simp only[List.mem_cons,List.not_mem_nil,or_false] at h;rcases h with rfl | rfl<;>simp only<;>omega)
       refine⟨o,af aH tree ?_,hq⟩
       simp only[m5,aV,aA.ok,afm,fw,aeV,c0,c1,c2,c3,c4,c5,c6,c7,isInt,aO,au,an,aD,ak,aP,w1,w2,w3,cond_false,mx1,mx2]
       simp only[dC,ml,aeK,aeV] at ho
       exact⟨fun _=>⟨by simp[Tx],by simp,rfl,Uj,fun h=>(by cases h),fun _=>⟨rfl,fun _=>⟨rfl,(by simp;omega),fun _=>⟨rfl,(by simp;omega),(by trivial),ho⟩,fun h=>absurd nle (by simpa using h)⟩,fun h=>absurd nll (by simpa using h)⟩⟩,fun h=>absurd Tx (by simpa using h)⟩
include hp in
theorem Bp : ∀(N:Nat) (st:jG) (cells:List AV) (tags n most:Nat),wS st<N→gF st cells→n+sq st≤iT→wS st≤iT→(∀e∈st,e.2+cg e.1≤iT) →
   ∃o,aU ae env (ah ae env 134 0 [.vy 0,.ms 6 0 st.length 2 none] (LZ l tags n most cells) 6 64) o∧Bo p l st tags n most o
 |0,_,_,_,_,_,h,_,_,_,_=>by omega
 |N+1,st,cells,tags,n,most,hN,ht,hn,hw,he=>by
  rcases List.eq_nil_or_concat st with rfl | ⟨s,⟨x,d⟩,rfl⟩
  · exact⟨_,af aH (Pu l tags n most cells) rfl,.inl ⟨rfl,(by simp[xT,sq,xS];rfl)⟩⟩
  · rw[List.concat_eq_append] at *
    have hx:=he (x,d) (by simp)
    rw[tY,Zv] at hN hw
    rw[lG,xU] at hn
    obtain⟨t0,t1⟩:=ht.top
    have LD:=ht.len
    have Oy:=tZ s
    have Al:iT=1000000000000:=rfl
    have OW:=fT x
    simp only[dC,ml,aeK] at LD hx
    obtain⟨o,ho,hq⟩:=L0 p hp l N (fun st cells tags n most=>Bp N st cells tags n most) x (by omega) d x.length 0 s (cells.map av) tags n most (by omega) (by rw[aeI];omega) ht.pop.keep (by rw[aeI];omega) (by rw[aeI];omega)
     (fun e hm=>he e (List.mem_append_left _ hm)) (by rw[aeI];omega)
    rw[aeI] at hq
    refine⟨o,?_,hq⟩
    have w1:re.wrap (((s.length+1:Nat):Int)-1)=(s.length:Int):=by rw[aQ (by omega) (by omega)];omega
    rw[dC,List.length_singleton]
    refine af aH (Pr l tags n most cells s.length x d) ?_
    simp only[J8,aV,aA.ok,afm,pn,t0,t1,iF,AP,w1,isInt,aO,au,an,aD,ak,aP,Nat.sub_zero]
    exact⟨fun _=>⟨(by trivial),(by simp;omega),(by simp;omega),(by trivial),(by trivial),(by simp),ho⟩,fun h=>absurd h (by simp)⟩
end
end Go.Proofs.YtncncijedmfpjaaGreatDoor.N
end
section
namespace Go.Proofs.YtncncijedmfpjaaGreatDoor.N
open Go Go.Am
section
variable (l:List Ins)
end
end Go.Proofs.YtncncijedmfpjaaGreatDoor.N
end
section
namespace Go.Proofs.YtncncijedmfpjaaGreatDoor.N
open Go Go.Am
def akE (l:List Ins) (tags n most:Int) (f:FuncId) (_:List AV) (_:Mem):Option (AV×Mem):=cond (ba f 134) (some (.aK [],[recC l .ready none,.pc [.ps l.length 8 (aj l)],.pc [sP 0],.pc [sP tags],.pc [sP n],.pc [sP most]])) none
def akF (l:List Ins) (tags n most:Int) (f:FuncId) (_:List AV) (_:Mem):Option (AV×Mem):=cond (ba f 134) (some (.aK [],[recC l .done (some .ret),.pc [.ps l.length 8 (aj l)],.pc [sP 2],.pc [sP tags],.pc [sP n],.pc [sP most]])) none
def Zz:bA:=aM aE aC [(134,0)] [] []
def afH:Sc:= .fin
def Uk (l:List Ins):aA:=
 (.at (ah ae env 134 0 [.vy 0,.ms 6 0 1 2 none] ([recC l ae3 none,.pc [.ps l.length 8 (aj l)],.pc [sP 0],.pc [sP 0],.pc [sP 0],.pc [sP 0],.ob (dS.gr 155 true) [.p (.ps l.length 8 (aj l)),sI .i64 1]]) 6 64))
theorem FB (l:List Ins):aI ae env Zz 1000000 134 ([AV.vy 0,AV.mp 1 0]) ([recC l ae3 ae1,bq.pc [PV.ps l.length 8 (aj l)],bq.pc [sP 0],bq.pc [sP 0],bq.pc [sP 0],bq.pc [sP 0]]) afH=Uk l:=by kernel_rfl
def Ul (l:List Ins) (tags n most:Int):bA:=aM (akE l tags n most) aC [] [(109,10,3),(109,10,7),(109,0,0)] []
def ZA:Sc:=(.fork (.lit (.lit .fin)) (.fork (.lit .fin) .fin))
def Pv (l:List Ins) (tags n most:Int):aA:=
 (.call ⟨134,[.vy 0,.mp 1 0],[recC l ae3 none,.pc [.ps l.length 8 (aj l)],.pc [sP 0],.pc [sP 0],.pc [sP 0],.pc [sP 0]],.aK [],[recC l ae3 none,.pc [.ps l.length 8 (aj l)],.pc [sP 0],.pc [sP tags],.pc [sP n],.pc [sP most]]⟩
 (.test (decide (n>262144))
 (.out (.ret (sI .i64 141) []))
 (.test (decide (tags>16384))
 (.out (.ret (sI .i64 141) []))
 (.test (decide (most>900))
 (.out (.ret (sI .i64 141) []))
 (.out (.ret (sI .i64 0) []))))))
theorem L1 (l:List Ins) (tags n most:Int):aI ae env (Ul l tags n most) 1000000 109 ([aL l]) ([]) ZA=Pv l tags n most:=by kernel_rfl
def Um (l:List Ins) (tags n most:Int):bA:=aM (akF l tags n most) aC [] [] []
def ZB:Sc:= .fin
def Pw (l:List Ins) (tags n most:Int):aA:=
 (.call ⟨134,[.vy 0,.mp 1 0],[recC l ae3 none,.pc [.ps l.length 8 (aj l)],.pc [sP 0],.pc [sP 0],.pc [sP 0],.pc [sP 0]],.aK [],[recC l LoopState.done (some Code.ret),.pc [.ps l.length 8 (aj l)],.pc [sP 2],.pc [sP tags],.pc [sP n],.pc [sP most]]⟩
 (.out (.ret (sI .i64 2) [])))
theorem L2 (l:List Ins) (tags n most:Int):aI ae env (Um l tags n most) 1000000 109 ([aL l]) ([]) ZB=Pw l tags n most:=by kernel_rfl
theorem Un (l:List Ins):gF [(l,1)] [.p (.ps l.length 8 (aj l)),.p (.sc (.int .i64 1))]:=rfl
def bT (p:Ins→Bool) (l:List Ins):Int:=if sW p l=false then 2 else if 262144<cg l∨16384<iS l∨900<dP 1 l then 141 else 0
theorem xW {p:Ins→Bool} (hp : ∀x:Ins,az ae env 125 [LY x] [] (sB (p x)) []) (l:List Ins) (h:cg l≤100000000000):az ae env 109 [aL l] [] (sI .i64 (bT p l)) []:=by
 have Al:iT=1000000000000:=rfl
 obtain⟨o,ho,hq⟩:=Bp p hp l (2*cg l+2) [(l,1)] _ 0 0 0 (by simp) (Un l) (by simp;omega) (by simp;omega) (fun e he=>by simp only[aeL] at he;subst he;simp only;omega)
 rcases hq with⟨q1,rfl⟩ | ⟨q1,t,k,m,rfl⟩
 · have hd:az ae env 134 [.vy 0,.mp 1 0] _ (.aK []) _:=aa aH (FB l) ho
   refine aa aH (L1 l _ _ _) ⟨hd,?_⟩
   rw[vM] at q1
   simp only[Fz,xU,Fy,pn,Nat.zero_max]
   have z : ∀a b:Nat,decide ((a:Int)>(b:Int))=decide (b<a):=fun a b=>by congr 1;exact propext (by omega)
   unfold bT
   rw[if_neg (by rw[q1];simp)]
   refine⟨fun h1=> ?_,fun h1=>⟨fun h2=> ?_,fun h2=>⟨fun h3=> ?_,fun h3=> ?_⟩⟩⟩<;>simp only[decide_eq_true_eq,decide_eq_false_iff_not] at *
   · rw[if_pos (by omega)];rfl
   · rw[if_pos (by omega)];rfl
   · rw[if_pos (by omega)];rfl
   · rw[if_neg (by omega)];rfl
 · have hd:az ae env 134 [.vy 0,.mp 1 0] _ (.aK []) _:=aa aH (FB l) ho
   refine aa aH (L2 l t k m) ⟨hd,?_⟩
   rw[vM] at q1
   unfold bT
   rw[if_pos q1];rfl
end Go.Proofs.YtncncijedmfpjaaGreatDoor.N
end
section
namespace Go.Proofs.YtncncijedmfpjaaGreatDoor.N
open Go Go.Am
def L3:dH:=⟨153,[.p (.sc (.string ⟨#[101,113,122,32,101,113,32,110,101,32,108,116,95,115,32,108,116,95,117,32,103,116,95,115,32,103,116,95,117,32,108,101,95,115,32,108,101,95,117,32,103,101,95,115,32,103,101,95,117]⟩))],[],.p (.ps 11 1 [.sc (.string ⟨#[101,113,122]⟩),.sc (.string ⟨#[101,113]⟩),.sc (.string ⟨#[110,101]⟩),.sc (.string ⟨#[108,116,95,115]⟩),.sc (.string ⟨#[108,116,95,117]⟩),.sc (.string ⟨#[103,116,95,115]⟩),.sc (.string ⟨#[103,116,95,117]⟩),.sc (.string ⟨#[108,101,95,115]⟩),.sc (.string ⟨#[108,101,95,117]⟩),.sc (.string ⟨#[103,101,95,115]⟩),.sc (.string ⟨#[103,101,95,117]⟩)]),[]⟩
theorem akG:az ae env L3.g L3.args L3.m L3.v L3.m':=gi aH (K:=[]) mj (n:=10000000) (by kernel_rfl)
def ZC:List dH:=L3::[]
theorem Px:gT ae env ZC:=iQ akG mj
def L4:dH:=⟨153,[.p (.sc (.string ⟨#[99,108,122,32,99,116,122,32,112,111,112,99,110,116,32,97,100,100,32,115,117,98,32,109,117,108,32,100,105,118,95,115,32,100,105,118,95,117,32,114,101,109,95,115,32,114,101,109,95,117,32,97,110,100,32,111,114,32,120,111,114,32,115,104,108,32,115,104,114,95,115,32,115,104,114,95,117,32,114,111,116,108,32,114,111,116,114]⟩))],[],.p (.ps 18 1 [.sc (.string ⟨#[99,108,122]⟩),.sc (.string ⟨#[99,116,122]⟩),.sc (.string ⟨#[112,111,112,99,110,116]⟩),.sc (.string ⟨#[97,100,100]⟩),.sc (.string ⟨#[115,117,98]⟩),.sc (.string ⟨#[109,117,108]⟩),.sc (.string ⟨#[100,105,118,95,115]⟩),.sc (.string ⟨#[100,105,118,95,117]⟩),.sc (.string ⟨#[114,101,109,95,115]⟩),.sc (.string ⟨#[114,101,109,95,117]⟩),.sc (.string ⟨#[97,110,100]⟩),.sc (.string ⟨#[111,114]⟩),.sc (.string ⟨#[120,111,114]⟩),.sc (.string ⟨#[115,104,108]⟩),.sc (.string ⟨#[115,104,114,95,115]⟩),.sc (.string ⟨#[115,104,114,95,117]⟩),.sc (.string ⟨#[114,111,116,108]⟩),.sc (.string ⟨#[114,111,116,114]⟩)]),[]⟩
theorem akH:az ae env L4.g L4.args L4.m L4.v L4.m':=gi aH (K:=ZC) Px (n:=10000000) (by kernel_rfl)
def afI:List dH:=L4::ZC
theorem ZD:gT ae env afI:=iQ akH Px
def Py:List ByteArray:=[⟨#[117,110,114,101,97,99,104,97,98,108,101]⟩,⟨#[110,111,112]⟩,⟨#[98,108,111,99,107]⟩,⟨#[108,111,111,112]⟩,⟨#[105,102]⟩,⟨#[]⟩,⟨#[]⟩,⟨#[]⟩,⟨#[]⟩,⟨#[]⟩,⟨#[]⟩,⟨#[]⟩,⟨#[98,114]⟩,⟨#[98,114,95,105,102]⟩,⟨#[98,114,95,116,97,98,108,101]⟩,⟨#[114,101,116,117,114,110]⟩,⟨#[99,97,108,108]⟩,⟨#[99,97,108,108,95,105,110,100,105,114,101,99,116]⟩,⟨#[]⟩,⟨#[]⟩,⟨#[]⟩,⟨#[]⟩,⟨#[]⟩,⟨#[]⟩,⟨#[]⟩,⟨#[]⟩,⟨#[100,114,111,112]⟩,⟨#[115,101,108,101,99,116]⟩,⟨#[]⟩,⟨#[]⟩,⟨#[]⟩,⟨#[]⟩,⟨#[108,111,99,97,108,46,103,101,116]⟩,⟨#[108,111,99,97,108,46,115,101,116]⟩,⟨#[108,111,99,97,108,46,116,101,101]⟩,⟨#[103,108,111,98,97,108,46,103,101,116]⟩,⟨#[103,108,111,98,97,108,46,115,101,116]⟩,⟨#[]⟩,⟨#[]⟩,⟨#[]⟩,⟨#[105,51,50,46,108,111,97,100]⟩,⟨#[]⟩,⟨#[]⟩,⟨#[]⟩,⟨#[105,51,50,46,108,111,97,100,56,95,115]⟩,⟨#[105,51,50,46,108,111,97,100,56,95,117]⟩,⟨#[105,51,50,46,108,111,97,100,49,54,95,115]⟩,⟨#[105,51,50,46,108,111,97,100,49,54,95,117]⟩,⟨#[]⟩,⟨#[]⟩,⟨#[]⟩,⟨#[]⟩,⟨#[]⟩,⟨#[]⟩,⟨#[105,51,50,46,115,116,111,114,101]⟩,⟨#[]⟩,⟨#[]⟩,⟨#[]⟩,⟨#[105,51,50,46,115,116,111,114,101,56]⟩,⟨#[105,51,50,46,115,116,111,114,101,49,54]⟩,⟨#[]⟩,⟨#[]⟩,⟨#[]⟩,⟨#[109,101,109,111,114,121,46,115,105,122,101]⟩,⟨#[109,101,109,111,114,121,46,103,114,111,119]⟩,⟨#[105,51,50,46,99,111,110,115,116]⟩,⟨#[]⟩,⟨#[]⟩,⟨#[]⟩,⟨#[105,51,50,46,101,113,122]⟩,⟨#[105,51,50,46,101,113]⟩,⟨#[105,51,50,46,110,101]⟩,⟨#[105,51,50,46,108,116,95,115]⟩,⟨#[105,51,50,46,108,116,95,117]⟩,⟨#[105,51,50,46,103,116,95,115]⟩,⟨#[105,51,50,46,103,116,95,117]⟩,⟨#[105,51,50,46,108,101,95,115]⟩,⟨#[105,51,50,46,108,101,95,117]⟩,⟨#[105,51,50,46,103,101,95,115]⟩,⟨#[105,51,50,46,103,101,95,117]⟩,⟨#[]⟩,⟨#[]⟩,⟨#[]⟩,⟨#[]⟩,⟨#[]⟩,⟨#[]⟩,⟨#[]⟩,⟨#[]⟩,⟨#[]⟩,⟨#[]⟩,⟨#[]⟩,⟨#[]⟩,⟨#[]⟩,⟨#[]⟩,⟨#[]⟩,⟨#[]⟩,⟨#[]⟩,⟨#[]⟩,⟨#[]⟩,⟨#[]⟩,⟨#[]⟩,⟨#[]⟩,⟨#[]⟩,⟨#[105,51,50,46,99,108,122]⟩,⟨#[105,51,50,46,99,116,122]⟩,⟨#[105,51,50,46,112,111,112,99,110,116]⟩,⟨#[105,51,50,46,97,100,100]⟩,⟨#[105,51,50,46,115,117,98]⟩,⟨#[105,51,50,46,109,117,108]⟩,⟨#[105,51,50,46,100,105,118,95,115]⟩,⟨#[105,51,50,46,100,105,118,95,117]⟩,⟨#[105,51,50,46,114,101,109,95,115]⟩,⟨#[105,51,50,46,114,101,109,95,117]⟩,⟨#[105,51,50,46,97,110,100]⟩,⟨#[105,51,50,46,111,114]⟩,⟨#[105,51,50,46,120,111,114]⟩,⟨#[105,51,50,46,115,104,108]⟩,⟨#[105,51,50,46,115,104,114,95,115]⟩,⟨#[105,51,50,46,115,104,114,95,117]⟩,⟨#[105,51,50,46,114,111,116,108]⟩,⟨#[105,51,50,46,114,111,116,114]⟩,⟨#[]⟩,⟨#[]⟩,⟨#[]⟩,⟨#[]⟩,⟨#[]⟩,⟨#[]⟩,⟨#[]⟩,⟨#[]⟩,⟨#[]⟩,⟨#[]⟩,⟨#[]⟩,⟨#[]⟩,⟨#[]⟩,⟨#[]⟩,⟨#[]⟩,⟨#[]⟩,⟨#[]⟩,⟨#[]⟩,⟨#[]⟩,⟨#[]⟩,⟨#[]⟩,⟨#[]⟩,⟨#[]⟩,⟨#[]⟩,⟨#[]⟩,⟨#[]⟩,⟨#[]⟩,⟨#[]⟩,⟨#[]⟩,⟨#[]⟩,⟨#[]⟩,⟨#[]⟩,⟨#[]⟩,⟨#[]⟩,⟨#[]⟩,⟨#[]⟩,⟨#[]⟩,⟨#[]⟩,⟨#[]⟩,⟨#[]⟩,⟨#[]⟩,⟨#[]⟩,⟨#[]⟩,⟨#[]⟩,⟨#[]⟩,⟨#[]⟩,⟨#[]⟩,⟨#[]⟩,⟨#[]⟩,⟨#[]⟩,⟨#[]⟩,⟨#[]⟩,⟨#[]⟩,⟨#[]⟩,⟨#[]⟩,⟨#[]⟩,⟨#[]⟩,⟨#[]⟩,⟨#[]⟩,⟨#[]⟩,⟨#[]⟩,⟨#[]⟩,⟨#[]⟩,⟨#[]⟩,⟨#[]⟩,⟨#[]⟩,⟨#[]⟩,⟨#[]⟩,⟨#[]⟩,⟨#[]⟩,⟨#[]⟩,⟨#[]⟩,⟨#[]⟩,⟨#[]⟩,⟨#[]⟩,⟨#[]⟩,⟨#[]⟩,⟨#[]⟩,⟨#[]⟩,⟨#[]⟩,⟨#[]⟩,⟨#[]⟩,⟨#[]⟩,⟨#[]⟩,⟨#[]⟩,⟨#[]⟩,⟨#[]⟩,⟨#[]⟩,⟨#[]⟩,⟨#[]⟩,⟨#[]⟩,⟨#[]⟩,⟨#[]⟩,⟨#[]⟩,⟨#[]⟩,⟨#[]⟩,⟨#[]⟩,⟨#[]⟩,⟨#[]⟩,⟨#[]⟩,⟨#[]⟩,⟨#[]⟩,⟨#[]⟩,⟨#[]⟩,⟨#[]⟩,⟨#[]⟩,⟨#[]⟩,⟨#[]⟩,⟨#[]⟩,⟨#[]⟩,⟨#[]⟩,⟨#[]⟩,⟨#[]⟩,⟨#[]⟩,⟨#[]⟩,⟨#[]⟩,⟨#[]⟩,⟨#[]⟩,⟨#[]⟩,⟨#[]⟩,⟨#[]⟩,⟨#[]⟩,⟨#[]⟩,⟨#[]⟩,⟨#[]⟩,⟨#[]⟩,⟨#[]⟩,⟨#[]⟩,⟨#[]⟩,⟨#[]⟩,⟨#[]⟩,⟨#[]⟩,⟨#[]⟩,⟨#[]⟩,⟨#[]⟩]
theorem ZE:az ae env 149 [] [] (.agg (Py.map fun s=> .p (.sc (.string s)))) []:=gi aH (K:=afI) ZD (n:=10000000) (by kernel_rfl)
end Go.Proofs.YtncncijedmfpjaaGreatDoor.N
end
