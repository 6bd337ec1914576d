import Derived.Test.YtjfgfhaoeicpdaaGreatDoorMG
import Derived.Test.YtjfgfhaoeicpdaaGreatDoorChecked
import Derived.Test.YtjfgfhaoeicpdaaGreatDoorMF
import GoSem.PinnedTables
open List renaming getD_eq_getElem?_getD→cb,length_append→de,length_cons→ma,drop_zero→abj,map_append→abm,length_nil→abn,getElem?_append_right→Hc,mem_singleton→abA,getElem?_eq_getElem→bm,map→abG,take→abT,getElem?_eq_none→dp,append_assoc→vz,foldr_append→abW,length_map→mf,append_nil→H4,map_cons→oe
open Nat renaming reduceAdd→ab2,add_assoc→fg,zero_le→QQ,beq→ae,zero_add→pj,lt_or_ge→fb
open Go.Proofs.Tryz renaming prog→ab5
open Go.IntKind renaming i64→rn,u32→abb
open Go.TypeInfo renaming mk→aca
open Option renaming none→acb,some→acx
open Go.LoopState renaming ready→adz
open Go.Fn renaming func→adL
open Min renaming min→ad3
open Max renaming max→aeh
open Int renaming toNat_natCast→aep
noncomputable section
section
namespace Go.Am
open Go.RowKit
inductive Ins where
 |mk (op results a b n:Int) (tags:List Int) (l e:List Ins)
namespace Ins
def op:Ins→Int | .mk op _ _ _ _ _ _ _=>op
def results:Ins→Int | .mk _ r _ _ _ _ _ _=>r
def a:Ins→Int | .mk _ _ a _ _ _ _ _=>a
def b:Ins→Int | .mk _ _ _ b _ _ _ _=>b
def n:Ins→Int | .mk _ _ _ _ n _ _ _=>n
def tags:Ins→List Int | .mk _ _ _ _ _ t _ _=>t
def l:Ins→List Ins | .mk _ _ _ _ _ _ l _=>l
def e:Ins→List Ins | .mk _ _ _ _ _ _ _ e=>e
end Ins
def dw (k:IntKind) (l:List Int):List PV:=l.map fun t=> .sc (.int k t)
mutual
def oN:Ins→List PV
 |.mk op r a b n tags l e=>[.sc (.int .i64 op),.sc (.int .i64 r),.sc (.int .u32 a),.sc (.int .u32 b),.sc (.int .i32 n),.ps tags.length 1 (dw .u32 tags),.ps l.length 8 (aq l),.ps e.length 8 (aq e)]
def aq:List Ins→List PV
 |[]=>[]
 |x::r=>oN x++aq r
end
mutual
def V5:Ins→Prop
 |.mk op r a b n tags l e=>(Lit.int .i64 op).wf=true∧(Lit.int .i64 r).wf=true∧(Lit.int .u32 a).wf=true∧(Lit.int .u32 b).wf=true∧(Lit.int .i32 n).wf=true∧(tags.length≤maxLen ∧ ∀t∈tags,(Lit.int .u32 t).wf=true)∧(l.length≤maxLen∧Ky l)∧e.length≤maxLen∧Ky e
def Ky:List Ins→Prop
 |[]=>True
 |x::r=>V5 x∧Ky r
end
theorem AU : ∀l:List Ins,aq l=l.flatMap oN
 |[]=>rfl
 |x::r=>by rw[aq,AU r];rfl
theorem Iw : ∀{l:List Ins},(∀x∈l,V5 x)→Ky l
 |[],_=>trivial
 |x::_,h=>⟨h x (.head _),Iw fun y hy=>h y (.tail _ hy)⟩
theorem iT : ∀x:Ins,(oN x).length=8
 |.mk .. =>rfl
structure Xh (P:Program) (tL tI ti tu tn tt:TypeId) (fs:Array Field):Prop where
 hL:P.underlying tL=some (.slice tI)
 hI:P.underlying tI=some (.struct fs)
 hz:P.cellsOf tI=8
 hf:fs.toList.map (fun f=>(f.offset,f.type))=[(0,ti),(1,ti),(2,tu),(3,tu),(4,tn),(5,tt),(6,tL),(7,tL)]
 h1:P.cellsOf ti=1∧P.cellsOf tu=1∧P.cellsOf tn=1∧P.cellsOf tt=1∧P.cellsOf tL=1
 ki:P.underlying ti=some (.int .i64)
 ku:P.underlying tu=some (.int .u32)
 kn:P.underlying tn=some (.int .i32)
 kt:P.underlying tt=some (.slice tu)
section
variable {H:Type} {enc:TypeId×Value→H} {P:Program} {w:World} {base:Nat} {spare:Nat→Bool} {held:Bool} {tL tI ti tu tn tt:TypeId} {fs:Array Field}
theorem Xi {i:Nat} {o t:Nat} (hf:(fs.toList.map fun f=>(f.offset,f.type))[i]? = some (o,t)) : ∃f,fs[i]? = some f∧f.offset=o∧f.type=t:=by
 rw[List.getElem?_map] at hf
 cases h:fs.toList[i]? with
 |none=>rw[h] at hf;cases hf
 |some f=>
  rw[h] at hf
  simp only[Option.map_some,Option.some.injEq,Prod.mk.injEq] at hf
  exact⟨f,by simpa using h,hf.1,hf.2⟩
theorem bT.cat {w:World} {x:PV} {l:List PV} {v:Value} {cs:List Value} (h:bT w [x] [v]) (k:bT w l cs):bT w (x::l) (v::cs):=h.append k
theorem D9 (T:Xh P tL tI ti tu tn tt fs) : ∀(fuel:Nat) (cs:List Value) (x:DataW H×List MemPlace),DataW.trod enc P w base spare held fuel tL cs=some x →
  ∃l:List Ins,(l.length≤maxLen∧Ky l)∧bT w [.ps l.length 8 (aq l)] cs:=by
 intro fuel
 induction fuel using Nat.strongRecOn with
 |ind fuel ih=>
  intro cs x h
  obtain⟨xs,h0,h1,h2⟩:=jX (mm:=oN) (wf:=V5) T.hL (by rw[T.hz];omega) h fun n hn us y hy=>by
   obtain⟨m,rfl,hlen,hg⟩:=jc T.hI hy
   rw[T.hz] at hlen
   have get : ∀(i:Nat) (o t:Nat),[(0,ti),(1,ti),(2,tu),(3,tu),(4,tn),(5,tt),(6,tL),(7,tL)][i]? = some (o,t)→P.cellsOf t=1 → ∃y,DataW.trod enc P w base spare held m t ((us.drop o).take 1)=some y:=by
    intro i o t hi hc
    obtain⟨f,q1,q2,q3⟩:=Xi (fs:=fs) (i:=i) (by rw[T.hf];exact hi)
    obtain⟨y,hy⟩:=hg i f q1
    rw[q2,q3,hc] at hy
    exact⟨y,hy⟩
   obtain⟨c1,c2,c3,c4,c5⟩:=T.h1
   obtain⟨y0,e0⟩:=get 0 0 ti rfl c1
   obtain⟨y1,e1⟩:=get 1 1 ti rfl c1
   obtain⟨y2,e2⟩:=get 2 2 tu rfl c2
   obtain⟨y3,e3⟩:=get 3 3 tu rfl c2
   obtain⟨y4,e4⟩:=get 4 4 tn rfl c3
   obtain⟨y5,e5⟩:=get 5 5 tt rfl c4
   obtain⟨y6,e6⟩:=get 6 6 tL rfl c5
   obtain⟨y7,e7⟩:=get 7 7 tL rfl c5
   match us,hlen with
   |[u0,u1,u2,u3,u4,u5,u6,u7],_=>
    simp only[abj,List.drop_succ_cons,List.take_succ_cons,List.take_zero] at e0 e1 e2 e3 e4 e5 e6 e7
    obtain⟨n0,w0,k0⟩:=bU T.ki e0
    obtain⟨n1,w1,k1⟩:=bU T.ki e1
    obtain⟨n2,w2,k2⟩:=bU T.ku e2
    obtain⟨n3,w3,k3⟩:=bU T.ku e3
    obtain⟨n4,w4,k4⟩:=bU T.kn e4
    obtain⟨n5,w5,w5',k5⟩:=pG T.kt T.ku c2 e5
    obtain⟨n6,w6,k6⟩:=ih m (by omega) _ _ e6
    obtain⟨n7,w7,k7⟩:=ih m (by omega) _ _ e7
    exact⟨.mk n0 n1 n2 n3 n4 n5 n6 n7,⟨w0,w1,w2,w3,w4,⟨w5,w5'⟩,w6,w7⟩,k0.cat (k1.cat (k2.cat (k3.cat (k4.cat (k5.cat (k6.cat k7))))))⟩
  refine⟨xs,⟨h0,Iw h1⟩,?_⟩
  rw[T.hz,←AU] at h2
  exact h2
end
end Go.Am
end
section
namespace Go.Am
theorem tq (k:IntKind) (l:List Int) (n:Nat) (h:n<l.length):(dw k l).getD n .bK = .sc (.int k (l.getD n 0)):=by
 simp[dw,cb,bm h]
theorem Ea (k:IntKind) (l:List Int) (n:Nat) (h:l.length≤n):(dw k l).getD n .bK = .bK:=by
 simp[dw,cb,dp h]
@[simp] theorem xW (k:IntKind) (l:List Int) (n:Nat):az ((dw k l).getD n .bK)=l.getD n 0:=by
  rcases fb n l.length with h | h
  · rw[tq k l n h];rfl
  · rw[Ea k l n h]
    simp[cb,dp h]
    rfl
@[simp] theorem xX (k:IntKind) (l:List Int) (n:Nat):isInt k ((dw k l).getD n .bK)=decide (n<l.length):=by
  rcases fb n l.length with h | h
  · rw[tq k l n h];simp[isInt,h]
  · rw[Ea k l n h];simp[isInt];omega
theorem Eb {k:IntKind} : ∀{l m:List Int},dw k l=dw k m→l=m
 |[],[],_=>rfl
 |[],_::_,h=>by simp[dw] at h
 |_::_,[],h=>by simp[dw] at h
 |a::l,b::m,h=>by
  simp only[dw,oe,List.cons.injEq,PV.sc.injEq,Value.int.injEq,true_and] at h
  rw[h.1,Eb (l:=l) (m:=m) h.2]
mutual
theorem NA : ∀{x y:Ins},oN x=oN y→x=y
 |.mk op r a b n tags l e,.mk op' r' a' b' n' tags' l' e',h=>by
  simp only[oN,List.cons.injEq,PV.sc.injEq,Value.int.injEq,PV.ps.injEq,true_and,and_true] at h
  obtain⟨rfl,rfl,rfl,rfl,rfl,⟨_,h5⟩,⟨_,h6⟩,_,h7⟩:=h
  rw[Eb h5,nP h6,nP h7]
theorem nP : ∀{l m:List Ins},aq l=aq m→l=m
 |[],[],_=>rfl
 |[],.mk .. :: _,h=>by simp[aq,oN] at h
 |.mk .. :: _,[],h=>by simp[aq,oN] at h
 |x::l,y::m,h=>by
  simp only[aq] at h
  obtain⟨h1,h2⟩:=List.append_inj h (by rw[iT,iT])
  rw[NA h1,nP h2]
end
theorem tv : ∀{l:List Ins} {k:Nat} {x:Ins},l[k]? = some x → ∀c,c<8→(aq l).getD (k*8+c) .bK=(oN x).getD c .bK
 |[],_,_,h,_,_=>by simp at h
 |y::l,0,x,h,c,hc=>by
  simp only[List.getElem?_cons_zero,Option.some.injEq] at h;subst h
  rw[aq,Nat.zero_mul,pj,cb,cb,List.getElem?_append_left (by rw[iT];exact hc)]
 |y::l,k+1,x,h,c,hc=>by
  have ih:=tv (l:=l) (k:=k) (x:=x) (by simpa using h) c hc
  rw[cb] at ih
  rw[aq,cb,Hc (by rw[iT];omega),iT,show(k+1)*8+c-8=k*8+c by omega]
  exact ih
theorem uG : ∀l m:List Ins,aq (l++m)=aq l++aq m
 |[],_=>rfl
 |x::l,m=>by rw[List.cons_append,aq,aq,uG l m,vz]
theorem NB (x:Ins):aq [x]=oN x:=by simp[aq]
theorem rD : ∀{l:List Ins} {x:Ins},Ky l→x∈l→V5 x
 |_::_,_,h,.head _=>h.1
 |_::_,_,h,.tail _ hx=>rD h.2 hx
mutual
def xY:Ins→Nat
 |.mk _ _ _ _ _ tags l e=>1+tags.length+iy l+iy e
def iy:List Ins→Nat
 |[]=>0
 |x::r=>xY x+iy r
end
theorem uH : ∀l:List Ins,l.length≤iy l
 |[]=>QQ _
 |.mk _ _ _ _ _ t l e::r=>by have:=uH r;simp only[iy,xY,ma];omega
theorem xZ : ∀{l:List Ins} {x:Ins},x∈l→xY x≤iy l
 |y::l,x,h=>by
  simp only[iy]
  cases h with
  |head=>omega
  |tail _ h=>have:=xZ h;omega
mutual
def dm:List Ins→Int→Int→Int
 |[],_,n=>n
 |x::r,most,n=>if n≤most then dm r most (x7 x most n) else n
def x7:Ins→Int→Int→Int
 |.mk _ _ _ _ _ tags l e,most,n=>
  let n1:=n+1+min (tags.length:Int) most
  let n2:=if n1≤most then n1+dm l (most-n1) 0 else n1
  if n2≤most then n2+dm e (most-n2) 0 else n2
end
mutual
theorem x8 : ∀(x:Ins) (most n:Int),0≤n→n≤most→n≤x7 x most n∧x7 x most n≤2*most+1
 |.mk _ _ _ _ _ tags l e,most,n,h0,h=>by
  simp only[x7]
  generalize hn1:n+1+min (tags.length:Int) most=n1
  have h1:n+1≤n1∧n1≤2*most+1:=by omega
  generalize hn2:(if n1≤most then n1+dm l (most-n1) 0 else n1)=n2
  have h2:n1≤n2∧n2≤2*most+1:=by
   rw[←hn2]
   split
   · have:=cu l (most-n1) 0 (by omega) (by omega) (by omega);omega
   · omega
  split
  · have:=cu e (most-n2) 0 (by omega) (by omega) (by omega);omega
  · omega
theorem cu : ∀(l:List Ins) (most n:Int),0≤most→0≤n→n≤2*most+1→n≤dm l most n∧dm l most n≤2*most+1
 |[],most,n,_,_,h=>by simp only[dm];omega
 |x::r,most,n,hm,h0,h=>by
  simp only[dm]
  split
  · have h1:=x8 x most n h0 (by omega)
    have h2:=cu r most (x7 x most n) hm (by omega) (by omega)
    omega
  · omega
end
mutual
theorem NC : ∀(x:Ins) (most n:Int),0≤n→n≤most→x7 x most n≤most→x7 x most n=n+xY x
 |.mk _ _ _ _ _ tags l e,most,n,h0,h=>by
  simp only[x7,xY]
  generalize hn1:n+1+min (tags.length:Int) most=n1
  generalize hn2:(if n1≤most then n1+dm l (most-n1) 0 else n1)=n2
  intro h3
  have hle:n2≤most:=by
   split at h3
   · rename_i q;exact q
   · exact h3
  rw[if_pos hle] at h3 ⊢
  have hr2:=cu e (most-n2) 0 (by omega) (by omega) (by omega)
  have af2:n1≤most:=by
   rw[←hn2] at hle
   split at hle
   · rename_i q;exact q
   · exact hle
  rw[if_pos af2] at hn2
  have FO:=cu l (most-n1) 0 (by omega) (by omega) (by omega)
  have e1:=nQ l (most-n1) 0 (by omega) (by omega) (by omega)
  have e2:=nQ e (most-n2) 0 (by omega) (by omega) (by omega)
  have:min (tags.length:Int) most=tags.length:=by omega
  push_cast
  omega
theorem nQ : ∀(l:List Ins) (most n:Int),0≤most→0≤n→dm l most n≤most→dm l most n=n+iy l
 |[],most,n,_,_,h=>by simp[dm,iy]
 |x::r,most,n,hm,h0,h=>by
  simp only[dm,iy] at h ⊢
  split at h
  · rename_i hn
    rw[if_pos hn]
    have hr:=x8 x most n h0 hn
    have hr2:=cu r most (x7 x most n) hm (by omega) (by omega)
    have e1:=NC x most n h0 hn (by omega)
    have e2:=nQ r most (x7 x most n) hm (by omega) h
    push_cast
    omega
  · omega
end
end Go.Am
end
section
namespace Go.Proofs.YtjfgfhaoeicpdaaGreatDoor.N
open Go Go.Am
def aB (l:List PV) (n:Nat):PV:=l.getD n PV.bK
def aK (i:Nat):Nat:=(i:Int).toNat
def oO:aC:= .out (.ret (sB true) [])
def mq:AV:= .os none 0 0 []
theorem bN:(∀l n,aB l n=l.getD n PV.bK)∧(∀i,aK i=(i:Int).toNat)∧oO = .out (.ret (sB true) [])∧mq = .os none 0 0 []:=⟨fun _ _=>rfl,fun _=>rfl,rfl,rfl⟩
def ND:List Int:=[0,0,0,0,0,0,0,0,0,1,1,1,1,1,0,0,0,0,0,0,0,0,0,0,0,0,0,0,0,0,0,0,1]++List.replicate 223 0
def iz:List Int:=Pinned.utf8FirstZ.map fun(n:Nat)=>(n:Int)
def abV:List Int:=[128,191,160,191,128,159,144,191,128,143,0,0,0,0,0,0,0,0,0,0,0,0,0,0,0,0,0,0,0,0,0,0]
def tabs:List (Nat×List Value):=[(2,ND.map (.int .u8)),(0,iz.map (.int .u8)),(1,abV.map (.int .u8))]
def keeps:List (Nat×Nat×List Nat):=[(5,2,[1,2,5,6]),(5,6,[1,2,5,7]),(5,10,[1,2,5,8]),(5,14,[1,2,5,9]),(5,18,[1,2,5,10]),(5,22,[1,2,5,11]),(18,0,[1,6,7,8]),(7,2,[1,2,4]),(16,0,[0,1,5,6]),(105,0,[0,1,7,8]),(31,0,[1,3,7,8,9]),(98,0,[1,3,13,14,15]),(98,4,[1,3,27,28,29]),(98,8,[1,3,40,41,42]),(98,12,[3,53,54,55]),(66,2,[0,3,4]),(69,0,[1,8,9,10]),(71,0,[1,3,9,10,11]),(71,4,[3,24,25,26]),(82,0,[3,11]),(90,0,[0,6,7,8]),(35,0,[0,2,6,10,11]),(44,4,[3,22,23,24]),(97,0,[0,1,7,8]),(99,0,[0,1,7,8]),(100,0,[0,1,7,8]),(101,0,[0,1,7,8]),(102,0,[0,1,7,8]),(104,0,[0,1,7,8]),(110,0,[0,3]),(110,4,[0,3,4,25,26,27]),(119,0,[0,2,4,6,13,14,15]),(119,4,[0,2,9,32,33,34]),(138,2,[1,3,28,29,30]),(128,0,[0,1,10,11,12]),(128,4,[0,1,24,25,26])]
def wrs (f d:Nat):Bool:=(ae f 110&&ae d 9)||(ae f 139&&ae d 5)||(ae f 89&&ae d 13)
def env:Env where
 cQ:=pF tabs
 wr:=wrs
 keep:=xT keeps
theorem aM:fq ab5:=Gu (by kernel_rfl)
end Go.Proofs.YtjfgfhaoeicpdaaGreatDoor.N
end
section
namespace Go.Am
mutual
def S5 (p:Ins→Bool):Ins→Bool
 |.mk op r a b n tags l e=>p (.mk op r a b n tags l e)&&(zY p l&&zY p e)
def zY (p:Ins→Bool):List Ins→Bool
 |[]=>true
 |x::r=>S5 p x&&zY p r
end
mutual
def mw:Ins→Nat
 |.mk _ _ _ _ _ _ l e=>1+cS l+cS e
def cS:List Ins→Nat
 |[]=>0
 |x::r=>mw x+cS r
end
mutual
def zZ:Nat→Ins→Nat
 |d,.mk _ _ _ _ _ _ l e=>max d (max (gm (d+1) l) (gm (d+1) e))
def gm:Nat→List Ins→Nat
 |_,[]=>0
 |d,x::r=>max (zZ d x) (gm d r)
end
mutual
def Gz:Ins→Nat
 |.mk _ _ _ _ _ tags l e=>max tags.length (max (mz l) (mz e))
def mz:List Ins→Nat
 |[]=>0
 |x::r=>max (Gz x) (mz r)
end
theorem kF : ∀l:List Ins,l.length≤cS l
 |[]=>QQ _
 |.mk _ _ _ _ _ t l e::r=>by have:=kF r;simp only[cS,mw,ma];omega
mutual
theorem NF : ∀x:Ins,mw x≤xY x
 |.mk _ _ _ _ _ t l e=>by have:=rE l;have:=rE e;simp only[mw,xY];omega
theorem rE : ∀l:List Ins,cS l≤iy l
 |[]=>QQ _
 |x::r=>by have:=NF x;have:=rE r;simp only[cS,iy];omega
end
mutual
theorem NG : ∀x:Ins,Gz x≤xY x
 |.mk _ _ _ _ _ t l e=>by have:=x9 l;have:=x9 e;simp only[Gz,xY];omega
theorem x9 : ∀l:List Ins,mz l≤iy l
 |[]=>QQ _
 |x::r=>by have:=NG x;have:=x9 r;simp only[mz,iy];omega
end
mutual
theorem NH : ∀(d:Nat) (x:Ins),zZ d x≤d+mw x
 |d,.mk _ _ _ _ _ t l e=>by have:=ya (d+1) l;have:=ya (d+1) e;simp only[zZ,mw];omega
theorem ya : ∀(d:Nat) (l:List Ins),gm d l≤d+cS l
 |_,[]=>QQ _
 |d,x::r=>by have:=NH d x;have:=ya d r;simp only[gm,cS];omega
end
mutual
theorem GA : ∀(d:Nat) (x:Ins),zZ (d+1) x=zZ d x+1
 |d,.mk _ _ _ _ _ t l e=>by
  have h1:=mA (d+1) l
  have h2:=mA (d+1) e
  simp only[zZ]
  cases l with
  |nil=>cases e with
   |nil=>simp[gm]
   |cons y e=>rw[h2 (by simp)];simp only[gm];omega
  |cons x l=>cases e with
   |nil=>rw[h1 (by simp)];simp only[gm];omega
   |cons y e=>rw[h1 (by simp),h2 (by simp)];omega
theorem mA : ∀(d:Nat) (l:List Ins),l≠[]→gm (d+1) l=gm d l+1
 |_,[],h=>absurd rfl h
 |d,x::r,_=>by
  have h1:=GA d x
  cases r with
  |nil=>simp only[gm,h1];omega
  |cons y r=>rw[gm,mA d (y::r) (by simp),h1,gm.eq_2 d x];omega
end
abbrev aL (l:List Ins):AV:= .p (.ps l.length 8 (aq l))
def dR (op r a b nn:Int) (tg:List Int) (ll le:List Ins):AV:= .agg [sI .i64 op,sI .i64 r,sI .u32 a,sI .u32 b,sI .i32 nn,.p (.ps tg.length 1 (dw .u32 tg)),aL ll,aL le]
def S6:Ins→AV
 |.mk op r a b nn tg ll le=>dR op r a b nn tg ll le
theorem NI {l m:List Ins} (h:aL l=aL m):l=m:=by
 simp only[AV.p.injEq,PV.ps.injEq] at h
 exact nP h.2.2
theorem nR {l:List Ins} {k:Nat} {op rs a b nn:Int} {tags:List Int} {ll le:List Ins} (h:l[k]? = some (.mk op rs a b nn tags ll le)) :
  (aq l).getD (k*8) .bK = .sc (.int .i64 op)∧(aq l).getD (k*8+1) .bK = .sc (.int .i64 rs)∧(aq l).getD (k*8+2) .bK = .sc (.int .u32 a)∧(aq l).getD (k*8+3) .bK = .sc (.int .u32 b) ∧
    (aq l).getD (k*8+4) .bK = .sc (.int .i32 nn)∧(aq l).getD (k*8+5) .bK = .ps tags.length 1 (dw .u32 tags)∧(aq l).getD (k*8+6) .bK = .ps ll.length 8 (aq ll)∧(aq l).getD (k*8+7) .bK = .ps le.length 8 (aq le):=
 have hc:=tv h
 ⟨hc 0 (by omega),hc 1 (by omega),hc 2 (by omega),hc 3 (by omega),hc 4 (by omega),hc 5 (by omega),hc 6 (by omega),hc 7 (by omega)⟩
abbrev jd:=List (List Ins×Nat)
def fA (st:jd):List PV:=st.flatMap fun e=>[.ps e.1.length 8 (aq e.1),.sc (.int .i64 e.2)]
def NJ (p:Ins→Bool) (st:jd):Bool:=st.all fun e=>zY p e.1
def rF (st:jd):Nat:=(st.map fun e=>cS e.1).sum
def yc (st:jd):Nat:=(st.map fun e=>gm e.2 e.1).foldr max 0
def yd (st:jd):Nat:=(st.map fun e=>mz e.1).foldr max 0
def wS (st:jd):Nat:=(st.map fun e=>2*cS e.1+1).sum
theorem iU : ∀st:jd,(fA st).length=st.length*2
 |[]=>rfl
 |e::st=>by rw[fA,List.flatMap_cons,de,ma];have:=iU st;rw[fA] at this;rw[this];simp;omega
theorem nS (s t:jd):fA (s++t)=fA s++fA t:=by simp[fA]
theorem AW (s:List Nat) (b:Nat):s.foldr max b=max (s.foldr max 0) b:=by
 induction s with
 |nil=>simp
 |cons a s ih=>simp only[List.foldr_cons,ih];omega
theorem qd (p:Ins→Bool) (s t:jd):NJ p (s++t)=(NJ p s&&NJ p t):=by simp[NJ]
theorem kG (s t:jd):rF (s++t)=rF s+rF t:=by simp[rF]
theorem tw (s t:jd):wS (s++t)=wS s+wS t:=by simp[wS]
theorem uI (s t:jd):yc (s++t)=max (yc s) (yc t):=by simp only[yc,abm,abW];rw[AW]
theorem uJ (s t:jd):yd (s++t)=max (yd s) (yd t):=by simp only[yd,abm,abW];rw[AW]
@[simp] theorem vQ (p:Ins→Bool) (l:List Ins) (d:Nat):NJ p [(l,d)]=zY p l:=by simp[NJ]
@[simp] theorem yf (l:List Ins) (d:Nat):rF [(l,d)]=cS l:=by simp[rF]
@[simp] theorem Xj (l:List Ins) (d:Nat):wS [(l,d)]=2*cS l+1:=by simp[wS]
@[simp] theorem Ec (l:List Ins) (d:Nat):yc [(l,d)]=gm d l:=by simp[yc]
@[simp] theorem Ed (l:List Ins) (d:Nat):yd [(l,d)]=mz l:=by simp[yd]
theorem tA : ∀st:jd,st.length≤wS st
 |[]=>QQ _
 |e::st=>by have:=tA st;simp only[wS,oe,List.sum_cons,ma] at this ⊢;omega
def gp (st:jd) (cells:List AV):Prop:=cells.take (st.length*2)=(fA st).map .p
theorem gp.len {st:jd} {cells:List AV} (h:gp st cells):st.length*2≤cells.length:=by
 have:=congrArg List.length h
 rw[List.length_take,mf,iU] at this
 omega
theorem gp.top {st:jd} {x:List Ins} {d:Nat} {cells:List AV} (h:gp (st++[(x,d)]) cells):cells.getD (st.length*2) .aj = .p (.ps x.length 8 (aq x))∧cells.getD (st.length*2+1) .aj = .p (.sc (.int .i64 d)):=by
 have hl:=h.len
 simp only[de,ma,abn] at hl
 have get : ∀j,j<2→cells.getD (st.length*2+j) .aj=((fA (st++[(x,d)])).map AV.p).getD (st.length*2+j) .aj:=by
  intro j hj
  rw[←show cells.take ((st++[(x,d)]).length*2)=_ from h,cb,cb,List.getElem?_take_of_lt (by simp only[de,ma,abn];omega)]
 have g0:=get 0 (by omega)
 have g1:=get 1 (by omega)
 rw[nS,abm,cb (l:=abG AV.p (fA st)++_),Hc (by simp[iU])] at g0 g1
 simp only[mf,iU] at g0 g1
 rw[show st.length*2+0-st.length*2=0 by omega] at g0
 rw[show st.length*2+1-st.length*2=1 by omega] at g1
 exact⟨by simpa[fA] using g0,by simpa[fA] using g1⟩
theorem gp.pop {st:jd} {e:List Ins×Nat} {cells:List AV} (h:gp (st++[e]) cells):gp st cells:=by
 unfold gp at h ⊢
 have:=congrArg (abT (st.length*2)) h
 rw[List.take_take,nS,abm,List.take_left' (by simp[iU])] at this
 rw[←this];congr 1
 simp only[de,ma,abn];omega
theorem gp.keep {st:jd} {cells:List AV} (h:gp st cells):gp st (cells.map aa):=by
 unfold gp at h ⊢
 rw[←List.map_take,h,List.map_map];rfl
theorem gp.push {st:jd} {cells:List AV} (h:gp st cells) (x:List Ins) (d:Nat):gp (st++[(x,d)]) (cells.take (st.length*2)++[.p (.ps x.length 8 (aq x)),.p (.sc (.int .i64 d))]):=by
 have hl:=h.len
 unfold gp at h ⊢
 rw[List.take_of_length_le (by simp;omega),h,nS,abm];rfl
end Go.Am
end
section
namespace Go.Proofs.YtjfgfhaoeicpdaaGreatDoor.N
open Go Go.Am
def aI (_:FuncId) (_:List AV) (_:Mem):Option (AV×Mem):=none
abbrev sP (n:Int):PV:= .sc (.int .i64 n)
def recC (l:List Ins) (st:LoopState) (pd:Option Code):aU:= .ob (jV ab5 63 0 st pd) [aL l,.aj,.mp 2 0,.p (.sc (.bool false)),.mp 3 0,.mp 4 0,.mp 5 0,.aj,.aj,aL l,.fn (.func 110) [] [.mp 1 0],.aj,.aj,.aj,.aj,.aj,.aj,.aj,.aj,.aj,.aj,.aj,.aj,.aj,.aj,.aj,.aj,.aj,.aj,.aj,.aj,.aj,.aj,.aj,.aj,.aj,.aj]
def Kz (l:List Ins) (tags n most:Int) (cells:List AV):Mem:=[recC l .ready none,.pc [.ps l.length 8 (aq l)],.pc [sP 0],.pc [sP tags],.pc [sP n],.pc [sP most],.ob (.gr 192 true) cells]
def af3 (_l:List Ins) (_tags _n _most:Int) (_cells:List AV) (k:Nat) (x:List Ins) (d:Int):FuncId→Nat→Nat→Option (AV→AV):=cL [(110,3,3,sI .i64 k),(110,3,5,.agg [aL x,sI .i64 d]),(110,4,3,sI .i64 k)]
def af4 (_l:List Ins) (_tags n _most:Int) (_cells:List AV) (_k:Nat) (_xs:List Ins) (d:Int) (i:Nat) (op r a b nn:Int) (tg:List Int) (ll le:List Ins) (_ok:Bool):FuncId→Nat→Nat→Option (AV→AV):=cL [(110,7,1,dR op r a b nn tg ll le),(110,13,0,sI .i64 ((i+1:Nat):Int)),(110,10,5,sI .i64 (d+1)),(110,12,5,sI .i64 (d+1)),(63,8,1,sI .i64 (n+1))]
def af5 (_l:List Ins) (_tags _n _most:Int) (_cells:List AV) (_k:Nat) (_xs:List Ins) (_d:Int) (_i:Nat) (_op _r _a _b _nn:Int) (_tg:List Int) (_ll _le:List Ins) (ok:Bool) (f:FuncId) (_:List AV) (m:Mem):Option (AV×Mem):=cond (ae f 95) (some (sB ok,m)) none
def Xk (l:List Ins) (tags n most:Int) (cells:List AV) (k:Nat) (x:List Ins) (d:Int):bD:=fy aI av [(110,0),(110,2)] [(110,0,1)] [(110,3,4),(110,3,5),(110,4,4)] (af3 l tags n most cells k x d)
def abX:Sc:= .fin
def Ix (l:List Ins) (tags n most:Int) (cells:List AV) (k:Nat) (x:List Ins) (d:Int):aC:=
 (.test (decide ((↑(k+1):Int)>0))
 (.need (sI .i64 (rn.wrap ((↑(k+1):Int)-1))=sI rn (↑k:Int))
 (.must (bp (↑k:Int) (k+1)&&true&&true)
 (.must ((0+(aK k)*2+2).ble cells.length&&((bC (some (aca (TypeDesc.slice 103) "[]api.Instr" 1 24 true 8 8 (some (Value.slice none 0 0)) false #[]).desc) (cells.getD (0+(aK k)*2) .aj)).snd&&((bC (some (aca (TypeDesc.int rn) "int" 1 8 false 8 8 (some (.int .i64 0)) true #[]).desc) (cells.getD (0+(aK k)*2+1) .aj)).snd&&true))&&true)
 (.need (AV.agg [(bC (acx (aca (TypeDesc.slice 103) "[]api.Instr" 1 24 true 8 8 (acx (Value.slice acb 0 0)) false #[]).desc) (cells.getD (0+(aK k)*2) AV.aj)).fst,(bC (acx (aca (TypeDesc.int rn) "int" 1 8 false 8 8 (acx (Value.int rn 0)) true #[]).desc) (cells.getD (0+(aK k)*2+1) AV.aj)).fst]=AV.agg [aL x,sI rn d])
 (.need (sI .i64 (rn.wrap ((↑(k+1):Int)-1))=sI rn (↑k:Int))
 (.must ((aK k).ble (k+1)&&true&&true&&true)
 (.at (ak ab5 env 110 2 [.vy 0,.ms 6 0 (aK k-0) 2 none,.mp 7 0,.p (.ps x.length 8 (aq x)),sI .i64 (↑x.length:Int),sI .i64 0] ([.ob (jV ab5 63 0 adz none) [.p (.ps l.length 8 (aq l)),.aj,.mp 2 0,sB false,.mp 3 0,.mp 4 0,.mp 5 0,.aj,.aj,.p (.ps l.length 8 (aq l)),.fn (adL 110) [] [.mp 1 0],.aj,.aj,.aj,.aj,.aj,.aj,.aj,.aj,.aj,.aj,.aj,.aj,.aj,.aj,.aj,.aj,.aj,.aj,.aj,.aj,.aj,.aj,.aj,.aj,.aj,.aj],.pc [.ps l.length 8 (aq l)],.pc [sP 0],.pc [sP tags],.pc [sP n],.pc [sP most],.ob (aG.gr 192 true) (abG aa cells),.ac [.p (.ps x.length 8 (aq x)),sI .i64 d]]) 6 64))))))))
 (.out (.ret (.aA []) [.ob (jV ab5 63 0 adz none) [.p (.ps l.length 8 (aq l)),.aj,.mp 2 0,sB false,.mp 3 0,.mp 4 0,.mp 5 0,.aj,.aj,.p (.ps l.length 8 (aq l)),.fn (adL 110) [] [.mp 1 0],.aj,.aj,.aj,.aj,.aj,.aj,.aj,.aj,.aj,.aj,.aj,.aj,.aj,.aj,.aj,.aj,.aj,.aj,.aj,.aj,.aj,.aj,.aj,.aj,.aj,.aj],.pc [.ps l.length 8 (aq l)],.pc [sP 0],.pc [sP tags],.pc [sP n],.pc [sP most]])))
theorem NK (l:List Ins) (tags n most:Int) (cells:List AV) (k:Nat) (x:List Ins) (d:Int):grow ab5 env (Xk l tags n most cells k x d) 1000000 true (ak ab5 env 110 0 ([AV.vy 0,AV.ms 6 0 (k+1) 2 acb]) (Kz l tags n most cells) 6 64) abX atEnd=Ix l tags n most cells k x d:=by kernel_rfl
def Xl:bD:=aQ aI av [(110,0),(110,2)] [] []
def abY:Sc:= .fin
def S7 (l:List Ins) (tags n most:Int) (_cells:List AV):aC:=
 (.out (.ret (.aA []) [.ob (jV ab5 63 0 adz none) [.p (.ps l.length 8 (aq l)),.aj,.mp 2 0,sB false,.mp 3 0,.mp 4 0,.mp 5 0,.aj,.aj,.p (.ps l.length 8 (aq l)),.fn (adL 110) [] [.mp 1 0],.aj,.aj,.aj,.aj,.aj,.aj,.aj,.aj,.aj,.aj,.aj,.aj,.aj,.aj,.aj,.aj,.aj,.aj,.aj,.aj,.aj,.aj,.aj,.aj,.aj,.aj],.pc [.ps l.length 8 (aq l)],.pc [sP 0],.pc [sP tags],.pc [sP n],.pc [sP most]]))
theorem NL (l:List Ins) (tags n most:Int) (cells:List AV):grow ab5 env Xl 1000000 true (ak ab5 env 110 0 ([AV.vy 0,AV.ms 6 0 0 2 acb]) ([recC l adz acb,aU.pc [PV.ps l.length 8 (aq l)],aU.pc [sP 0],aU.pc [sP tags],aU.pc [sP n],aU.pc [sP most],aU.ob (aG.gr 192 true) cells]) 6 64) abY atEnd=S7 l tags n most cells:=by kernel_rfl
def Xm (l:List Ins) (tags n most:Int) (cells:List AV) (k:Nat) (xs:List Ins) (d:Int) (i:Nat) (op r a b nn:Int) (tg:List Int) (ll:List Ins) (le:List Ins) (ok:Bool):bD:=fy (af5 l tags n most cells k xs d i op r a b nn tg ll le ok) av [(110,0),(110,2)] [(110,0,3),(63,0,0),(110,0,5),(110,0,6)] [(110,7,0),(110,7,1),(110,10,8),(110,12,8)] (af4 l tags n most cells k xs d i op r a b nn tg ll le ok)
def abZ:Sc:= .fin
def mB (l:List Ins) (tags n most:Int) (cells:List AV) (k:Nat) (xs:List Ins) (d:Int) (i:Nat) (op r a b nn:Int) (tg:List Int) (ll:List Ins) (le:List Ins) (ok:Bool):aC:=
 (.test (decide ((↑i:Int)<(↑xs.length:Int)))
 (.must (bp (↑i:Int) xs.length&&true&&true)
 (.must (isInt rn (aB (aq xs) (aK i*8))&&(isInt rn (aB (aq xs) (aK i*8+1))&&(isInt abb (aB (aq xs) (aK i*8+1+1))&&(isInt abb (aB (aq xs) (aK i*8+1+1+1))&&(isInt IntKind.i32 (aB (aq xs) (aK i*8+1+1+1+1))&&(bB (aB (aq xs) (aK i*8+1+1+1+1+1))&&(bB (aB (aq xs) (aK i*8+1+1+1+1+1+1))&&(bB (aB (aq xs) (aK i*8+1+1+1+1+1+1+1))&&true)))))))&&true)
 (.need (AV.agg [sI .i64 (az (aB (aq xs) (aK i*8))),sI .i64 (az (aB (aq xs) (aK i*8+1))),sI .u32 (az (aB (aq xs) (aK i*8+1+1))),sI .u32 (az (aB (aq xs) (aK i*8+1+1+1))),sI .i32 (az (aB (aq xs) (aK i*8+1+1+1+1))),AV.p (PV.ps (aD (aB (aq xs) (aK i*8+1+1+1+1+1))) (bh (aB (aq xs) (aK i*8+1+1+1+1+1))) (au (aB (aq xs) (aK i*8+1+1+1+1+1)))),AV.p (PV.ps (aD (aB (aq xs) (aK i*8+1+1+1+1+1+1))) (bh (aB (aq xs) (aK i*8+1+1+1+1+1+1))) (au (aB (aq xs) (aK i*8+1+1+1+1+1+1)))),AV.p (PV.ps (aD (aB (aq xs) (aK i*8+1+1+1+1+1+1+1))) (bh (aB (aq xs) (aK i*8+1+1+1+1+1+1+1))) (au (aB (aq xs) (aK i*8+1+1+1+1+1+1+1))))]=dR op r a b nn tg ll le)
 (.call ⟨95,[.agg [sI .i64 op,sI .i64 r,sI .u32 a,sI .u32 b,sI .i32 nn,.p (.ps tg.length 1 (dw abb tg)),.p (.ps ll.length 8 (aq ll)),.p (.ps le.length 8 (aq le))]],[],.p (.sc (.bool ok)),[]⟩
 (.test (!ok)
 (.out (.ret (.aA []) [.ob (jV ab5 63 0 (fC (some Code.ret)) (some Code.ret)) [.p (.ps l.length 8 (aq l)),.aj,.mp 2 0,sB false,.mp 3 0,.mp 4 0,.mp 5 0,.aj,.aj,.p (.ps l.length 8 (aq l)),.fn (adL 110) [] [.mp 1 0],.aj,.aj,.aj,.aj,.aj,.aj,.aj,.aj,.aj,.aj,.aj,.aj,.aj,.aj,.aj,.aj,.aj,.aj,.aj,.aj,.aj,.aj,.aj,.aj,.aj,.aj],.pc [.ps l.length 8 (aq l)],.pc [sP 2],.pc [sP tags],.pc [sP n],.pc [sP most]]))
 (.need (sI .i64 (rn.wrap (n+1))=sI rn (n+1))
 (.test (decide ((↑ll.length:Int)>0))
 (.need (sI .i64 (rn.wrap (d+1))=sI rn (d+1))
 (.must (((k+1)*32).ble ef&&(k+1).ble ef&&((k*2).ble cells.length&&true)&&true)
 (.test (decide ((↑le.length:Int)>0))
 (.need (sI .i64 (rn.wrap (d+1))=sI rn (d+1))
 (.must (((k+1+1)*32).ble ef&&(k+1+1).ble ef&&(((k+1)*2).ble (abT (k*2) cells++[.p (.ps ll.length 8 (aq ll)),sI .i64 (d+1)]).length&&true)&&true)
 (.need (sI .i64 (rn.wrap ((↑i:Int)+1))=sI rn (↑(i+1):Int))
 (.at (ak ab5 env 110 2 [.vy 0,.ms 6 0 (k+1+1) 2 none,.mp 7 0,.p (.ps xs.length 8 (aq xs)),sI .i64 (↑xs.length:Int),sI .i64 (↑(i+1):Int)] ([.ob (jV ab5 63 0 (fC none) none) [.p (.ps l.length 8 (aq l)),.aj,.mp 2 0,sB false,.mp 3 0,.mp 4 0,.mp 5 0,.aj,.aj,.p (.ps l.length 8 (aq l)),.fn (adL 110) [] [.mp 1 0],.aj,.aj,.aj,.aj,.aj,.aj,.aj,.aj,.aj,.aj,.aj,.aj,.aj,.aj,.aj,.aj,.aj,.aj,.aj,.aj,.aj,.aj,.aj,.aj,.aj,.aj],.pc [.ps l.length 8 (aq l)],.pc [sP 0],.pc [sP (bif false then ad3 tags (↑tg.length:Int) else aeh tags (↑tg.length:Int))],.pc [sP (n+1)],.pc [sP (bif false then ad3 most d else aeh most d)],.ob (aG.gr 192 true) (abG aa (abT ((k+1)*2) (abT (k*2) cells++[.p (.ps ll.length 8 (aq ll)),sI .i64 (d+1)])++[.p (.ps le.length 8 (aq le)),sI .i64 (d+1)])),.ac [.p (.ps xs.length 8 (aq xs)),sI .i64 d]]) 6 64)))))
 (.need (sI .i64 (rn.wrap ((↑i:Int)+1))=sI rn (↑(i+1):Int))
 (.at (ak ab5 env 110 2 [.vy 0,.ms 6 0 (k+1) 2 none,.mp 7 0,.p (.ps xs.length 8 (aq xs)),sI .i64 (↑xs.length:Int),sI .i64 (↑(i+1):Int)] ([.ob (jV ab5 63 0 (fC none) none) [.p (.ps l.length 8 (aq l)),.aj,.mp 2 0,sB false,.mp 3 0,.mp 4 0,.mp 5 0,.aj,.aj,.p (.ps l.length 8 (aq l)),.fn (adL 110) [] [.mp 1 0],.aj,.aj,.aj,.aj,.aj,.aj,.aj,.aj,.aj,.aj,.aj,.aj,.aj,.aj,.aj,.aj,.aj,.aj,.aj,.aj,.aj,.aj,.aj,.aj,.aj,.aj],.pc [.ps l.length 8 (aq l)],.pc [sP 0],.pc [sP (bif false then ad3 tags (↑tg.length:Int) else aeh tags (↑tg.length:Int))],.pc [sP (n+1)],.pc [sP (bif false then ad3 most d else aeh most d)],.ob (aG.gr 192 true) (abG aa (abT (k*2) cells++[.p (.ps ll.length 8 (aq ll)),sI .i64 (d+1)])),.ac [.p (.ps xs.length 8 (aq xs)),sI .i64 d]]) 6 64))))))
 (.test (decide ((↑le.length:Int)>0))
 (.need (sI .i64 (rn.wrap (d+1))=sI rn (d+1))
 (.must (((k+1)*32).ble ef&&(k+1).ble ef&&((k*2).ble cells.length&&true)&&true)
 (.need (sI .i64 (rn.wrap ((↑i:Int)+1))=sI rn (↑(i+1):Int))
 (.at (ak ab5 env 110 2 [.vy 0,.ms 6 0 (k+1) 2 none,.mp 7 0,.p (.ps xs.length 8 (aq xs)),sI .i64 (↑xs.length:Int),sI .i64 (↑(i+1):Int)] ([.ob (jV ab5 63 0 (fC none) none) [.p (.ps l.length 8 (aq l)),.aj,.mp 2 0,sB false,.mp 3 0,.mp 4 0,.mp 5 0,.aj,.aj,.p (.ps l.length 8 (aq l)),.fn (adL 110) [] [.mp 1 0],.aj,.aj,.aj,.aj,.aj,.aj,.aj,.aj,.aj,.aj,.aj,.aj,.aj,.aj,.aj,.aj,.aj,.aj,.aj,.aj,.aj,.aj,.aj,.aj,.aj,.aj],.pc [.ps l.length 8 (aq l)],.pc [sP 0],.pc [sP (bif false then ad3 tags (↑tg.length:Int) else aeh tags (↑tg.length:Int))],.pc [sP (n+1)],.pc [sP (bif false then ad3 most d else aeh most d)],.ob (aG.gr 192 true) (abG aa (abT (k*2) cells++[.p (.ps le.length 8 (aq le)),sI .i64 (d+1)])),.ac [.p (.ps xs.length 8 (aq xs)),sI .i64 d]]) 6 64)))))
 (.need (sI .i64 (rn.wrap ((↑i:Int)+1))=sI rn (↑(i+1):Int))
 (.at (ak ab5 env 110 2 [.vy 0,.ms 6 0 k 2 none,.mp 7 0,.p (.ps xs.length 8 (aq xs)),sI .i64 (↑xs.length:Int),sI .i64 (↑(i+1):Int)] ([.ob (jV ab5 63 0 (fC none) none) [.p (.ps l.length 8 (aq l)),.aj,.mp 2 0,sB false,.mp 3 0,.mp 4 0,.mp 5 0,.aj,.aj,.p (.ps l.length 8 (aq l)),.fn (adL 110) [] [.mp 1 0],.aj,.aj,.aj,.aj,.aj,.aj,.aj,.aj,.aj,.aj,.aj,.aj,.aj,.aj,.aj,.aj,.aj,.aj,.aj,.aj,.aj,.aj,.aj,.aj,.aj,.aj],.pc [.ps l.length 8 (aq l)],.pc [sP 0],.pc [sP (bif false then ad3 tags (↑tg.length:Int) else aeh tags (↑tg.length:Int))],.pc [sP (n+1)],.pc [sP (bif false then ad3 most d else aeh most d)],.ob (aG.gr 192 true) (abG aa cells),.ac [.p (.ps xs.length 8 (aq xs)),sI .i64 d]]) 6 64)))))))))))
 (.at (ak ab5 env 110 0 [.vy 0,.ms 6 0 k 2 none] ([.ob (jV ab5 63 0 adz none) [.p (.ps l.length 8 (aq l)),.aj,.mp 2 0,sB false,.mp 3 0,.mp 4 0,.mp 5 0,.aj,.aj,.p (.ps l.length 8 (aq l)),.fn (adL 110) [] [.mp 1 0],.aj,.aj,.aj,.aj,.aj,.aj,.aj,.aj,.aj,.aj,.aj,.aj,.aj,.aj,.aj,.aj,.aj,.aj,.aj,.aj,.aj,.aj,.aj,.aj,.aj,.aj],.pc [.ps l.length 8 (aq l)],.pc [sP 0],.pc [sP tags],.pc [sP n],.pc [sP most],.ob (aG.gr 192 true) (abG aa cells)]) 6 64)))
theorem yg (l:List Ins) (tags n most:Int) (cells:List AV) (k:Nat) (xs:List Ins) (d:Int) (i:Nat) (op r a b nn:Int) (tg:List Int) (ll:List Ins) (le:List Ins) (ok:Bool):grow ab5 env (Xm l tags n most cells k xs d i op r a b nn tg ll le ok) 1000000 true (ak ab5 env 110 2 ([AV.vy 0,AV.ms 6 0 k 2 acb,AV.mp 7 0,aL xs,sI rn (↑xs.length:Int),sI rn (↑i:Int)]) (Kz l tags n most cells++[aU.ac [aL xs,sI rn d]]) 6 64) abZ atEnd=mB l tags n most cells k xs d i op r a b nn tg ll le ok:=by kernel_rfl
def af6 (l:List Ins) (tags n most:Int):Out:= .ret (.aA []) [recC l .ready none,.pc [.ps l.length 8 (aq l)],.pc [sP 0],.pc [sP tags],.pc [sP n],.pc [sP most]]
def ab0 (l:List Ins) (tags n most:Int):Out:= .ret (.aA []) [recC l .done (some .ret),.pc [.ps l.length 8 (aq l)],.pc [sP 2],.pc [sP tags],.pc [sP n],.pc [sP most]]
def qe:Nat:=1000000000000
def AX (p:Ins→Bool) (l:List Ins) (st:jd) (tags n most:Nat) (o:Out):Prop:=
 (NJ p st=true∧o=af6 l (max tags (yd st):Nat) (n+rF st:Nat) (max most (yc st):Nat))∨(NJ p st=false ∧ ∃t k m,o=ab0 l t k m)
section
variable (p:Ins→Bool) (hp : ∀x:Ins,an ab5 env 95 [S6 x] [] (sB (p x)) []) (l:List Ins)
include hp in
theorem KA (N:Nat) (ih : ∀(st:jd) (cells:List AV) (tags n most:Nat),wS st<N→gp st cells→n+rF st≤qe→wS st≤qe→(∀e∈st,e.2+cS e.1≤qe) →
   ∃o,bR ab5 env (ak ab5 env 110 0 [.vy 0,.ms 6 0 st.length 2 none] (Kz l tags n most cells) 6 64) o∧AX p l st tags n most o) (xs:List Ins) (hxs:xs.length≤qe) (d:Nat) :
  ∀(r i:Nat) (st:jd) (cells:List AV) (tags n most:Nat),i+r=xs.length→wS st+2*cS (xs.drop i)<N→gp st cells→n+rF st+cS (xs.drop i)≤qe→wS st+2*cS (xs.drop i)≤qe→(∀e∈st,e.2+cS e.1≤qe)→d+cS (xs.drop i)≤qe →
   ∃o,bR ab5 env (ak ab5 env 110 2 [.vy 0,.ms 6 0 st.length 2 none,.mp 7 0,aL xs,sI .i64 xs.length,sI .i64 i] (Kz l tags n most cells++[.ac [aL xs,sI .i64 d]]) 6 64) o∧AX p l (st++[(xs.drop i,d)]) tags n most o:=by
 intro r
 induction r with
 |zero=>
  intro i st cells tags n most hi hN ht hn hw he hd
  have h1:xs.drop i=[]:=List.drop_eq_nil_of_le (by omega)
  rw[h1] at hN hn hw ⊢
  simp only[cS] at hN hn hw
  obtain⟨o,ho,hq⟩:=ih st (cells.map aa) tags n most (by omega) ht.keep (by omega) (by omega) he
  refine⟨o,ah aM (yg l tags n most cells st.length xs d i 0 0 0 0 0 [] [] [] true) ?_,?_⟩
  · have h2 : ¬((i:Int)<xs.length):=by omega
    simp only[mB,bN,aC.ok]
    exact⟨fun h=>absurd (by simpa using h) h2,fun _=>ho⟩
  · unfold AX at hq ⊢
    rw[qd,kG,uJ,uI]
    simpa[zY,cS,mz,gm] using hq
 |succ r ihr=>
  intro i st cells tags n most hi hN ht hn hw he hd
  have Au:i<xs.length:=by omega
  have vo:xs[i]? = some xs[i]:=bm Au
  have hdr:xs.drop i=xs[i]::xs.drop (i+1):=List.drop_eq_getElem_cons Au
  rw[hdr] at hN hn hw hd ⊢
  generalize xs[i]=x at *
  generalize hys:xs.drop (i+1)=ys at *
  obtain⟨op,rs,a,b,nn,tg,ll,le⟩:=x
  obtain⟨c0,c1,c2,c3,c4,c5,c6,c7⟩:=nR vo
  have hpx:=hp (.mk op rs a b nn tg ll le)
  have Wt:qe=1000000000000:=rfl
  have Ee:ef=70368744177664:=rfl
  simp only[cS,mw] at hN hn hw hd
  have hsl:=tA st
  have MO:=ht.len
  have w1:rn.wrap ((i:Int)+1)=((i+1:Nat):Int):=by rw[aO (by omega) (by omega)];rfl
  have w2:rn.wrap ((d:Int)+1)=((d+1:Nat):Int):=by rw[aO (by omega) (by omega)];rfl
  have w3:rn.wrap ((n:Int)+1)=((n+1:Nat):Int):=by rw[aO (by omega) (by omega)];rfl
  have mC:(i:Int)<(xs.length:Int):=by omega
  cases hok:p (.mk op rs a b nn tg ll le) with
  |false=>
   refine⟨ab0 l tags n most,ah aM (yg l tags n most cells st.length xs d i op rs a b nn tg ll le false) ?_,.inr ⟨?_,_,_,_,rfl⟩⟩
   · simp only[mB,bN,aC.ok,aep,fg,ab2,c0,c1,c2,c3,c4,c5,c6,c7,isInt,bB,az,aD,bh,au,bp]
     refine⟨fun _=>⟨by simp[mC],by simp,rfl,?_,fun _=>rfl,fun h=>by cases h⟩,fun h=>absurd mC (by simpa using h)⟩
     rw[hok] at hpx;exact hpx
   · rw[qd,vQ,zY,S5,hok];simp
  |true=>
   have next : ∀(s:jd) (cs:List AV),gp (st++s) cs→wS s≤2*(cS ll+cS le)+2→rF s=cS ll+cS le→NJ p s=(zY p ll&&zY p le)→yd s=max (mz ll) (mz le)→yc s=max (gm (d+1) ll) (gm (d+1) le)→(∀e∈s,e.2+cS e.1≤qe) →
     ∃o,bR ab5 env (ak ab5 env 110 2 [.vy 0,.ms 6 0 (st++s).length 2 none,.mp 7 0,aL xs,sI .i64 xs.length,sI .i64 (i+1:Nat)] (Kz l (max tags tg.length:Nat) (n+1:Nat) (max most d:Nat) cs++[.ac [aL xs,sI .i64 d]]) 6 64) o∧AX p l (st++[(.mk op rs a b nn tg ll le::ys,d)]) tags n most o:=by
    intro s cs hts hws hns hos V6 hds hes
    obtain⟨o,ho,hq⟩:=ihr (i+1) (st++s) cs (max tags tg.length) (n+1) (max most d) (by omega) (by rw[tw,hys];omega) hts (by rw[kG,hys];omega) (by rw[tw,hys];omega)
     (fun e hm=>(List.mem_append.1 hm).elim (he e) (hes e)) (by rw[hys];omega)
    refine⟨o,ho,?_⟩
    rw[hys] at hq
    unfold AX at hq ⊢
    simp only[qd,kG,uJ,uI,vQ,yf,Ed,Ec,hos,hns,V6,hds] at hq ⊢
    simp only[zY,S5,cS,mw,mz,Gz,gm,zZ,hok,Bool.true_and]
    rcases hq with⟨q1,q2⟩ | ⟨q1,q2⟩
    · refine .inl ⟨by rw[Bool.and_assoc] at q1;exact q1,?_⟩
      rw[q2]
      congr 1<;>congr 1<;>omega
    · exact .inr ⟨by rw[Bool.and_assoc] at q1;exact q1,q2⟩
   have tree:=yg l tags n most cells st.length xs d i op rs a b nn tg ll le true
   have S8:an ab5 env 95 [dR op rs a b nn tg ll le] [] (sB true) []:=by rw[hok] at hpx;exact hpx
   have mx1:max (tags:Int) (tg.length:Int)=((max tags tg.length:Nat):Int):=by omega
   have mx2:max (most:Int) (d:Int)=((max most d:Nat):Int):=by omega
   have nl : ∀z:List Ins,z≠[]→0<(z.length:Int):=fun z hz=>by have:=List.length_pos_iff.2 hz;omega
   by_cases Sx:ll=[]
   · by_cases hle:le=[]
     · subst Sx;subst hle
       obtain⟨o,ho,hq⟩:=next [] (cells.map aa) (by rw[H4];exact ht.keep) (by simp[wS,cS]) (by simp[rF,cS]) (by simp[NJ,zY]) (by simp[yd,mz]) (by simp[yc,gm]) (fun _ h=>by cases h)
       refine⟨o,ah aM tree ?_,hq⟩
       simp only[mB,bN,aC.ok,aep,fg,ab2,c0,c1,c2,c3,c4,c5,c6,c7,isInt,bB,az,aD,bh,au,bp,w1,w2,w3,cond_false,mx1,mx2]
       rw[H4] at ho
       exact⟨fun _=>⟨by simp[mC],by simp,rfl,S8,fun h=>(by cases h),fun _=>⟨rfl,fun h=>(by simp at h),fun _=>⟨fun h=>(by simp at h),fun _=>⟨(by trivial),ho⟩⟩⟩⟩,fun h=>absurd mC (by simpa using h)⟩
     · subst Sx
       have nle:=nl le hle
       obtain⟨o,ho,hq⟩:=next [(le,d+1)] _ (ht.push le (d+1)).keep (by simp[cS]) (by simp[cS]) (by simp[zY]) (by simp[mz]) (by simp[gm]) (fun e h=>by simp only[abA] at h;subst h;simp only;omega)
       refine⟨o,ah aM tree ?_,hq⟩
       simp only[mB,bN,aC.ok,aep,fg,ab2,c0,c1,c2,c3,c4,c5,c6,c7,isInt,bB,az,aD,bh,au,bp,w1,w2,w3,cond_false,mx1,mx2]
       rw[de] at ho
       exact⟨fun _=>⟨by simp[mC],by simp,rfl,S8,fun h=>(by cases h),fun _=>⟨rfl,fun h=>(by simp at h),fun _=>⟨fun _=>⟨rfl,(by simp;omega),(by trivial),ho⟩,fun h=>absurd nle (by simpa using h)⟩⟩⟩,fun h=>absurd mC (by simpa using h)⟩
   · have nll:=nl ll Sx
     by_cases hle:le=[]
     · subst hle
       obtain⟨o,ho,hq⟩:=next [(ll,d+1)] _ (ht.push ll (d+1)).keep (by simp[cS]) (by simp[cS]) (by simp[zY]) (by simp[mz]) (by simp[gm]) (fun e h=>by simp only[abA] at h;subst h;simp only;omega)
       refine⟨o,ah aM tree ?_,hq⟩
       simp only[mB,bN,aC.ok,aep,fg,ab2,c0,c1,c2,c3,c4,c5,c6,c7,isInt,bB,az,aD,bh,au,bp,w1,w2,w3,cond_false,mx1,mx2]
       rw[de] at ho
       exact⟨fun _=>⟨by simp[mC],by simp,rfl,S8,fun h=>(by cases h),fun _=>⟨rfl,fun _=>⟨rfl,(by simp;omega),fun h=>(by simp at h),fun _=>⟨(by trivial),ho⟩⟩,fun h=>absurd nll (by simpa using h)⟩⟩,fun h=>absurd mC (by simpa using h)⟩
     · have nle:=nl le hle
       have MZ:=(ht.push ll (d+1)).push le (d+1)
       rw[vz] at MZ
       obtain⟨o,ho,hq⟩:=next [(ll,d+1),(le,d+1)] _ MZ.keep (by simp[wS];omega) (by simp[rF]) (by simp[NJ]) (by simp[yd]) (by simp[yc]) (fun e h=>by simp only[List.mem_cons,List.not_mem_nil,or_false] at h;rcases h with rfl | rfl<;>simp only<;>omega)
       refine⟨o,ah aM tree ?_,hq⟩
       simp only[mB,bN,aC.ok,aep,fg,ab2,c0,c1,c2,c3,c4,c5,c6,c7,isInt,bB,az,aD,bh,au,bp,w1,w2,w3,cond_false,mx1,mx2]
       simp only[de,ma,abn,ab2] at ho
       exact⟨fun _=>⟨by simp[mC],by simp,rfl,S8,fun h=>(by cases h),fun _=>⟨rfl,fun _=>⟨rfl,(by simp;omega),fun _=>⟨rfl,(by simp;omega),(by trivial),ho⟩,fun h=>absurd nle (by simpa using h)⟩,fun h=>absurd nll (by simpa using h)⟩⟩,fun h=>absurd mC (by simpa using h)⟩
include hp in
theorem AY : ∀(N:Nat) (st:jd) (cells:List AV) (tags n most:Nat),wS st<N→gp st cells→n+rF st≤qe→wS st≤qe→(∀e∈st,e.2+cS e.1≤qe) →
   ∃o,bR ab5 env (ak ab5 env 110 0 [.vy 0,.ms 6 0 st.length 2 none] (Kz l tags n most cells) 6 64) o∧AX p l st tags n most o
 |0,_,_,_,_,_,h,_,_,_,_=>by omega
 |N+1,st,cells,tags,n,most,hN,ht,hn,hw,he=>by
  rcases List.eq_nil_or_concat st with rfl | ⟨s,⟨x,d⟩,rfl⟩
  · exact⟨_,ah aM (NL l tags n most cells) rfl,.inl ⟨rfl,(by simp[yd,rF,yc];rfl)⟩⟩
  · rw[List.concat_eq_append] at *
    have hx:=he (x,d) (by simp)
    rw[tw,Xj] at hN hw
    rw[kG,yf] at hn
    obtain⟨t0,t1⟩:=ht.top
    have MO:=ht.len
    have hsl:=tA s
    have Wt:qe=1000000000000:=rfl
    have Si:=kF x
    simp only[de,ma,abn] at MO hx
    obtain⟨o,ho,hq⟩:=KA p hp l N (fun st cells tags n most=>AY N st cells tags n most) x (by omega) d x.length 0 s (cells.map aa) tags n most (by omega) (by rw[abj];omega) ht.pop.keep (by rw[abj];omega) (by rw[abj];omega)
     (fun e hm=>he e (List.mem_append_left _ hm)) (by rw[abj];omega)
    rw[abj] at hq
    refine⟨o,?_,hq⟩
    have w1:rn.wrap (((s.length+1:Nat):Int)-1)=(s.length:Int):=by rw[aO (by omega) (by omega)];omega
    rw[de,List.length_singleton]
    refine ah aM (NK l tags n most cells s.length x d) ?_
    simp only[Ix,bN,aC.ok,aep,pj,t0,t1,bC,gD,w1,isInt,bB,az,aD,bh,au,bp,Nat.sub_zero]
    exact⟨fun _=>⟨(by trivial),(by simp;omega),(by simp;omega),(by trivial),(by trivial),(by simp),ho⟩,fun h=>absurd h (by simp)⟩
end
section
variable (l:List Ins)
end
def af8 (l:List Ins) (tags n most:Int) (f:FuncId) (_:List AV) (_:Mem):Option (AV×Mem):=cond (ae f 110) (some (.aA [],[recC l .ready none,.pc [.ps l.length 8 (aq l)],.pc [sP 0],.pc [sP tags],.pc [sP n],.pc [sP most]])) none
def af9 (l:List Ins) (tags n most:Int) (f:FuncId) (_:List AV) (_:Mem):Option (AV×Mem):=cond (ae f 110) (some (.aA [],[recC l .done (some .ret),.pc [.ps l.length 8 (aq l)],.pc [sP 2],.pc [sP tags],.pc [sP n],.pc [sP most]])) none
def Xn:bD:=aQ aI av [(110,0)] [] []
def ab1:Sc:= .fin
def S9 (l:List Ins):aC:=
 (.at (ak ab5 env 110 0 [.vy 0,.ms 6 0 1 2 none] ([.ob (jV ab5 63 0 adz none) [.p (.ps l.length 8 (aq l)),.aj,.mp 2 0,sB false,.mp 3 0,.mp 4 0,.mp 5 0,.aj,.aj,.p (.ps l.length 8 (aq l)),.fn (adL 110) [] [.mp 1 0],.aj,.aj,.aj,.aj,.aj,.aj,.aj,.aj,.aj,.aj,.aj,.aj,.aj,.aj,.aj,.aj,.aj,.aj,.aj,.aj,.aj,.aj,.aj,.aj,.aj,.aj],.pc [.ps l.length 8 (aq l)],.pc [sP 0],.pc [sP 0],.pc [sP 0],.pc [sP 0],.ob (aG.gr 192 true) [.p (.ps l.length 8 (aq l)),sI .i64 1]]) 6 64))
theorem Ef (l:List Ins):aH ab5 env Xn 1000000 110 ([AV.vy 0,AV.mp 1 0]) ([recC l adz acb,aU.pc [PV.ps l.length 8 (aq l)],aU.pc [sP 0],aU.pc [sP 0],aU.pc [sP 0],aU.pc [sP 0]]) ab1=S9 l:=by kernel_rfl
def Ta (l:List Ins) (tags n most:Int):bD:=aQ (af8 l tags n most) av [] [(63,10,3),(63,10,7),(63,0,0)] []
def Xo:Sc:=(.fork (.lit (.lit .fin)) (.fork (.lit .fin) .fin))
def NM (l:List Ins) (tags n most:Int):aC:=
 (.call ⟨110,[.vy 0,.mp 1 0],[.ob (jV ab5 63 0 adz none) [.p (.ps l.length 8 (aq l)),.aj,.mp 2 0,sB false,.mp 3 0,.mp 4 0,.mp 5 0,.aj,.aj,.p (.ps l.length 8 (aq l)),.fn (adL 110) [] [.mp 1 0],.aj,.aj,.aj,.aj,.aj,.aj,.aj,.aj,.aj,.aj,.aj,.aj,.aj,.aj,.aj,.aj,.aj,.aj,.aj,.aj,.aj,.aj,.aj,.aj,.aj,.aj],.pc [.ps l.length 8 (aq l)],.pc [sP 0],.pc [sP 0],.pc [sP 0],.pc [sP 0]],.aA [],[.ob (jV ab5 63 0 adz none) [.p (.ps l.length 8 (aq l)),.aj,.mp 2 0,sB false,.mp 3 0,.mp 4 0,.mp 5 0,.aj,.aj,.p (.ps l.length 8 (aq l)),.fn (adL 110) [] [.mp 1 0],.aj,.aj,.aj,.aj,.aj,.aj,.aj,.aj,.aj,.aj,.aj,.aj,.aj,.aj,.aj,.aj,.aj,.aj,.aj,.aj,.aj,.aj,.aj,.aj,.aj,.aj],.pc [.ps l.length 8 (aq l)],.pc [sP 0],.pc [sP tags],.pc [sP n],.pc [sP most]]⟩
 (.test (decide (n>262144))
 (.out (.ret (sI .i64 141) []))
 (.test (decide (tags>16384))
 (.out (.ret (sI .i64 141) []))
 (.test (decide (most>900))
 (.out (.ret (sI .i64 141) []))
 (.out (.ret (sI .i64 0) []))))))
theorem KB (l:List Ins) (tags n most:Int):aH ab5 env (Ta l tags n most) 1000000 63 ([aL l]) ([]) Xo=NM l tags n most:=by kernel_rfl
def Tb (l:List Ins) (tags n most:Int):bD:=aQ (af9 l tags n most) av [] [] []
def Xp:Sc:= .fin
def NN (l:List Ins) (tags n most:Int):aC:=
 (.call ⟨110,[.vy 0,.mp 1 0],[.ob (jV ab5 63 0 adz none) [.p (.ps l.length 8 (aq l)),.aj,.mp 2 0,sB false,.mp 3 0,.mp 4 0,.mp 5 0,.aj,.aj,.p (.ps l.length 8 (aq l)),.fn (adL 110) [] [.mp 1 0],.aj,.aj,.aj,.aj,.aj,.aj,.aj,.aj,.aj,.aj,.aj,.aj,.aj,.aj,.aj,.aj,.aj,.aj,.aj,.aj,.aj,.aj,.aj,.aj,.aj,.aj],.pc [.ps l.length 8 (aq l)],.pc [sP 0],.pc [sP 0],.pc [sP 0],.pc [sP 0]],.aA [],[.ob (jV ab5 63 0 LoopState.done (some Code.ret)) [.p (.ps l.length 8 (aq l)),.aj,.mp 2 0,sB false,.mp 3 0,.mp 4 0,.mp 5 0,.aj,.aj,.p (.ps l.length 8 (aq l)),.fn (adL 110) [] [.mp 1 0],.aj,.aj,.aj,.aj,.aj,.aj,.aj,.aj,.aj,.aj,.aj,.aj,.aj,.aj,.aj,.aj,.aj,.aj,.aj,.aj,.aj,.aj,.aj,.aj,.aj,.aj],.pc [.ps l.length 8 (aq l)],.pc [sP 2],.pc [sP tags],.pc [sP n],.pc [sP most]]⟩
 (.out (.ret (sI .i64 2) [])))
theorem KC (l:List Ins) (tags n most:Int):aH ab5 env (Tb l tags n most) 1000000 63 ([aL l]) ([]) Xp=NN l tags n most:=by kernel_rfl
theorem Tc (l:List Ins):gp [(l,1)] [.p (.ps l.length 8 (aq l)),.p (.sc (.int .i64 1))]:=rfl
def iA (p:Ins→Bool) (l:List Ins):Int:=if zY p l=false then 2 else if 262144<cS l∨16384<mz l∨900<gm 1 l then 141 else 0
theorem yh {p:Ins→Bool} (hp : ∀x:Ins,an ab5 env 95 [S6 x] [] (sB (p x)) []) (l:List Ins) (h:cS l≤100000000000):an ab5 env 63 [aL l] [] (sI .i64 (iA p l)) []:=by
 have Wt:qe=1000000000000:=rfl
 obtain⟨o,ho,hq⟩:=AY p hp l (2*cS l+2) [(l,1)] _ 0 0 0 (by simp) (Tc l) (by simp;omega) (by simp;omega) (fun e he=>by simp only[abA] at he;subst he;simp only;omega)
 rcases hq with⟨q1,rfl⟩ | ⟨q1,t,k,m,rfl⟩
 · have hd:an ab5 env 110 [.vy 0,.mp 1 0] _ (.aA []) _:=af aM (Ef l) ho
   refine af aM (KB l _ _ _) ⟨hd,?_⟩
   rw[vQ] at q1
   simp only[Ed,yf,Ec,pj,Nat.zero_max]
   have z : ∀a b:Nat,decide ((a:Int)>(b:Int))=decide (b<a):=fun a b=>by congr 1;exact propext (by omega)
   unfold iA
   rw[if_neg (by rw[q1];simp)]
   refine⟨fun h1=> ?_,fun h1=>⟨fun h2=> ?_,fun h2=>⟨fun h3=> ?_,fun h3=> ?_⟩⟩⟩<;>simp only[decide_eq_true_eq,decide_eq_false_iff_not] at *
   · rw[if_pos (by omega)];rfl
   · rw[if_pos (by omega)];rfl
   · rw[if_pos (by omega)];rfl
   · rw[if_neg (by omega)];rfl
 · have hd:an ab5 env 110 [.vy 0,.mp 1 0] _ (.aA []) _:=af aM (Ef l) ho
   refine af aM (KC l t k m) ⟨hd,?_⟩
   rw[vQ] at q1
   unfold iA
   rw[if_pos q1];rfl
end Go.Proofs.YtjfgfhaoeicpdaaGreatDoor.N
end
section
namespace Go.Am
open Go.RowKit
section
variable {H:Type} {enc:TypeId×Value→H} {P:Program} {w:World} {base:Nat} {spare:Nat→Bool} {held:Bool} {tL tI ti tu tn tt:TypeId} {fs:Array Field}
theorem yj {g:Gh} {w:World} : ∀{l:List PV} {cs:List Value},HZ g w l cs→cA g w (l.map .p) cs
 |[],[],_=>trivial
 |_::_,_::_,h=>⟨.p _ _ h.1,yj h.2⟩
 |[],_::_,h=>h.elim
 |_::_,[],h=>h.elim
end
section
variable {H:Type} {enc:TypeId×Value→H} {P:Program} {w:World} {base:Nat} {spare:Nat→Bool} {held:Bool}
theorem Xq {g:Gh} {w:World} {l:List PV} {cs:Array Value} (h:HZ g w l cs.toList):VA g w (.agg (l.map .p)) (.agg cs):=by
 rw[VA.zA]
 exact yj h
end
end Go.Am
end
section
namespace Go.Am
theorem Iy {Q:List Ins→Prop} (h : ∀l,(∀x∈l,Q x.l∧Q x.e)→Q l) : ∀l,Q l:=by
 have key : ∀(N:Nat) (l:List Ins),cS l≤N→Q l:=by
  intro N
  induction N with
  |zero=>
   intro l hl
   cases l with
   |nil=>exact h [] (fun _ hx=>by cases hx)
   |cons x r=>cases x;simp only[cS,mw] at hl;omega
  |succ N ih=>
   intro l hl
   refine h l fun x hx=> ?_
   have hn:mw x≤cS l:=by
    clear hl
    induction l with
    |nil=>cases hx
    |cons y r ih2=>
     simp only[cS]
     cases hx with
     |head=>omega
     |tail _ hx=>have:=ih2 hx;omega
   obtain⟨op,rs,a,b,nn,tg,ll,le⟩:=x
   simp only[mw] at hn
   exact⟨ih ll (by omega),ih le (by omega)⟩
 exact fun l=>key _ l (Nat.le_refl _)
open Classical in
def ot {α:Type} (d:α) (F:List Ins→α) (cs:List PV):α:=if h : ∃l,cs=aq l then F h.choose else d
end Go.Am
end
