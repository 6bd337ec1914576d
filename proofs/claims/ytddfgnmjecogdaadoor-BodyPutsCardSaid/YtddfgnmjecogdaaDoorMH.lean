/-
Lists of instructions: what a row's data says of them, as pure values. (For any program with such a type.)
Lists of numbers and of instructions in cells: what stands at a place; how many parts there are.
The door: the environment (the library's tables), the names.
Lists of instructions: how many there are, how deep they stand, what holds of all of them; the same of stacks of such lists.
instr.Check: the going through of instructions, by its trees (printed by a program of mine): the outer loop, its end, the inner loop.
instr.Deep: the going through of instructions, by its trees (printed by a program of mine): the outer loop, its end, the inner loop.
instr.Check, instr.Count, instr.Deep: what they tell, of any instructions.
Nm: its call, run, in pieces.
-/
import Derived.Test.YtddfgnmjecogdaaDoorMG
import Derived.Test.YtddfgnmjecogdaaDoorChecked
import Derived.Test.YtddfgnmjecogdaaDoorMF
import GoSem.PinnedTables
section
namespace Go.Am
open Go.RowKit
inductive Ins where
 |mk (op results a b n:Int) (tags:List Int) (l e:List Ins)
namespace Ins
def op:Ins→Int | .mk op _ _ _ _ _ _ _=>op
def results:Ins→Int | .mk _ r _ _ _ _ _ _=>r
def a:Ins→Int | .mk _ _ a _ _ _ _ _=>a
def b:Ins→Int | .mk _ _ _ b _ _ _ _=>b
def n:Ins→Int | .mk _ _ _ _ n _ _ _=>n
def tags:Ins→List Int | .mk _ _ _ _ _ t _ _=>t
def l:Ins→List Ins | .mk _ _ _ _ _ _ l _=>l
def e:Ins→List Ins | .mk _ _ _ _ _ _ _ e=>e
end Ins
def bL (k:IntKind) (l:List Int):List PV:=l.map fun t=> .sc (.int k t)
mutual
def nk:Ins→List PV
 |.mk op r a b n tags l e=>[.sc (.int .i64 op),.sc (.int .i64 r),.sc (.int .u32 a),.sc (.int .u32 b),.sc (.int .i32 n),.ps tags.length 1 (bL .u32 tags),.ps l.length 8 (aa l),.ps e.length 8 (aa e)]
def aa:List Ins→List PV
 |[]=>[]
 |x::r=>nk x++aa r
end
mutual
def Dj:Ins→Prop
 |.mk op r a b n tags l e=>(Lit.int .i64 op).wf=true∧(Lit.int .i64 r).wf=true∧(Lit.int .u32 a).wf=true∧(Lit.int .u32 b).wf=true∧(Lit.int .i32 n).wf=true∧(tags.length≤maxLen ∧ ∀t∈tags,(Lit.int .u32 t).wf=true)∧(l.length≤maxLen∧so l)∧e.length≤maxLen∧so e
def so:List Ins→Prop
 |[]=>True
 |x::r=>Dj x∧so r
end
theorem tD : ∀l:List Ins,aa l=l.flatMap nk
 |[]=>rfl
 |x::r=>by rw[aa,tD r];rfl
theorem zw : ∀{l:List Ins},(∀x∈l,Dj x)→so l
 |[],_=>trivial
 |x::_,h=>⟨h x (.head _),zw fun y hy=>h y (.tail _ hy)⟩
theorem fE : ∀x:Ins,(nk x).length=8
 |.mk .. =>rfl
structure Hx (P:Program) (tL tI ti tu tn tt:TypeId) (fs:Array Field):Prop where
 hL:P.underlying tL=some (.slice tI)
 hI:P.underlying tI=some (.struct fs)
 hz:P.cellsOf tI=8
 hf:fs.toList.map (fun f=>(f.offset,f.type))=[(0,ti),(1,ti),(2,tu),(3,tu),(4,tn),(5,tt),(6,tL),(7,tL)]
 h1:P.cellsOf ti=1∧P.cellsOf tu=1∧P.cellsOf tn=1∧P.cellsOf tt=1∧P.cellsOf tL=1
 ki:P.underlying ti=some (.int .i64)
 ku:P.underlying tu=some (.int .u32)
 kn:P.underlying tn=some (.int .i32)
 kt:P.underlying tt=some (.slice tu)
section
variable {H:Type} {enc:TypeId×Value→H} {P:Program} {w:World} {base:Nat} {spare:Nat→Bool} {held:Bool} {tL tI ti tu tn tt:TypeId} {fs:Array Field}
theorem LD {i:Nat} {o t:Nat} (hf:(fs.toList.map fun f=>(f.offset,f.type))[i]? = some (o,t)) : ∃f,fs[i]? = some f∧f.offset=o∧f.type=t:=by
 rw[List.getElem?_map] at hf
 cases h:fs.toList[i]? with
 |none=>rw[h] at hf;cases hf
 |some f=>
  rw[h] at hf
  simp only[Option.map_some,Option.some.injEq,Prod.mk.injEq] at hf
  exact⟨f,by simpa using h,hf.1,hf.2⟩
theorem cH.cat {w:World} {x:PV} {l:List PV} {v:Value} {cs:List Value} (h:cH w [x] [v]) (k:cH w l cs):cH w (x::l) (v::cs):=h.append k
theorem vA (T:Hx P tL tI ti tu tn tt fs) : ∀(fuel:Nat) (cs:List Value) (x:DataW H×List MemPlace),DataW.trod enc P w base spare held fuel tL cs=some x →
  ∃l:List Ins,(l.length≤maxLen∧so l)∧cH w [.ps l.length 8 (aa l)] cs:=by
 intro fuel
 induction fuel using Nat.strongRecOn with
 |ind fuel ih=>
  intro cs x h
  obtain⟨xs,h0,h1,h2⟩:=jK (Cd:=nk) (wf:=Dj) T.hL (by rw[T.hz];omega) h fun n hn us y hy=>by
   obtain⟨m,rfl,hlen,hg⟩:=iR T.hI hy
   rw[T.hz] at hlen
   have get : ∀(i:Nat) (o t:Nat),[(0,ti),(1,ti),(2,tu),(3,tu),(4,tn),(5,tt),(6,tL),(7,tL)][i]? = some (o,t)→P.cellsOf t=1 → ∃y,DataW.trod enc P w base spare held m t ((us.drop o).take 1)=some y:=by
    intro i o t hi hc
    obtain⟨f,q1,q2,q3⟩:=LD (fs:=fs) (i:=i) (by rw[T.hf];exact hi)
    obtain⟨y,hy⟩:=hg i f q1
    rw[q2,q3,hc] at hy
    exact⟨y,hy⟩
   obtain⟨c1,c2,c3,c4,c5⟩:=T.h1
   obtain⟨y0,e0⟩:=get 0 0 ti rfl c1
   obtain⟨y1,e1⟩:=get 1 1 ti rfl c1
   obtain⟨y2,e2⟩:=get 2 2 tu rfl c2
   obtain⟨y3,e3⟩:=get 3 3 tu rfl c2
   obtain⟨y4,e4⟩:=get 4 4 tn rfl c3
   obtain⟨y5,e5⟩:=get 5 5 tt rfl c4
   obtain⟨y6,e6⟩:=get 6 6 tL rfl c5
   obtain⟨y7,e7⟩:=get 7 7 tL rfl c5
   match us,hlen with
   |[u0,u1,u2,u3,u4,u5,u6,u7],_=>
    simp only[List.drop_zero,List.drop_succ_cons,List.take_succ_cons,List.take_zero] at e0 e1 e2 e3 e4 e5 e6 e7
    obtain⟨n0,w0,k0⟩:=cN T.ki e0
    obtain⟨n1,w1,k1⟩:=cN T.ki e1
    obtain⟨n2,w2,k2⟩:=cN T.ku e2
    obtain⟨n3,w3,k3⟩:=cN T.ku e3
    obtain⟨n4,w4,k4⟩:=cN T.kn e4
    obtain⟨n5,w5,Mz,k5⟩:=sn T.kt T.ku c2 e5
    obtain⟨n6,w6,k6⟩:=ih m (by omega) _ _ e6
    obtain⟨n7,w7,k7⟩:=ih m (by omega) _ _ e7
    exact⟨.mk n0 n1 n2 n3 n4 n5 n6 n7,⟨w0,w1,w2,w3,w4,⟨w5,Mz⟩,w6,w7⟩,k0.cat (k1.cat (k2.cat (k3.cat (k4.cat (k5.cat (k6.cat k7))))))⟩
  refine⟨xs,⟨h0,zw h1⟩,?_⟩
  rw[T.hz,←tD] at h2
  exact h2
end
end Go.Am
end
section
namespace Go.Am
theorem nq (k:IntKind) (l:List Int) (n:Nat) (h:n<l.length):(bL k l).getD n .bad = .sc (.int k (l.getD n 0)):=by
 simp[bL,List.getD_eq_getElem?_getD,List.getElem?_eq_getElem h]
theorem wP (k:IntKind) (l:List Int) (n:Nat) (h:l.length≤n):(bL k l).getD n .bad = .bad:=by
 simp[bL,List.getD_eq_getElem?_getD,List.getElem?_eq_none h]
@[simp] theorem F2 (k:IntKind) (l:List Int) (n:Nat):aA ((bL k l).getD n .bad)=l.getD n 0:=by
  rcases Nat.lt_or_ge n l.length with h | h
  · rw[nq k l n h];rfl
  · rw[wP k l n h]
    simp[List.getD_eq_getElem?_getD,List.getElem?_eq_none h]
    rfl
@[simp] theorem F3 (k:IntKind) (l:List Int) (n:Nat):isInt k ((bL k l).getD n .bad)=decide (n<l.length):=by
  rcases Nat.lt_or_ge n l.length with h | h
  · rw[nq k l n h];simp[isInt,h]
  · rw[wP k l n h];simp[isInt];omega
theorem wQ {k:IntKind} : ∀{l m:List Int},bL k l=bL k m→l=m
 |[],[],_=>rfl
 |[],_::_,h=>by simp[bL] at h
 |_::_,[],h=>by simp[bL] at h
 |a::l,b::m,h=>by
  simp only[bL,List.map_cons,List.cons.injEq,PV.sc.injEq,Value.int.injEq,true_and] at h
  rw[h.1,wQ (l:=l) (m:=m) h.2]
mutual
theorem Ce : ∀{x y:Ins},nk x=nk y→x=y
 |.mk op r a b n tags l e,.mk op' r' a' b' n' tags' l' e',h=>by
  simp only[nk,List.cons.injEq,PV.sc.injEq,Value.int.injEq,PV.ps.injEq,true_and,and_true] at h
  obtain⟨rfl,rfl,rfl,rfl,rfl,⟨_,h5⟩,⟨_,h6⟩,_,h7⟩:=h
  rw[wQ h5,ia h6,ia h7]
theorem ia : ∀{l m:List Ins},aa l=aa m→l=m
 |[],[],_=>rfl
 |[],.mk .. :: _,h=>by simp[aa,nk] at h
 |.mk .. :: _,[],h=>by simp[aa,nk] at h
 |x::l,y::m,h=>by
  simp only[aa] at h
  obtain⟨h1,h2⟩:=List.append_inj h (by rw[fE,fE])
  rw[Ce h1,ia h2]
end
theorem nr : ∀{l:List Ins} {k:Nat} {x:Ins},l[k]? = some x → ∀c,c<8→(aa l).getD (k*8+c) .bad=(nk x).getD c .bad
 |[],_,_,h,_,_=>by simp at h
 |y::l,0,x,h,c,hc=>by
  simp only[List.getElem?_cons_zero,Option.some.injEq] at h;subst h
  rw[aa,Nat.zero_mul,Nat.zero_add,List.getD_eq_getElem?_getD,List.getD_eq_getElem?_getD,List.getElem?_append_left (by rw[fE];exact hc)]
 |y::l,k+1,x,h,c,hc=>by
  have ih:=nr (l:=l) (k:=k) (x:=x) (by simpa using h) c hc
  rw[List.getD_eq_getElem?_getD] at ih
  rw[aa,List.getD_eq_getElem?_getD,List.getElem?_append_right (by rw[fE];omega),fE,show(k+1)*8+c-8=k*8+c by omega]
  exact ih
theorem oc : ∀l m:List Ins,aa (l++m)=aa l++aa m
 |[],_=>rfl
 |x::l,m=>by rw[List.cons_append,aa,aa,oc l m,List.append_assoc]
theorem Cf (x:Ins):aa [x]=nk x:=by simp[aa]
theorem gL : ∀{l:List Ins} {x:Ins},so l→x∈l→Dj x
 |_::_,_,h,.head _=>h.1
 |_::_,_,h,.tail _ hx=>gL h.2 hx
mutual
def fF:Ins→Nat
 |.mk _ _ _ _ _ tags l e=>1+tags.length+bZ l+bZ e
def bZ:List Ins→Nat
 |[]=>0
 |x::r=>fF x+bZ r
end
theorem fG : ∀l:List Ins,l.length≤bZ l
 |[]=>Nat.zero_le _
 |.mk _ _ _ _ _ t l e::r=>by have:=fG r;simp only[bZ,fF,List.length_cons];omega
theorem dx : ∀{l:List Ins} {x:Ins},x∈l→fF x≤bZ l
 |y::l,x,h=>by
  simp only[bZ]
  cases h with
  |head=>omega
  |tail _ h=>have:=dx h;omega
mutual
def dL:List Ins→Int→Int→Int
 |[],_,n=>n
 |x::r,most,n=>if n≤most then dL r most (qH x most n) else n
def qH:Ins→Int→Int→Int
 |.mk _ _ _ _ _ tags l e,most,n=>
  let n1:=n+1+min (tags.length:Int) most
  let n2:=if n1≤most then n1+dL l (most-n1) 0 else n1
  if n2≤most then n2+dL e (most-n2) 0 else n2
end
mutual
theorem qI : ∀(x:Ins) (most n:Int),0≤n→n≤most→n≤qH x most n∧qH x most n≤2*most+1
 |.mk _ _ _ _ _ tags l e,most,n,h0,h=>by
  simp only[qH]
  generalize hn1:n+1+min (tags.length:Int) most=n1
  have h1:n+1≤n1∧n1≤2*most+1:=by omega
  generalize hn2:(if n1≤most then n1+dL l (most-n1) 0 else n1)=n2
  have h2:n1≤n2∧n2≤2*most+1:=by
   rw[←hn2]
   split
   · have:=dy l (most-n1) 0 (by omega) (by omega) (by omega);omega
   · omega
  split
  · have:=dy e (most-n2) 0 (by omega) (by omega) (by omega);omega
  · omega
theorem dy : ∀(l:List Ins) (most n:Int),0≤most→0≤n→n≤2*most+1→n≤dL l most n∧dL l most n≤2*most+1
 |[],most,n,_,_,h=>by simp only[dL];omega
 |x::r,most,n,hm,h0,h=>by
  simp only[dL]
  split
  · have h1:=qI x most n h0 (by omega)
    have h2:=dy r most (qH x most n) hm (by omega) (by omega)
    omega
  · omega
end
mutual
theorem Cg : ∀(x:Ins) (most n:Int),0≤n→n≤most→qH x most n≤most→qH x most n=n+fF x
 |.mk _ _ _ _ _ tags l e,most,n,h0,h=>by
  simp only[qH,fF]
  generalize hn1:n+1+min (tags.length:Int) most=n1
  generalize hn2:(if n1≤most then n1+dL l (most-n1) 0 else n1)=n2
  intro h3
  have hle:n2≤most:=by
   split at h3
   · rename_i q;exact q
   · exact h3
  rw[if_pos hle] at h3 ⊢
  have Ht:=dy e (most-n2) 0 (by omega) (by omega) (by omega)
  have Kz:n1≤most:=by
   rw[←hn2] at hle
   split at hle
   · rename_i q;exact q
   · exact hle
  rw[if_pos Kz] at hn2
  have Fx:=dy l (most-n1) 0 (by omega) (by omega) (by omega)
  have e1:=mH l (most-n1) 0 (by omega) (by omega) (by omega)
  have e2:=mH e (most-n2) 0 (by omega) (by omega) (by omega)
  have:min (tags.length:Int) most=tags.length:=by omega
  push_cast
  omega
theorem mH : ∀(l:List Ins) (most n:Int),0≤most→0≤n→dL l most n≤most→dL l most n=n+bZ l
 |[],most,n,_,_,h=>by simp[dL,bZ]
 |x::r,most,n,hm,h0,h=>by
  simp only[dL,bZ] at h ⊢
  split at h
  · rename_i hn
    rw[if_pos hn]
    have hr:=qI x most n h0 hn
    have Ht:=dy r most (qH x most n) hm (by omega) (by omega)
    have e1:=Cg x most n h0 hn (by omega)
    have e2:=mH r most (qH x most n) hm (by omega) h
    push_cast
    omega
  · omega
end
end Go.Am
end
section
namespace Go.Proofs.YtddfgnmjecogdaaDoor.N
open Go Go.Am
def Ch:List Int:=[0,0,0,0,0,0,0,0,0,1,1,1,1,1,0,0,0,0,0,0,0,0,0,0,0,0,0,0,0,0,0,0,1]++List.replicate 223 0
def tabs:List (Nat×List Value):=[(0,Ch.map (.int .u8))]
def keeps:List (Nat×Nat×List Nat):=[(3,8,[0,5,8]),(3,4,[0,1,5,7]),(3,0,[0,1,5,6]),(11,2,[0,1,5]),(13,0,[0,1,5,6]),(15,0,[0,3,4]),(20,0,[0,3,4]),(21,0,[4,6,7,8,9,10]),(22,2,[4,6,7,8,9,10]),(23,4,[0,2,3]),(23,0,[0,2]),(27,0,[0,3,4]),(28,0,[0,1,2,8]),(30,2,[0,1,5]),(32,34,[2,5,7,14,15,16,101,102,103]),(32,0,[2,5,14,15,16]),(34,0,[0,3,4]),(36,0,[0,3]),(39,0,[0,5,10,11,12]),(45,30,[0,1,5,6]),(48,10,[0,6,7,11,12]),(54,0,[0,3]),(55,0,[0,3,4]),(56,0,[0,3,4]),(57,0,[0,3]),(58,10,[1,3,6]),(59,0,[0,1,5]),(63,4,[0,1,24,25,26]),(63,0,[0,1,10,11,12]),(72,4,[0,3,4,25,26,27]),(72,0,[0,3]),(74,0,[0,1,5]),(77,0,[3,4]),(78,2,[0,1,2,6,9,21]),(80,2,[0,6,7,8]),(81,0,[0,3,4]),(82,16,[0,9,10,12]),(82,10,[0,9,10,11,12]),(82,6,[0,9,10,12]),(82,0,[0,3,4,5,6]),(85,6,[6,7,8,9,11,12,13]),(86,12,[0,9,47,48,49]),(86,0,[0,1,5,6,14]),(89,10,[0,1,7,8]),(89,2,[0,1,19,20]),(90,10,[0,1,7,8]),(90,2,[0,1,15,16])]
def MA (f d:Nat):Bool:=(Nat.beq f 72&&Nat.beq d 9)
def env:Env where
 ct:=qE tabs
 wr:=MA
 keep:=Ca keeps
theorem names:ec Tryd.prog:=yw (by kernel_rfl)
end Go.Proofs.YtddfgnmjecogdaaDoor.N
end
section
namespace Go.Am
mutual
def Iy (p:Ins→Bool):Ins→Bool
 |.mk op r a b n tags l e=>p (.mk op r a b n tags l e)&&(mM p l&&mM p e)
def mM (p:Ins→Bool):List Ins→Bool
 |[]=>true
 |x::r=>Iy p x&&mM p r
end
mutual
def kB:Ins→Nat
 |.mk _ _ _ _ _ _ l e=>1+bf l+bf e
def bf:List Ins→Nat
 |[]=>0
 |x::r=>kB x+bf r
end
mutual
def vc:Nat→Ins→Nat
 |d,.mk _ _ _ _ _ _ l e=>max d (max (bR (d+1) l) (bR (d+1) e))
def bR:Nat→List Ins→Nat
 |_,[]=>0
 |d,x::r=>max (vc d x) (bR d r)
end
mutual
def Ci:Ins→Nat
 |.mk _ _ _ _ _ tags l e=>max tags.length (max (eW l) (eW e))
def eW:List Ins→Nat
 |[]=>0
 |x::r=>max (Ci x) (eW r)
end
theorem dz : ∀l:List Ins,l.length≤bf l
 |[]=>Nat.zero_le _
 |.mk _ _ _ _ _ t l e::r=>by have:=dz r;simp only[bf,kB,List.length_cons];omega
mutual
theorem Cj : ∀x:Ins,kB x≤fF x
 |.mk _ _ _ _ _ t l e=>by have:=jN l;have:=jN e;simp only[kB,fF];omega
theorem jN : ∀l:List Ins,bf l≤bZ l
 |[]=>Nat.zero_le _
 |x::r=>by have:=Cj x;have:=jN r;simp only[bf,bZ];omega
end
mutual
theorem Ck : ∀x:Ins,Ci x≤fF x
 |.mk _ _ _ _ _ t l e=>by have:=qJ l;have:=qJ e;simp only[Ci,fF];omega
theorem qJ : ∀l:List Ins,eW l≤bZ l
 |[]=>Nat.zero_le _
 |x::r=>by have:=Ck x;have:=qJ r;simp only[eW,bZ];omega
end
mutual
theorem Cl : ∀(d:Nat) (x:Ins),vc d x≤d+kB x
 |d,.mk _ _ _ _ _ t l e=>by have:=jO (d+1) l;have:=jO (d+1) e;simp only[vc,kB];omega
theorem jO : ∀(d:Nat) (l:List Ins),bR d l≤d+bf l
 |_,[]=>Nat.zero_le _
 |d,x::r=>by have:=Cl d x;have:=jO d r;simp only[bR,bf];omega
end
mutual
theorem yA : ∀(d:Nat) (x:Ins),vc (d+1) x=vc d x+1
 |d,.mk _ _ _ _ _ t l e=>by
  have h1:=iJ (d+1) l
  have h2:=iJ (d+1) e
  simp only[vc]
  cases l with
  |nil=>cases e with
   |nil=>simp[bR]
   |cons y e=>rw[h2 (by simp)];simp only[bR];omega
  |cons x l=>cases e with
   |nil=>rw[h1 (by simp)];simp only[bR];omega
   |cons y e=>rw[h1 (by simp),h2 (by simp)];omega
theorem iJ : ∀(d:Nat) (l:List Ins),l≠[]→bR (d+1) l=bR d l+1
 |_,[],h=>absurd rfl h
 |d,x::r,_=>by
  have h1:=yA d x
  cases r with
  |nil=>simp only[bR,h1];omega
  |cons y r=>rw[bR,iJ d (y::r) (by simp),h1,bR.eq_2 d x];omega
end
abbrev aL (l:List Ins):AV:= .p (.ps l.length 8 (aa l))
def iV (op r a b nn:Int) (tg:List Int) (ll le:List Ins):AV:= .agg [sI .i64 op,sI .i64 r,sI .u32 a,sI .u32 b,sI .i32 nn,.p (.ps tg.length 1 (bL .u32 tg)),aL ll,aL le]
def AA:Ins→AV
 |.mk op r a b nn tg ll le=>iV op r a b nn tg ll le
theorem Cm {l m:List Ins} (h:aL l=aL m):l=m:=by
 simp only[AV.p.injEq,PV.ps.injEq] at h
 exact ia h.2.2
theorem dS {l:List Ins} {k:Nat} {op rs a b nn:Int} {tags:List Int} {ll le:List Ins} (h:l[k]? = some (.mk op rs a b nn tags ll le)) :
  (aa l).getD (k*8) .bad = .sc (.int .i64 op)∧(aa l).getD (k*8+1) .bad = .sc (.int .i64 rs)∧(aa l).getD (k*8+2) .bad = .sc (.int .u32 a)∧(aa l).getD (k*8+3) .bad = .sc (.int .u32 b) ∧
    (aa l).getD (k*8+4) .bad = .sc (.int .i32 nn)∧(aa l).getD (k*8+5) .bad = .ps tags.length 1 (bL .u32 tags)∧(aa l).getD (k*8+6) .bad = .ps ll.length 8 (aa ll)∧(aa l).getD (k*8+7) .bad = .ps le.length 8 (aa le):=
 have hc:=nr h
 ⟨hc 0 (by omega),hc 1 (by omega),hc 2 (by omega),hc 3 (by omega),hc 4 (by omega),hc 5 (by omega),hc 6 (by omega),hc 7 (by omega)⟩
abbrev fK:=List (List Ins×Nat)
def ox (st:fK):List PV:=st.flatMap fun e=>[.ps e.1.length 8 (aa e.1),.sc (.int .i64 e.2)]
def Cn (p:Ins→Bool) (st:fK):Bool:=st.all fun e=>mM p e.1
def mI (st:fK):Nat:=(st.map fun e=>bf e.1).sum
def qK (st:fK):Nat:=(st.map fun e=>bR e.2 e.1).foldr max 0
def qM (st:fK):Nat:=(st.map fun e=>eW e.1).foldr max 0
def wS (st:fK):Nat:=(st.map fun e=>2*bf e.1+1).sum
theorem fH : ∀st:fK,(ox st).length=st.length*2
 |[]=>rfl
 |e::st=>by rw[ox,List.flatMap_cons,List.length_append,List.length_cons];have:=fH st;rw[ox] at this;rw[this];simp;omega
theorem jP (s t:fK):ox (s++t)=ox s++ox t:=by simp[ox]
theorem tE (s:List Nat) (b:Nat):s.foldr max b=max (s.foldr max 0) b:=by
 induction s with
 |nil=>simp
 |cons a s ih=>simp only[List.foldr_cons,ih];omega
theorem lD (p:Ins→Bool) (s t:fK):Cn p (s++t)=(Cn p s&&Cn p t):=by simp[Cn]
theorem gM (s t:fK):mI (s++t)=mI s+mI t:=by simp[mI]
theorem nu (s t:fK):wS (s++t)=wS s+wS t:=by simp[wS]
theorem og (s t:fK):qK (s++t)=max (qK s) (qK t):=by simp only[qK,List.map_append,List.foldr_append];rw[tE]
theorem oh (s t:fK):qM (s++t)=max (qM s) (qM t):=by simp only[qM,List.map_append,List.foldr_append];rw[tE]
@[simp] theorem oP (p:Ins→Bool) (l:List Ins) (d:Nat):Cn p [(l,d)]=mM p l:=by simp[Cn]
@[simp] theorem qN (l:List Ins) (d:Nat):mI [(l,d)]=bf l:=by simp[mI]
@[simp] theorem F4 (l:List Ins) (d:Nat):wS [(l,d)]=2*bf l+1:=by simp[wS]
@[simp] theorem wR (l:List Ins) (d:Nat):qK [(l,d)]=bR d l:=by simp[qK]
@[simp] theorem wT (l:List Ins) (d:Nat):qM [(l,d)]=eW l:=by simp[qM]
theorem nv : ∀st:fK,st.length≤wS st
 |[]=>Nat.zero_le _
 |e::st=>by have:=nv st;simp only[wS,List.map_cons,List.sum_cons,List.length_cons] at this ⊢;omega
def dU (st:fK) (cells:List AV):Prop:=cells.take (st.length*2)=(ox st).map .p
theorem dU.len {st:fK} {cells:List AV} (h:dU st cells):st.length*2≤cells.length:=by
 have:=congrArg List.length h
 rw[List.length_take,List.length_map,fH] at this
 omega
theorem dU.top {st:fK} {x:List Ins} {d:Nat} {cells:List AV} (h:dU (st++[(x,d)]) cells):cells.getD (st.length*2) .ah = .p (.ps x.length 8 (aa x))∧cells.getD (st.length*2+1) .ah = .p (.sc (.int .i64 d)):=by
 have hl:=h.len
 simp only[List.length_append,List.length_cons,List.length_nil] at hl
 have get : ∀j,j<2→cells.getD (st.length*2+j) .ah=((ox (st++[(x,d)])).map AV.p).getD (st.length*2+j) .ah:=by
  intro j hj
  rw[←show cells.take ((st++[(x,d)]).length*2)=_ from h,List.getD_eq_getElem?_getD,List.getD_eq_getElem?_getD,List.getElem?_take_of_lt (by simp only[List.length_append,List.length_cons,List.length_nil];omega)]
 have g0:=get 0 (by omega)
 have g1:=get 1 (by omega)
 rw[jP,List.map_append,List.getD_eq_getElem?_getD (l:=List.map AV.p (ox st)++_),List.getElem?_append_right (by simp[fH])] at g0 g1
 simp only[List.length_map,fH] at g0 g1
 rw[show st.length*2+0-st.length*2=0 by omega] at g0
 rw[show st.length*2+1-st.length*2=1 by omega] at g1
 exact⟨by simpa[ox] using g0,by simpa[ox] using g1⟩
theorem dU.pop {st:fK} {e:List Ins×Nat} {cells:List AV} (h:dU (st++[e]) cells):dU st cells:=by
 unfold dU at h ⊢
 have:=congrArg (List.take (st.length*2)) h
 rw[List.take_take,jP,List.map_append,List.take_left' (by simp[fH])] at this
 rw[←this];congr 1
 simp only[List.length_append,List.length_cons,List.length_nil];omega
theorem dU.keep {st:fK} {cells:List AV} (h:dU st cells):dU st (cells.map fo):=by
 unfold dU at h ⊢
 rw[←List.map_take,h,List.map_map];rfl
theorem dU.push {st:fK} {cells:List AV} (h:dU st cells) (x:List Ins) (d:Nat):dU (st++[(x,d)]) (cells.take (st.length*2)++[.p (.ps x.length 8 (aa x)),.p (.sc (.int .i64 d))]):=by
 have hl:=h.len
 unfold dU at h ⊢
 rw[List.take_of_length_le (by simp;omega),h,jP,List.map_append];rfl
end Go.Am
end
section
namespace Go.Proofs.YtddfgnmjecogdaaDoor.N
open Go Go.Am
def bk (_:FuncId) (_:List AV) (_:Mem):Option (AV×Mem):=none
abbrev sP (n:Int):PV:= .sc (.int .i64 n)
noncomputable def recC (l:List Ins) (st:LoopState) (pd:Option Code):av:= .ob (gm Tryd.prog 31 0 st pd) [aL l,.ah,.mp 2 0,.p (.sc (.bool false)),.mp 3 0,.mp 4 0,.mp 5 0,.ah,.ah,aL l,.fn (.func 72) [] [.mp 1 0],.ah,.ah,.ah,.ah,.ah,.ah,.ah,.ah,.ah,.ah,.ah,.ah,.ah,.ah,.ah,.ah,.ah,.ah,.ah,.ah,.ah,.ah,.ah,.ah,.ah,.ah]
noncomputable def AB (l:List Ins) (tags n most:Int) (cells:List AV):Mem:=[recC l .ready none,.pc [.ps l.length 8 (aa l)],.pc [sP 0],.pc [sP tags],.pc [sP n],.pc [sP most],.ob (.gr 109 true) cells]
def KA (_l:List Ins) (_tags _n _most:Int) (_cells:List AV) (k:Nat) (x:List Ins) (d:Int):FuncId→Nat→Nat→Option (AV→AV):=fk [(72,3,3,sI .i64 k),(72,3,5,.agg [aL x,sI .i64 d]),(72,4,3,sI .i64 k)]
def KB (_l:List Ins) (_tags n _most:Int) (_cells:List AV) (_k:Nat) (_xs:List Ins) (d:Int) (i:Nat) (op r a b nn:Int) (tg:List Int) (ll le:List Ins) (_ok:Bool):FuncId→Nat→Nat→Option (AV→AV):=fk [(72,7,1,iV op r a b nn tg ll le),(72,13,0,sI .i64 ((i+1:Nat):Int)),(72,10,5,sI .i64 (d+1)),(72,12,5,sI .i64 (d+1)),(31,8,1,sI .i64 (n+1))]
def KC (_l:List Ins) (_tags _n _most:Int) (_cells:List AV) (_k:Nat) (_xs:List Ins) (_d:Int) (_i:Nat) (_op _r _a _b _nn:Int) (_tg:List Int) (_ll _le:List Ins) (ok:Bool) (f:FuncId) (_:List AV) (m:Mem):Option (AV×Mem):=cond (Nat.beq f 50) (some (sB ok,m)) none
noncomputable def F5 (l:List Ins) (tags n most:Int) (cells:List AV) (k:Nat) (x:List Ins) (d:Int):dR:=qD bk aW [(72,0),(72,2)] [(72,0,1)] [(72,3,4),(72,3,5),(72,4,4)] (KA l tags n most cells k x d)
def Iz:Sc:= .fin
noncomputable def zx (l:List Ins) (tags n most:Int) (cells:List AV) (k:Nat) (x:List Ins) (d:Int):Tree:=
 (.test (decide ((↑(k+1):Int)>0))
 (.need (sI .i64 (IntKind.i64.wrap ((↑(k+1):Int)-1))=sI IntKind.i64 (↑k:Int))
 (.must (ep (↑k:Int) (k+1)&&true&&true)
 (.must ((0+(↑k:Int).toNat*2+2).ble cells.length&&((iM (some (TypeInfo.mk (TypeDesc.slice 62) "[]api.Instr" 1 24 true 8 8 (some (Value.slice none 0 0)) false #[]).desc) (cells.getD (0+(↑k:Int).toNat*2) .ah)).snd&&((iM (some (TypeInfo.mk (TypeDesc.int IntKind.i64) "int" 1 8 false 8 8 (some (.int .i64 0)) true #[]).desc) (cells.getD (0+(↑k:Int).toNat*2+1) .ah)).snd&&true))&&true)
 (.need (AV.agg [(iM (Option.some (TypeInfo.mk (TypeDesc.slice 62) "[]api.Instr" 1 24 true 8 8 (Option.some (Value.slice Option.none 0 0)) false #[]).desc) (cells.getD (0+(↑k:Int).toNat*2) AV.ah)).fst,(iM (Option.some (TypeInfo.mk (TypeDesc.int IntKind.i64) "int" 1 8 false 8 8 (Option.some (Value.int IntKind.i64 0)) true #[]).desc) (cells.getD (0+(↑k:Int).toNat*2+1) AV.ah)).fst]=AV.agg [aL x,sI IntKind.i64 d])
 (.need (sI .i64 (IntKind.i64.wrap ((↑(k+1):Int)-1))=sI IntKind.i64 (↑k:Int))
 (.must ((↑k:Int).toNat.ble (k+1)&&true&&true&&true)
 (.at (an Tryd.prog env 72 2 [.vy 0,.ms 6 0 ((↑k:Int).toNat-0) 2 none,.mp 7 0,.p (.ps x.length 8 (aa x)),sI .i64 (↑x.length:Int),sI .i64 0] ([.ob (gm Tryd.prog 31 0 LoopState.ready none) [.p (.ps l.length 8 (aa l)),.ah,.mp 2 0,sB false,.mp 3 0,.mp 4 0,.mp 5 0,.ah,.ah,.p (.ps l.length 8 (aa l)),.fn (Fn.func 72) [] [.mp 1 0],.ah,.ah,.ah,.ah,.ah,.ah,.ah,.ah,.ah,.ah,.ah,.ah,.ah,.ah,.ah,.ah,.ah,.ah,.ah,.ah,.ah,.ah,.ah,.ah,.ah,.ah],.pc [.ps l.length 8 (aa l)],.pc [sP 0],.pc [sP tags],.pc [sP n],.pc [sP most],.ob (mN.gr 109 true) (List.map fo cells),.ac [.p (.ps x.length 8 (aa x)),sI .i64 d]]) 6 64))))))))
 (.out (.ret (.aO []) [.ob (gm Tryd.prog 31 0 LoopState.ready none) [.p (.ps l.length 8 (aa l)),.ah,.mp 2 0,sB false,.mp 3 0,.mp 4 0,.mp 5 0,.ah,.ah,.p (.ps l.length 8 (aa l)),.fn (Fn.func 72) [] [.mp 1 0],.ah,.ah,.ah,.ah,.ah,.ah,.ah,.ah,.ah,.ah,.ah,.ah,.ah,.ah,.ah,.ah,.ah,.ah,.ah,.ah,.ah,.ah,.ah,.ah,.ah,.ah],.pc [.ps l.length 8 (aa l)],.pc [sP 0],.pc [sP tags],.pc [sP n],.pc [sP most]])))
theorem Co (l:List Ins) (tags n most:Int) (cells:List AV) (k:Nat) (x:List Ins) (d:Int):grow Tryd.prog env (F5 l tags n most cells k x d) 1000000 true (an Tryd.prog env 72 0 ([AV.vy 0,AV.ms 6 0 (k+1) 2 Option.none]) (AB l tags n most cells) 6 64) Iz atEnd=zx l tags n most cells k x d:=by kernel_rfl
noncomputable def F6:dR:=cr bk aW [(72,0),(72,2)] [] []
def IA:Sc:= .fin
noncomputable def D0 (l:List Ins) (tags n most:Int) (_cells:List AV):Tree:=
 (.out (.ret (.aO []) [.ob (gm Tryd.prog 31 0 LoopState.ready none) [.p (.ps l.length 8 (aa l)),.ah,.mp 2 0,sB false,.mp 3 0,.mp 4 0,.mp 5 0,.ah,.ah,.p (.ps l.length 8 (aa l)),.fn (Fn.func 72) [] [.mp 1 0],.ah,.ah,.ah,.ah,.ah,.ah,.ah,.ah,.ah,.ah,.ah,.ah,.ah,.ah,.ah,.ah,.ah,.ah,.ah,.ah,.ah,.ah,.ah,.ah,.ah,.ah],.pc [.ps l.length 8 (aa l)],.pc [sP 0],.pc [sP tags],.pc [sP n],.pc [sP most]]))
theorem Cp (l:List Ins) (tags n most:Int) (cells:List AV):grow Tryd.prog env F6 1000000 true (an Tryd.prog env 72 0 ([AV.vy 0,AV.ms 6 0 0 2 Option.none]) ([recC l LoopState.ready Option.none,av.pc [PV.ps l.length 8 (aa l)],av.pc [sP 0],av.pc [sP tags],av.pc [sP n],av.pc [sP most],av.ob (mN.gr 109 true) cells]) 6 64) IA atEnd=D0 l tags n most cells:=by kernel_rfl
noncomputable def F7 (l:List Ins) (tags n most:Int) (cells:List AV) (k:Nat) (xs:List Ins) (d:Int) (i:Nat) (op r a b nn:Int) (tg:List Int) (ll:List Ins) (le:List Ins) (ok:Bool):dR:=qD (KC l tags n most cells k xs d i op r a b nn tg ll le ok) aW [(72,0),(72,2)] [(72,0,3),(31,0,0),(72,0,5),(72,0,6)] [(72,7,0),(72,7,1),(72,10,8),(72,12,8)] (KB l tags n most cells k xs d i op r a b nn tg ll le ok)
def IB:Sc:= .fin
noncomputable def iK (l:List Ins) (tags n most:Int) (cells:List AV) (k:Nat) (xs:List Ins) (d:Int) (i:Nat) (op r a b nn:Int) (tg:List Int) (ll:List Ins) (le:List Ins) (ok:Bool):Tree:=
 (.test (decide ((↑i:Int)<(↑xs.length:Int)))
 (.must (ep (↑i:Int) xs.length&&true&&true)
 (.must (isInt IntKind.i64 ((aa xs).getD ((↑i:Int).toNat*8) PV.bad)&&(isInt IntKind.i64 ((aa xs).getD ((↑i:Int).toNat*8+1) PV.bad)&&(isInt IntKind.u32 ((aa xs).getD ((↑i:Int).toNat*8+1+1) PV.bad)&&(isInt IntKind.u32 ((aa xs).getD ((↑i:Int).toNat*8+1+1+1) PV.bad)&&(isInt IntKind.i32 ((aa xs).getD ((↑i:Int).toNat*8+1+1+1+1) PV.bad)&&(aR ((aa xs).getD ((↑i:Int).toNat*8+1+1+1+1+1) PV.bad)&&(aR ((aa xs).getD ((↑i:Int).toNat*8+1+1+1+1+1+1) PV.bad)&&(aR ((aa xs).getD ((↑i:Int).toNat*8+1+1+1+1+1+1+1) PV.bad)&&true)))))))&&true)
 (.need (AV.agg [sI .i64 (aA ((aa xs).getD ((↑i:Int).toNat*8) PV.bad)),sI .i64 (aA ((aa xs).getD ((↑i:Int).toNat*8+1) PV.bad)),sI .u32 (aA ((aa xs).getD ((↑i:Int).toNat*8+1+1) PV.bad)),sI .u32 (aA ((aa xs).getD ((↑i:Int).toNat*8+1+1+1) PV.bad)),sI .i32 (aA ((aa xs).getD ((↑i:Int).toNat*8+1+1+1+1) PV.bad)),AV.p (PV.ps (aj ((aa xs).getD ((↑i:Int).toNat*8+1+1+1+1+1) PV.bad)) (au ((aa xs).getD ((↑i:Int).toNat*8+1+1+1+1+1) PV.bad)) (af ((aa xs).getD ((↑i:Int).toNat*8+1+1+1+1+1) PV.bad))),AV.p (PV.ps (aj ((aa xs).getD ((↑i:Int).toNat*8+1+1+1+1+1+1) PV.bad)) (au ((aa xs).getD ((↑i:Int).toNat*8+1+1+1+1+1+1) PV.bad)) (af ((aa xs).getD ((↑i:Int).toNat*8+1+1+1+1+1+1) PV.bad))),AV.p (PV.ps (aj ((aa xs).getD ((↑i:Int).toNat*8+1+1+1+1+1+1+1) PV.bad)) (au ((aa xs).getD ((↑i:Int).toNat*8+1+1+1+1+1+1+1) PV.bad)) (af ((aa xs).getD ((↑i:Int).toNat*8+1+1+1+1+1+1+1) PV.bad)))]=iV op r a b nn tg ll le)
 (.call ⟨50,[.agg [sI .i64 op,sI .i64 r,sI .u32 a,sI .u32 b,sI .i32 nn,.p (.ps tg.length 1 (bL IntKind.u32 tg)),.p (.ps ll.length 8 (aa ll)),.p (.ps le.length 8 (aa le))]],[],.p (.sc (.bool ok)),[]⟩
 (.test (!ok)
 (.out (.ret (.aO []) [.ob (gm Tryd.prog 31 0 (dm (some Code.ret)) (some Code.ret)) [.p (.ps l.length 8 (aa l)),.ah,.mp 2 0,sB false,.mp 3 0,.mp 4 0,.mp 5 0,.ah,.ah,.p (.ps l.length 8 (aa l)),.fn (Fn.func 72) [] [.mp 1 0],.ah,.ah,.ah,.ah,.ah,.ah,.ah,.ah,.ah,.ah,.ah,.ah,.ah,.ah,.ah,.ah,.ah,.ah,.ah,.ah,.ah,.ah,.ah,.ah,.ah,.ah],.pc [.ps l.length 8 (aa l)],.pc [sP 2],.pc [sP tags],.pc [sP n],.pc [sP most]]))
 (.need (sI .i64 (IntKind.i64.wrap (n+1))=sI IntKind.i64 (n+1))
 (.test (decide ((↑ll.length:Int)>0))
 (.need (sI .i64 (IntKind.i64.wrap (d+1))=sI IntKind.i64 (d+1))
 (.must (((k+1)*32).ble aJ&&(k+1).ble aJ&&((k*2).ble cells.length&&true)&&true)
 (.test (decide ((↑le.length:Int)>0))
 (.need (sI .i64 (IntKind.i64.wrap (d+1))=sI IntKind.i64 (d+1))
 (.must (((k+1+1)*32).ble aJ&&(k+1+1).ble aJ&&(((k+1)*2).ble (List.take (k*2) cells++[.p (.ps ll.length 8 (aa ll)),sI .i64 (d+1)]).length&&true)&&true)
 (.need (sI .i64 (IntKind.i64.wrap ((↑i:Int)+1))=sI IntKind.i64 (↑(i+1):Int))
 (.at (an Tryd.prog env 72 2 [.vy 0,.ms 6 0 (k+1+1) 2 none,.mp 7 0,.p (.ps xs.length 8 (aa xs)),sI .i64 (↑xs.length:Int),sI .i64 (↑(i+1):Int)] ([.ob (gm Tryd.prog 31 0 (dm none) none) [.p (.ps l.length 8 (aa l)),.ah,.mp 2 0,sB false,.mp 3 0,.mp 4 0,.mp 5 0,.ah,.ah,.p (.ps l.length 8 (aa l)),.fn (Fn.func 72) [] [.mp 1 0],.ah,.ah,.ah,.ah,.ah,.ah,.ah,.ah,.ah,.ah,.ah,.ah,.ah,.ah,.ah,.ah,.ah,.ah,.ah,.ah,.ah,.ah,.ah,.ah,.ah,.ah],.pc [.ps l.length 8 (aa l)],.pc [sP 0],.pc [sP (bif false then Min.min tags (↑tg.length:Int) else Max.max tags (↑tg.length:Int))],.pc [sP (n+1)],.pc [sP (bif false then Min.min most d else Max.max most d)],.ob (mN.gr 109 true) (List.map fo (List.take ((k+1)*2) (List.take (k*2) cells++[.p (.ps ll.length 8 (aa ll)),sI .i64 (d+1)])++[.p (.ps le.length 8 (aa le)),sI .i64 (d+1)])),.ac [.p (.ps xs.length 8 (aa xs)),sI .i64 d]]) 6 64)))))
 (.need (sI .i64 (IntKind.i64.wrap ((↑i:Int)+1))=sI IntKind.i64 (↑(i+1):Int))
 (.at (an Tryd.prog env 72 2 [.vy 0,.ms 6 0 (k+1) 2 none,.mp 7 0,.p (.ps xs.length 8 (aa xs)),sI .i64 (↑xs.length:Int),sI .i64 (↑(i+1):Int)] ([.ob (gm Tryd.prog 31 0 (dm none) none) [.p (.ps l.length 8 (aa l)),.ah,.mp 2 0,sB false,.mp 3 0,.mp 4 0,.mp 5 0,.ah,.ah,.p (.ps l.length 8 (aa l)),.fn (Fn.func 72) [] [.mp 1 0],.ah,.ah,.ah,.ah,.ah,.ah,.ah,.ah,.ah,.ah,.ah,.ah,.ah,.ah,.ah,.ah,.ah,.ah,.ah,.ah,.ah,.ah,.ah,.ah,.ah,.ah],.pc [.ps l.length 8 (aa l)],.pc [sP 0],.pc [sP (bif false then Min.min tags (↑tg.length:Int) else Max.max tags (↑tg.length:Int))],.pc [sP (n+1)],.pc [sP (bif false then Min.min most d else Max.max most d)],.ob (mN.gr 109 true) (List.map fo (List.take (k*2) cells++[.p (.ps ll.length 8 (aa ll)),sI .i64 (d+1)])),.ac [.p (.ps xs.length 8 (aa xs)),sI .i64 d]]) 6 64))))))
 (.test (decide ((↑le.length:Int)>0))
 (.need (sI .i64 (IntKind.i64.wrap (d+1))=sI IntKind.i64 (d+1))
 (.must (((k+1)*32).ble aJ&&(k+1).ble aJ&&((k*2).ble cells.length&&true)&&true)
 (.need (sI .i64 (IntKind.i64.wrap ((↑i:Int)+1))=sI IntKind.i64 (↑(i+1):Int))
 (.at (an Tryd.prog env 72 2 [.vy 0,.ms 6 0 (k+1) 2 none,.mp 7 0,.p (.ps xs.length 8 (aa xs)),sI .i64 (↑xs.length:Int),sI .i64 (↑(i+1):Int)] ([.ob (gm Tryd.prog 31 0 (dm none) none) [.p (.ps l.length 8 (aa l)),.ah,.mp 2 0,sB false,.mp 3 0,.mp 4 0,.mp 5 0,.ah,.ah,.p (.ps l.length 8 (aa l)),.fn (Fn.func 72) [] [.mp 1 0],.ah,.ah,.ah,.ah,.ah,.ah,.ah,.ah,.ah,.ah,.ah,.ah,.ah,.ah,.ah,.ah,.ah,.ah,.ah,.ah,.ah,.ah,.ah,.ah,.ah,.ah],.pc [.ps l.length 8 (aa l)],.pc [sP 0],.pc [sP (bif false then Min.min tags (↑tg.length:Int) else Max.max tags (↑tg.length:Int))],.pc [sP (n+1)],.pc [sP (bif false then Min.min most d else Max.max most d)],.ob (mN.gr 109 true) (List.map fo (List.take (k*2) cells++[.p (.ps le.length 8 (aa le)),sI .i64 (d+1)])),.ac [.p (.ps xs.length 8 (aa xs)),sI .i64 d]]) 6 64)))))
 (.need (sI .i64 (IntKind.i64.wrap ((↑i:Int)+1))=sI IntKind.i64 (↑(i+1):Int))
 (.at (an Tryd.prog env 72 2 [.vy 0,.ms 6 0 k 2 none,.mp 7 0,.p (.ps xs.length 8 (aa xs)),sI .i64 (↑xs.length:Int),sI .i64 (↑(i+1):Int)] ([.ob (gm Tryd.prog 31 0 (dm none) none) [.p (.ps l.length 8 (aa l)),.ah,.mp 2 0,sB false,.mp 3 0,.mp 4 0,.mp 5 0,.ah,.ah,.p (.ps l.length 8 (aa l)),.fn (Fn.func 72) [] [.mp 1 0],.ah,.ah,.ah,.ah,.ah,.ah,.ah,.ah,.ah,.ah,.ah,.ah,.ah,.ah,.ah,.ah,.ah,.ah,.ah,.ah,.ah,.ah,.ah,.ah,.ah,.ah],.pc [.ps l.length 8 (aa l)],.pc [sP 0],.pc [sP (bif false then Min.min tags (↑tg.length:Int) else Max.max tags (↑tg.length:Int))],.pc [sP (n+1)],.pc [sP (bif false then Min.min most d else Max.max most d)],.ob (mN.gr 109 true) (List.map fo cells),.ac [.p (.ps xs.length 8 (aa xs)),sI .i64 d]]) 6 64)))))))))))
 (.at (an Tryd.prog env 72 0 [.vy 0,.ms 6 0 k 2 none] ([.ob (gm Tryd.prog 31 0 LoopState.ready none) [.p (.ps l.length 8 (aa l)),.ah,.mp 2 0,sB false,.mp 3 0,.mp 4 0,.mp 5 0,.ah,.ah,.p (.ps l.length 8 (aa l)),.fn (Fn.func 72) [] [.mp 1 0],.ah,.ah,.ah,.ah,.ah,.ah,.ah,.ah,.ah,.ah,.ah,.ah,.ah,.ah,.ah,.ah,.ah,.ah,.ah,.ah,.ah,.ah,.ah,.ah,.ah,.ah],.pc [.ps l.length 8 (aa l)],.pc [sP 0],.pc [sP tags],.pc [sP n],.pc [sP most],.ob (mN.gr 109 true) (List.map fo cells)]) 6 64)))
theorem qO (l:List Ins) (tags n most:Int) (cells:List AV) (k:Nat) (xs:List Ins) (d:Int) (i:Nat) (op r a b nn:Int) (tg:List Int) (ll:List Ins) (le:List Ins) (ok:Bool):grow Tryd.prog env (F7 l tags n most cells k xs d i op r a b nn tg ll le ok) 1000000 true (an Tryd.prog env 72 2 ([AV.vy 0,AV.ms 6 0 k 2 Option.none,AV.mp 7 0,aL xs,sI IntKind.i64 (↑xs.length:Int),sI IntKind.i64 (↑i:Int)]) (AB l tags n most cells++[av.ac [aL xs,sI IntKind.i64 d]]) 6 64) IB atEnd=iK l tags n most cells k xs d i op r a b nn tg ll le ok:=by kernel_rfl
noncomputable def KD (l:List Ins) (tags n most:Int):Out:= .ret (.aO []) [recC l .ready none,.pc [.ps l.length 8 (aa l)],.pc [sP 0],.pc [sP tags],.pc [sP n],.pc [sP most]]
noncomputable def IC (l:List Ins) (tags n most:Int):Out:= .ret (.aO []) [recC l .done (some .ret),.pc [.ps l.length 8 (aa l)],.pc [sP 2],.pc [sP tags],.pc [sP n],.pc [sP most]]
def eX:Nat:=1000000000000
def tF (p:Ins→Bool) (l:List Ins) (st:fK) (tags n most:Nat) (o:Out):Prop:=
 (Cn p st=true∧o=KD l (max tags (qM st):Nat) (n+mI st:Nat) (max most (qK st):Nat))∨(Cn p st=false ∧ ∃t k m,o=IC l t k m)
section
variable (p:Ins→Bool) (hp : ∀x:Ins,aB Tryd.prog env 50 [AA x] [] (sB (p x)) []) (l:List Ins)
include hp in
theorem AD (N:Nat) (ih : ∀(st:fK) (cells:List AV) (tags n most:Nat),wS st<N→dU st cells→n+mI st≤eX→wS st≤eX→(∀e∈st,e.2+bf e.1≤eX) →
   ∃o,Am.Good Tryd.prog env (an Tryd.prog env 72 0 [.vy 0,.ms 6 0 st.length 2 none] (AB l tags n most cells) 6 64) o∧tF p l st tags n most o) (xs:List Ins) (hxs:xs.length≤eX) (d:Nat) :
  ∀(r i:Nat) (st:fK) (cells:List AV) (tags n most:Nat),i+r=xs.length→wS st+2*bf (xs.drop i)<N→dU st cells→n+mI st+bf (xs.drop i)≤eX→wS st+2*bf (xs.drop i)≤eX→(∀e∈st,e.2+bf e.1≤eX)→d+bf (xs.drop i)≤eX →
   ∃o,Am.Good Tryd.prog env (an Tryd.prog env 72 2 [.vy 0,.ms 6 0 st.length 2 none,.mp 7 0,aL xs,sI .i64 xs.length,sI .i64 i] (AB l tags n most cells++[.ac [aL xs,sI .i64 d]]) 6 64) o∧tF p l (st++[(xs.drop i,d)]) tags n most o:=by
 intro r
 induction r with
 |zero=>
  intro i st cells tags n most hi hN ht hn hw he hd
  have h1:xs.drop i=[]:=List.drop_eq_nil_of_le (by omega)
  rw[h1] at hN hn hw ⊢
  simp only[bf] at hN hn hw
  obtain⟨o,ho,hq⟩:=ih st (cells.map fo) tags n most (by omega) ht.keep (by omega) (by omega) he
  refine⟨o,aq names (qO l tags n most cells st.length xs d i 0 0 0 0 0 [] [] [] true) ?_,?_⟩
  · have h2 : ¬((i:Int)<xs.length):=by omega
    simp only[iK,Tree.ok]
    exact⟨fun h=>absurd (by simpa using h) h2,fun _=>ho⟩
  · unfold tF at hq ⊢
    rw[lD,gM,oh,og]
    simpa[mM,bf,eW,bR] using hq
 |succ r ihr=>
  intro i st cells tags n most hi hN ht hn hw he hd
  have j8:i<xs.length:=by omega
  have wU:xs[i]? = some xs[i]:=List.getElem?_eq_getElem j8
  have MB:xs.drop i=xs[i]::xs.drop (i+1):=List.drop_eq_getElem_cons j8
  rw[MB] at hN hn hw hd ⊢
  generalize xs[i]=x at *
  generalize hys:xs.drop (i+1)=ys at *
  obtain⟨op,rs,a,b,nn,tg,ll,le⟩:=x
  obtain⟨c0,c1,c2,c3,c4,c5,c6,c7⟩:=dS wU
  have hpx:=hp (.mk op rs a b nn tg ll le)
  have rP:eX=1000000000000:=rfl
  have aY:aJ=70368744177664:=rfl
  simp only[bf,kB] at hN hn hw hd
  have JN:=nv st
  have HG:=ht.len
  have w1:IntKind.i64.wrap ((i:Int)+1)=((i+1:Nat):Int):=by rw[cC (by omega) (by omega)];rfl
  have w2:IntKind.i64.wrap ((d:Int)+1)=((d+1:Nat):Int):=by rw[cC (by omega) (by omega)];rfl
  have w3:IntKind.i64.wrap ((n:Int)+1)=((n+1:Nat):Int):=by rw[cC (by omega) (by omega)];rfl
  have Dk:(i:Int)<(xs.length:Int):=by omega
  cases hok:p (.mk op rs a b nn tg ll le) with
  |false=>
   refine⟨IC l tags n most,aq names (qO l tags n most cells st.length xs d i op rs a b nn tg ll le false) ?_,.inr ⟨?_,_,_,_,rfl⟩⟩
   · simp only[iK,Tree.ok,Int.toNat_natCast,Nat.add_assoc,Nat.reduceAdd,c0,c1,c2,c3,c4,c5,c6,c7,isInt,aR,aA,aj,au,af,ep]
     refine⟨fun _=>⟨by simp[Dk],by simp,rfl,?_,fun _=>rfl,fun h=>by cases h⟩,fun h=>absurd Dk (by simpa using h)⟩
     rw[hok] at hpx;exact hpx
   · rw[lD,oP,mM,Iy,hok];simp
  |true=>
   have next : ∀(s:fK) (cs:List AV),dU (st++s) cs→wS s≤2*(bf ll+bf le)+2→mI s=bf ll+bf le→Cn p s=(mM p ll&&mM p le)→qM s=max (eW ll) (eW le)→qK s=max (bR (d+1) ll) (bR (d+1) le)→(∀e∈s,e.2+bf e.1≤eX) →
     ∃o,Am.Good Tryd.prog env (an Tryd.prog env 72 2 [.vy 0,.ms 6 0 (st++s).length 2 none,.mp 7 0,aL xs,sI .i64 xs.length,sI .i64 (i+1:Nat)] (AB l (max tags tg.length:Nat) (n+1:Nat) (max most d:Nat) cs++[.ac [aL xs,sI .i64 d]]) 6 64) o∧tF p l (st++[(.mk op rs a b nn tg ll le::ys,d)]) tags n most o:=by
    intro s cs hts Nf MC hos MD hds ME
    obtain⟨o,ho,hq⟩:=ihr (i+1) (st++s) cs (max tags tg.length) (n+1) (max most d) (by omega) (by rw[nu,hys];omega) hts (by rw[gM,hys];omega) (by rw[nu,hys];omega)
     (fun e hm=>(List.mem_append.1 hm).elim (he e) (ME e)) (by rw[hys];omega)
    refine⟨o,ho,?_⟩
    rw[hys] at hq
    unfold tF at hq ⊢
    simp only[lD,gM,oh,og,oP,qN,wT,wR,hos,MC,MD,hds] at hq ⊢
    simp only[mM,Iy,bf,kB,eW,Ci,bR,vc,hok,Bool.true_and]
    rcases hq with⟨q1,q2⟩ | ⟨q1,q2⟩
    · refine .inl ⟨by rw[Bool.and_assoc] at q1;exact q1,?_⟩
      rw[q2]
      congr 1<;>congr 1<;>omega
    · exact .inr ⟨by rw[Bool.and_assoc] at q1;exact q1,q2⟩
   have tree:=qO l tags n most cells st.length xs d i op rs a b nn tg ll le true
   have D1:aB Tryd.prog env 50 [iV op rs a b nn tg ll le] [] (sB true) []:=by rw[hok] at hpx;exact hpx
   have JF:max (tags:Int) (tg.length:Int)=((max tags tg.length:Nat):Int):=by omega
   have JG:max (most:Int) (d:Int)=((max most d:Nat):Int):=by omega
   have nl : ∀z:List Ins,z≠[]→0<(z.length:Int):=fun z hz=>by have:=List.length_pos_iff.2 hz;omega
   by_cases Dv:ll=[]
   · by_cases hle:le=[]
     · subst Dv;subst hle
       obtain⟨o,ho,hq⟩:=next [] (cells.map fo) (by rw[List.append_nil];exact ht.keep) (by simp[wS,bf]) (by simp[mI,bf]) (by simp[Cn,mM]) (by simp[qM,eW]) (by simp[qK,bR]) (fun _ h=>by cases h)
       refine⟨o,aq names tree ?_,hq⟩
       simp only[iK,Tree.ok,Int.toNat_natCast,Nat.add_assoc,Nat.reduceAdd,c0,c1,c2,c3,c4,c5,c6,c7,isInt,aR,aA,aj,au,af,ep,w1,w2,w3,cond_false,JF,JG]
       rw[List.append_nil] at ho
       exact⟨fun _=>⟨by simp[Dk],by simp,rfl,D1,fun h=>(by cases h),fun _=>⟨rfl,fun h=>(by simp at h),fun _=>⟨fun h=>(by simp at h),fun _=>⟨(by trivial),ho⟩⟩⟩⟩,fun h=>absurd Dk (by simpa using h)⟩
     · subst Dv
       have KE:=nl le hle
       obtain⟨o,ho,hq⟩:=next [(le,d+1)] _ (ht.push le (d+1)).keep (by simp[bf]) (by simp[bf]) (by simp[mM]) (by simp[eW]) (by simp[bR]) (fun e h=>by simp only[List.mem_singleton] at h;subst h;simp only;omega)
       refine⟨o,aq names tree ?_,hq⟩
       simp only[iK,Tree.ok,Int.toNat_natCast,Nat.add_assoc,Nat.reduceAdd,c0,c1,c2,c3,c4,c5,c6,c7,isInt,aR,aA,aj,au,af,ep,w1,w2,w3,cond_false,JF,JG]
       rw[List.length_append] at ho
       exact⟨fun _=>⟨by simp[Dk],by simp,rfl,D1,fun h=>(by cases h),fun _=>⟨rfl,fun h=>(by simp at h),fun _=>⟨fun _=>⟨rfl,(by simp;omega),(by trivial),ho⟩,fun h=>absurd KE (by simpa using h)⟩⟩⟩,fun h=>absurd Dk (by simpa using h)⟩
   · have LF:=nl ll Dv
     by_cases hle:le=[]
     · subst hle
       obtain⟨o,ho,hq⟩:=next [(ll,d+1)] _ (ht.push ll (d+1)).keep (by simp[bf]) (by simp[bf]) (by simp[mM]) (by simp[eW]) (by simp[bR]) (fun e h=>by simp only[List.mem_singleton] at h;subst h;simp only;omega)
       refine⟨o,aq names tree ?_,hq⟩
       simp only[iK,Tree.ok,Int.toNat_natCast,Nat.add_assoc,Nat.reduceAdd,c0,c1,c2,c3,c4,c5,c6,c7,isInt,aR,aA,aj,au,af,ep,w1,w2,w3,cond_false,JF,JG]
       rw[List.length_append] at ho
       exact⟨fun _=>⟨by simp[Dk],by simp,rfl,D1,fun h=>(by cases h),fun _=>⟨rfl,fun _=>⟨rfl,(by simp;omega),fun h=>(by simp at h),fun _=>⟨(by trivial),ho⟩⟩,fun h=>absurd LF (by simpa using h)⟩⟩,fun h=>absurd Dk (by simpa using h)⟩
     · have KE:=nl le hle
       have BF:=(ht.push ll (d+1)).push le (d+1)
       rw[List.append_assoc] at BF
       obtain⟨o,ho,hq⟩:=next [(ll,d+1),(le,d+1)] _ BF.keep (by simp[wS];omega) (by simp[mI]) (by simp[Cn]) (by simp[qM]) (by simp[qK]) (fun e h=>by simp only[List.mem_cons,List.not_mem_nil,or_false] at h;rcases h with rfl | rfl<;>simp only<;>omega)
       refine⟨o,aq names tree ?_,hq⟩
       simp only[iK,Tree.ok,Int.toNat_natCast,Nat.add_assoc,Nat.reduceAdd,c0,c1,c2,c3,c4,c5,c6,c7,isInt,aR,aA,aj,au,af,ep,w1,w2,w3,cond_false,JF,JG]
       simp only[List.length_append,List.length_cons,List.length_nil,Nat.reduceAdd] at ho
       exact⟨fun _=>⟨by simp[Dk],by simp,rfl,D1,fun h=>(by cases h),fun _=>⟨rfl,fun _=>⟨rfl,(by simp;omega),fun _=>⟨rfl,(by simp;omega),(by trivial),ho⟩,fun h=>absurd KE (by simpa using h)⟩,fun h=>absurd LF (by simpa using h)⟩⟩,fun h=>absurd Dk (by simpa using h)⟩
include hp in
theorem tG : ∀(N:Nat) (st:fK) (cells:List AV) (tags n most:Nat),wS st<N→dU st cells→n+mI st≤eX→wS st≤eX→(∀e∈st,e.2+bf e.1≤eX) →
   ∃o,Am.Good Tryd.prog env (an Tryd.prog env 72 0 [.vy 0,.ms 6 0 st.length 2 none] (AB l tags n most cells) 6 64) o∧tF p l st tags n most o
 |0,_,_,_,_,_,h,_,_,_,_=>by omega
 |N+1,st,cells,tags,n,most,hN,ht,hn,hw,he=>by
  rcases List.eq_nil_or_concat st with rfl | ⟨s,⟨x,d⟩,rfl⟩
  · exact⟨_,aq names (Cp l tags n most cells) rfl,.inl ⟨rfl,(by simp[qM,mI,qK];rfl)⟩⟩
  · rw[List.concat_eq_append] at *
    have hx:=he (x,d) (by simp)
    rw[nu,F4] at hN hw
    rw[gM,qN] at hn
    obtain⟨t0,t1⟩:=ht.top
    have HG:=ht.len
    have JN:=nv s
    have rP:eX=1000000000000:=rfl
    have BS:=dz x
    simp only[List.length_append,List.length_cons,List.length_nil] at HG hx
    obtain⟨o,ho,hq⟩:=AD p hp l N (fun st cells tags n most=>tG N st cells tags n most) x (by omega) d x.length 0 s (cells.map fo) tags n most (by omega) (by rw[List.drop_zero];omega) ht.pop.keep (by rw[List.drop_zero];omega) (by rw[List.drop_zero];omega)
     (fun e hm=>he e (List.mem_append_left _ hm)) (by rw[List.drop_zero];omega)
    rw[List.drop_zero] at hq
    refine⟨o,?_,hq⟩
    have w1:IntKind.i64.wrap (((s.length+1:Nat):Int)-1)=(s.length:Int):=by rw[cC (by omega) (by omega)];omega
    rw[List.length_append,List.length_singleton]
    refine aq names (Co l tags n most cells s.length x d) ?_
    simp only[zx,Tree.ok,Int.toNat_natCast,Nat.zero_add,t0,t1,iM,sr,w1,isInt,aR,aA,aj,au,af,ep,Nat.sub_zero]
    exact⟨fun _=>⟨(by trivial),(by simp;omega),(by simp;omega),(by trivial),(by trivial),(by simp),ho⟩,fun h=>absurd h (by simp)⟩
end
end Go.Proofs.YtddfgnmjecogdaaDoor.N
end
section
namespace Go.Proofs.YtddfgnmjecogdaaDoor.N
open Go Go.Am
section
variable (l:List Ins)
end
end Go.Proofs.YtddfgnmjecogdaaDoor.N
end
section
namespace Go.Proofs.YtddfgnmjecogdaaDoor.N
open Go Go.Am
noncomputable def KF (l:List Ins) (tags n most:Int) (f:FuncId) (_:List AV) (_:Mem):Option (AV×Mem):=cond (Nat.beq f 72) (some (.aO [],[recC l .ready none,.pc [.ps l.length 8 (aa l)],.pc [sP 0],.pc [sP tags],.pc [sP n],.pc [sP most]])) none
noncomputable def KG (l:List Ins) (tags n most:Int) (f:FuncId) (_:List AV) (_:Mem):Option (AV×Mem):=cond (Nat.beq f 72) (some (.aO [],[recC l .done (some .ret),.pc [.ps l.length 8 (aa l)],.pc [sP 2],.pc [sP tags],.pc [sP n],.pc [sP most]])) none
noncomputable def F8:dR:=cr bk aW [(72,0)] [] []
def ID:Sc:= .fin
noncomputable def D2 (l:List Ins):Tree:=
 (.at (an Tryd.prog env 72 0 [.vy 0,.ms 6 0 1 2 none] ([.ob (gm Tryd.prog 31 0 LoopState.ready none) [.p (.ps l.length 8 (aa l)),.ah,.mp 2 0,sB false,.mp 3 0,.mp 4 0,.mp 5 0,.ah,.ah,.p (.ps l.length 8 (aa l)),.fn (Fn.func 72) [] [.mp 1 0],.ah,.ah,.ah,.ah,.ah,.ah,.ah,.ah,.ah,.ah,.ah,.ah,.ah,.ah,.ah,.ah,.ah,.ah,.ah,.ah,.ah,.ah,.ah,.ah,.ah,.ah],.pc [.ps l.length 8 (aa l)],.pc [sP 0],.pc [sP 0],.pc [sP 0],.pc [sP 0],.ob (mN.gr 109 true) [.p (.ps l.length 8 (aa l)),sI .i64 1]]) 6 64))
theorem wV (l:List Ins):bC Tryd.prog env F8 1000000 72 ([AV.vy 0,AV.mp 1 0]) ([recC l LoopState.ready Option.none,av.pc [PV.ps l.length 8 (aa l)],av.pc [sP 0],av.pc [sP 0],av.pc [sP 0],av.pc [sP 0]]) ID=D2 l:=by kernel_rfl
noncomputable def D3 (l:List Ins) (tags n most:Int):dR:=cr (KF l tags n most) aW [] [(31,10,3),(31,10,7),(31,0,0)] []
def F9:Sc:=(.fork (.lit (.lit .fin)) (.fork (.lit .fin) .fin))
noncomputable def Cq (l:List Ins) (tags n most:Int):Tree:=
 (.call ⟨72,[.vy 0,.mp 1 0],[.ob (gm Tryd.prog 31 0 LoopState.ready none) [.p (.ps l.length 8 (aa l)),.ah,.mp 2 0,sB false,.mp 3 0,.mp 4 0,.mp 5 0,.ah,.ah,.p (.ps l.length 8 (aa l)),.fn (Fn.func 72) [] [.mp 1 0],.ah,.ah,.ah,.ah,.ah,.ah,.ah,.ah,.ah,.ah,.ah,.ah,.ah,.ah,.ah,.ah,.ah,.ah,.ah,.ah,.ah,.ah,.ah,.ah,.ah,.ah],.pc [.ps l.length 8 (aa l)],.pc [sP 0],.pc [sP 0],.pc [sP 0],.pc [sP 0]],.aO [],[.ob (gm Tryd.prog 31 0 LoopState.ready none) [.p (.ps l.length 8 (aa l)),.ah,.mp 2 0,sB false,.mp 3 0,.mp 4 0,.mp 5 0,.ah,.ah,.p (.ps l.length 8 (aa l)),.fn (Fn.func 72) [] [.mp 1 0],.ah,.ah,.ah,.ah,.ah,.ah,.ah,.ah,.ah,.ah,.ah,.ah,.ah,.ah,.ah,.ah,.ah,.ah,.ah,.ah,.ah,.ah,.ah,.ah,.ah,.ah],.pc [.ps l.length 8 (aa l)],.pc [sP 0],.pc [sP tags],.pc [sP n],.pc [sP most]]⟩
 (.test (decide (n>262144))
 (.out (.ret (sI .i64 141) []))
 (.test (decide (tags>16384))
 (.out (.ret (sI .i64 141) []))
 (.test (decide (most>900))
 (.out (.ret (sI .i64 141) []))
 (.out (.ret (sI .i64 0) []))))))
theorem AE (l:List Ins) (tags n most:Int):bC Tryd.prog env (D3 l tags n most) 1000000 31 ([aL l]) ([]) F9=Cq l tags n most:=by kernel_rfl
noncomputable def D4 (l:List Ins) (tags n most:Int):dR:=cr (KG l tags n most) aW [] [] []
def Ga:Sc:= .fin
noncomputable def Cr (l:List Ins) (tags n most:Int):Tree:=
 (.call ⟨72,[.vy 0,.mp 1 0],[.ob (gm Tryd.prog 31 0 LoopState.ready none) [.p (.ps l.length 8 (aa l)),.ah,.mp 2 0,sB false,.mp 3 0,.mp 4 0,.mp 5 0,.ah,.ah,.p (.ps l.length 8 (aa l)),.fn (Fn.func 72) [] [.mp 1 0],.ah,.ah,.ah,.ah,.ah,.ah,.ah,.ah,.ah,.ah,.ah,.ah,.ah,.ah,.ah,.ah,.ah,.ah,.ah,.ah,.ah,.ah,.ah,.ah,.ah,.ah],.pc [.ps l.length 8 (aa l)],.pc [sP 0],.pc [sP 0],.pc [sP 0],.pc [sP 0]],.aO [],[.ob (gm Tryd.prog 31 0 LoopState.done (some Code.ret)) [.p (.ps l.length 8 (aa l)),.ah,.mp 2 0,sB false,.mp 3 0,.mp 4 0,.mp 5 0,.ah,.ah,.p (.ps l.length 8 (aa l)),.fn (Fn.func 72) [] [.mp 1 0],.ah,.ah,.ah,.ah,.ah,.ah,.ah,.ah,.ah,.ah,.ah,.ah,.ah,.ah,.ah,.ah,.ah,.ah,.ah,.ah,.ah,.ah,.ah,.ah,.ah,.ah],.pc [.ps l.length 8 (aa l)],.pc [sP 2],.pc [sP tags],.pc [sP n],.pc [sP most]]⟩
 (.out (.ret (sI .i64 2) [])))
theorem AF (l:List Ins) (tags n most:Int):bC Tryd.prog env (D4 l tags n most) 1000000 31 ([aL l]) ([]) Ga=Cr l tags n most:=by kernel_rfl
theorem D5 (l:List Ins):dU [(l,1)] [.p (.ps l.length 8 (aa l)),.p (.sc (.int .i64 1))]:=rfl
def bI (p:Ins→Bool) (l:List Ins):Int:=if mM p l=false then 2 else if 262144<bf l∨16384<eW l∨900<bR 1 l then 141 else 0
theorem yB {p:Ins→Bool} (hp : ∀x:Ins,aB Tryd.prog env 50 [AA x] [] (sB (p x)) []) (l:List Ins) (h:bf l≤100000000000):aB Tryd.prog env 31 [aL l] [] (sI .i64 (bI p l)) []:=by
 have rP:eX=1000000000000:=rfl
 obtain⟨o,ho,hq⟩:=tG p hp l (2*bf l+2) [(l,1)] _ 0 0 0 (by simp) (D5 l) (by simp;omega) (by simp;omega) (fun e he=>by simp only[List.mem_singleton] at he;subst he;simp only;omega)
 rcases hq with⟨q1,rfl⟩ | ⟨q1,t,k,m,rfl⟩
 · have hd:aB Tryd.prog env 72 [.vy 0,.mp 1 0] _ (.aO []) _:=ak names (wV l) ho
   refine ak names (AE l _ _ _) ⟨hd,?_⟩
   rw[oP] at q1
   simp only[wT,qN,wR,Nat.zero_add,Nat.zero_max]
   have z : ∀a b:Nat,decide ((a:Int)>(b:Int))=decide (b<a):=fun a b=>by congr 1;exact propext (by omega)
   unfold bI
   rw[if_neg (by rw[q1];simp)]
   refine⟨fun h1=> ?_,fun h1=>⟨fun h2=> ?_,fun h2=>⟨fun h3=> ?_,fun h3=> ?_⟩⟩⟩<;>simp only[decide_eq_true_eq,decide_eq_false_iff_not] at *
   · rw[if_pos (by omega)];rfl
   · rw[if_pos (by omega)];rfl
   · rw[if_pos (by omega)];rfl
   · rw[if_neg (by omega)];rfl
 · have hd:aB Tryd.prog env 72 [.vy 0,.mp 1 0] _ (.aO []) _:=ak names (wV l) ho
   refine ak names (AF l t k m) ⟨hd,?_⟩
   rw[oP] at q1
   unfold bI
   rw[if_pos q1];rfl
end Go.Proofs.YtddfgnmjecogdaaDoor.N
end
section
namespace Go.Proofs.YtddfgnmjecogdaaDoor.N
open Go Go.Am
def AG:bA:=⟨82,[.p (.sc (.string ⟨#[101,113,122,32,101,113,32,110,101,32,108,116,95,115,32,108,116,95,117,32,103,116,95,115,32,103,116,95,117,32,108,101,95,115,32,108,101,95,117,32,103,101,95,115,32,103,101,95,117]⟩))],[],.p (.ps 11 1 [.sc (.string ⟨#[101,113,122]⟩),.sc (.string ⟨#[101,113]⟩),.sc (.string ⟨#[110,101]⟩),.sc (.string ⟨#[108,116,95,115]⟩),.sc (.string ⟨#[108,116,95,117]⟩),.sc (.string ⟨#[103,116,95,115]⟩),.sc (.string ⟨#[103,116,95,117]⟩),.sc (.string ⟨#[108,101,95,115]⟩),.sc (.string ⟨#[108,101,95,117]⟩),.sc (.string ⟨#[103,101,95,115]⟩),.sc (.string ⟨#[103,101,95,117]⟩)]),[]⟩
theorem KH:aB Tryd.prog env AG.g AG.args AG.m AG.v AG.m':=cX names (K:=[]) hY (n:=10000000) (by kernel_rfl)
def Gb:List bA:=AG::[]
theorem Cs:dK Tryd.prog env Gb:=ej KH hY
def AH:bA:=⟨82,[.p (.sc (.string ⟨#[99,108,122,32,99,116,122,32,112,111,112,99,110,116,32,97,100,100,32,115,117,98,32,109,117,108,32,100,105,118,95,115,32,100,105,118,95,117,32,114,101,109,95,115,32,114,101,109,95,117,32,97,110,100,32,111,114,32,120,111,114,32,115,104,108,32,115,104,114,95,115,32,115,104,114,95,117,32,114,111,116,108,32,114,111,116,114]⟩))],[],.p (.ps 18 1 [.sc (.string ⟨#[99,108,122]⟩),.sc (.string ⟨#[99,116,122]⟩),.sc (.string ⟨#[112,111,112,99,110,116]⟩),.sc (.string ⟨#[97,100,100]⟩),.sc (.string ⟨#[115,117,98]⟩),.sc (.string ⟨#[109,117,108]⟩),.sc (.string ⟨#[100,105,118,95,115]⟩),.sc (.string ⟨#[100,105,118,95,117]⟩),.sc (.string ⟨#[114,101,109,95,115]⟩),.sc (.string ⟨#[114,101,109,95,117]⟩),.sc (.string ⟨#[97,110,100]⟩),.sc (.string ⟨#[111,114]⟩),.sc (.string ⟨#[120,111,114]⟩),.sc (.string ⟨#[115,104,108]⟩),.sc (.string ⟨#[115,104,114,95,115]⟩),.sc (.string ⟨#[115,104,114,95,117]⟩),.sc (.string ⟨#[114,111,116,108]⟩),.sc (.string ⟨#[114,111,116,114]⟩)]),[]⟩
theorem KI:aB Tryd.prog env AH.g AH.args AH.m AH.v AH.m':=cX names (K:=Gb) Cs (n:=10000000) (by kernel_rfl)
def IE:List bA:=AH::Gb
theorem Gc:dK Tryd.prog env IE:=ej KI Cs
def Ct:List ByteArray:=[⟨#[117,110,114,101,97,99,104,97,98,108,101]⟩,⟨#[110,111,112]⟩,⟨#[98,108,111,99,107]⟩,⟨#[108,111,111,112]⟩,⟨#[105,102]⟩,⟨#[]⟩,⟨#[]⟩,⟨#[]⟩,⟨#[]⟩,⟨#[]⟩,⟨#[]⟩,⟨#[]⟩,⟨#[98,114]⟩,⟨#[98,114,95,105,102]⟩,⟨#[98,114,95,116,97,98,108,101]⟩,⟨#[114,101,116,117,114,110]⟩,⟨#[99,97,108,108]⟩,⟨#[99,97,108,108,95,105,110,100,105,114,101,99,116]⟩,⟨#[]⟩,⟨#[]⟩,⟨#[]⟩,⟨#[]⟩,⟨#[]⟩,⟨#[]⟩,⟨#[]⟩,⟨#[]⟩,⟨#[100,114,111,112]⟩,⟨#[115,101,108,101,99,116]⟩,⟨#[]⟩,⟨#[]⟩,⟨#[]⟩,⟨#[]⟩,⟨#[108,111,99,97,108,46,103,101,116]⟩,⟨#[108,111,99,97,108,46,115,101,116]⟩,⟨#[108,111,99,97,108,46,116,101,101]⟩,⟨#[103,108,111,98,97,108,46,103,101,116]⟩,⟨#[103,108,111,98,97,108,46,115,101,116]⟩,⟨#[]⟩,⟨#[]⟩,⟨#[]⟩,⟨#[105,51,50,46,108,111,97,100]⟩,⟨#[]⟩,⟨#[]⟩,⟨#[]⟩,⟨#[105,51,50,46,108,111,97,100,56,95,115]⟩,⟨#[105,51,50,46,108,111,97,100,56,95,117]⟩,⟨#[105,51,50,46,108,111,97,100,49,54,95,115]⟩,⟨#[105,51,50,46,108,111,97,100,49,54,95,117]⟩,⟨#[]⟩,⟨#[]⟩,⟨#[]⟩,⟨#[]⟩,⟨#[]⟩,⟨#[]⟩,⟨#[105,51,50,46,115,116,111,114,101]⟩,⟨#[]⟩,⟨#[]⟩,⟨#[]⟩,⟨#[105,51,50,46,115,116,111,114,101,56]⟩,⟨#[105,51,50,46,115,116,111,114,101,49,54]⟩,⟨#[]⟩,⟨#[]⟩,⟨#[]⟩,⟨#[109,101,109,111,114,121,46,115,105,122,101]⟩,⟨#[109,101,109,111,114,121,46,103,114,111,119]⟩,⟨#[105,51,50,46,99,111,110,115,116]⟩,⟨#[]⟩,⟨#[]⟩,⟨#[]⟩,⟨#[105,51,50,46,101,113,122]⟩,⟨#[105,51,50,46,101,113]⟩,⟨#[105,51,50,46,110,101]⟩,⟨#[105,51,50,46,108,116,95,115]⟩,⟨#[105,51,50,46,108,116,95,117]⟩,⟨#[105,51,50,46,103,116,95,115]⟩,⟨#[105,51,50,46,103,116,95,117]⟩,⟨#[105,51,50,46,108,101,95,115]⟩,⟨#[105,51,50,46,108,101,95,117]⟩,⟨#[105,51,50,46,103,101,95,115]⟩,⟨#[105,51,50,46,103,101,95,117]⟩,⟨#[]⟩,⟨#[]⟩,⟨#[]⟩,⟨#[]⟩,⟨#[]⟩,⟨#[]⟩,⟨#[]⟩,⟨#[]⟩,⟨#[]⟩,⟨#[]⟩,⟨#[]⟩,⟨#[]⟩,⟨#[]⟩,⟨#[]⟩,⟨#[]⟩,⟨#[]⟩,⟨#[]⟩,⟨#[]⟩,⟨#[]⟩,⟨#[]⟩,⟨#[]⟩,⟨#[]⟩,⟨#[]⟩,⟨#[105,51,50,46,99,108,122]⟩,⟨#[105,51,50,46,99,116,122]⟩,⟨#[105,51,50,46,112,111,112,99,110,116]⟩,⟨#[105,51,50,46,97,100,100]⟩,⟨#[105,51,50,46,115,117,98]⟩,⟨#[105,51,50,46,109,117,108]⟩,⟨#[105,51,50,46,100,105,118,95,115]⟩,⟨#[105,51,50,46,100,105,118,95,117]⟩,⟨#[105,51,50,46,114,101,109,95,115]⟩,⟨#[105,51,50,46,114,101,109,95,117]⟩,⟨#[105,51,50,46,97,110,100]⟩,⟨#[105,51,50,46,111,114]⟩,⟨#[105,51,50,46,120,111,114]⟩,⟨#[105,51,50,46,115,104,108]⟩,⟨#[105,51,50,46,115,104,114,95,115]⟩,⟨#[105,51,50,46,115,104,114,95,117]⟩,⟨#[105,51,50,46,114,111,116,108]⟩,⟨#[105,51,50,46,114,111,116,114]⟩,⟨#[]⟩,⟨#[]⟩,⟨#[]⟩,⟨#[]⟩,⟨#[]⟩,⟨#[]⟩,⟨#[]⟩,⟨#[]⟩,⟨#[]⟩,⟨#[]⟩,⟨#[]⟩,⟨#[]⟩,⟨#[]⟩,⟨#[]⟩,⟨#[]⟩,⟨#[]⟩,⟨#[]⟩,⟨#[]⟩,⟨#[]⟩,⟨#[]⟩,⟨#[]⟩,⟨#[]⟩,⟨#[]⟩,⟨#[]⟩,⟨#[]⟩,⟨#[]⟩,⟨#[]⟩,⟨#[]⟩,⟨#[]⟩,⟨#[]⟩,⟨#[]⟩,⟨#[]⟩,⟨#[]⟩,⟨#[]⟩,⟨#[]⟩,⟨#[]⟩,⟨#[]⟩,⟨#[]⟩,⟨#[]⟩,⟨#[]⟩,⟨#[]⟩,⟨#[]⟩,⟨#[]⟩,⟨#[]⟩,⟨#[]⟩,⟨#[]⟩,⟨#[]⟩,⟨#[]⟩,⟨#[]⟩,⟨#[]⟩,⟨#[]⟩,⟨#[]⟩,⟨#[]⟩,⟨#[]⟩,⟨#[]⟩,⟨#[]⟩,⟨#[]⟩,⟨#[]⟩,⟨#[]⟩,⟨#[]⟩,⟨#[]⟩,⟨#[]⟩,⟨#[]⟩,⟨#[]⟩,⟨#[]⟩,⟨#[]⟩,⟨#[]⟩,⟨#[]⟩,⟨#[]⟩,⟨#[]⟩,⟨#[]⟩,⟨#[]⟩,⟨#[]⟩,⟨#[]⟩,⟨#[]⟩,⟨#[]⟩,⟨#[]⟩,⟨#[]⟩,⟨#[]⟩,⟨#[]⟩,⟨#[]⟩,⟨#[]⟩,⟨#[]⟩,⟨#[]⟩,⟨#[]⟩,⟨#[]⟩,⟨#[]⟩,⟨#[]⟩,⟨#[]⟩,⟨#[]⟩,⟨#[]⟩,⟨#[]⟩,⟨#[]⟩,⟨#[]⟩,⟨#[]⟩,⟨#[]⟩,⟨#[]⟩,⟨#[]⟩,⟨#[]⟩,⟨#[]⟩,⟨#[]⟩,⟨#[]⟩,⟨#[]⟩,⟨#[]⟩,⟨#[]⟩,⟨#[]⟩,⟨#[]⟩,⟨#[]⟩,⟨#[]⟩,⟨#[]⟩,⟨#[]⟩,⟨#[]⟩,⟨#[]⟩,⟨#[]⟩,⟨#[]⟩,⟨#[]⟩,⟨#[]⟩,⟨#[]⟩,⟨#[]⟩,⟨#[]⟩,⟨#[]⟩,⟨#[]⟩,⟨#[]⟩,⟨#[]⟩,⟨#[]⟩,⟨#[]⟩,⟨#[]⟩,⟨#[]⟩,⟨#[]⟩,⟨#[]⟩,⟨#[]⟩,⟨#[]⟩,⟨#[]⟩,⟨#[]⟩,⟨#[]⟩]
theorem Gd:aB Tryd.prog env 63 [] [] (.agg (Ct.map fun s=> .p (.sc (.string s)))) []:=cX names (K:=IE) Gc (n:=10000000) (by kernel_rfl)
end Go.Proofs.YtddfgnmjecogdaaDoor.N
end
