/-
Lists of instructions: what a row's data says of them, as pure values. (For any program with such a type.)
Lists of numbers and of instructions in cells: what stands at a place; how many parts there are.
The door: the environment (the library's tables), the names.
Lists of instructions: how many there are, how deep they stand, what holds of all of them; the same of stacks of such lists.
instr.Check: the going through of instructions, by its trees (printed by a program of mine): the outer loop, its end, the inner loop.
instr.Deep: the going through of instructions, by its trees (printed by a program of mine): the outer loop, its end, the inner loop.
instr.Check, instr.Count, instr.Deep: what they tell, of any instructions.
One instruction's data, as a pure value.
A struct of two cells that is handed in, as pure values.
Lists of instructions: induction by what stands in the lists; functions of a list's cells.
-/
import Derived.Test.YtdmmllcjgjmbbaaGreatDoorMG
import Derived.Test.YtdmmllcjgjmbbaaGreatDoorChecked
import Derived.Test.YtdmmllcjgjmbbaaGreatDoorMF
import GoSem.PinnedTables
section
namespace Go.Am
open Go.RowKit
inductive Ins where
 |mk (op results a b n:Int) (tags:List Int) (l e:List Ins)
namespace Ins
def op:Ins→Int | .mk op _ _ _ _ _ _ _=>op
def results:Ins→Int | .mk _ r _ _ _ _ _ _=>r
def a:Ins→Int | .mk _ _ a _ _ _ _ _=>a
def b:Ins→Int | .mk _ _ _ b _ _ _ _=>b
def n:Ins→Int | .mk _ _ _ _ n _ _ _=>n
def tags:Ins→List Int | .mk _ _ _ _ _ t _ _=>t
def l:Ins→List Ins | .mk _ _ _ _ _ _ l _=>l
def e:Ins→List Ins | .mk _ _ _ _ _ _ _ e=>e
end Ins
def eK (k:IntKind) (l:List Int):List PV:=l.map fun t=> .sc (.int k t)
mutual
def qe:Ins→List PV
 |.mk op r a b n tags l e=>[.sc (.int .i64 op),.sc (.int .i64 r),.sc (.int .u32 a),.sc (.int .u32 b),.sc (.int .i32 n),.ps tags.length 1 (eK .u32 tags),.ps l.length 8 (ak l),.ps e.length 8 (ak e)]
def ak:List Ins→List PV
 |[]=>[]
 |x::r=>qe x++ak r
end
mutual
def W2:Ins→Prop
 |.mk op r a b n tags l e=>(Lit.int .i64 op).wf=true∧(Lit.int .i64 r).wf=true∧(Lit.int .u32 a).wf=true∧(Lit.int .u32 b).wf=true∧(Lit.int .i32 n).wf=true∧(tags.length≤maxLen ∧ ∀t∈tags,(Lit.int .u32 t).wf=true)∧(l.length≤maxLen∧QN l)∧e.length≤maxLen∧QN e
def QN:List Ins→Prop
 |[]=>True
 |x::r=>W2 x∧QN r
end
theorem xI : ∀l:List Ins,ak l=l.flatMap qe
 |[]=>rfl
 |x::r=>by rw[ak,xI r];rfl
theorem E2 : ∀{l:List Ins},(∀x∈l,W2 x)→QN l
 |[],_=>trivial
 |x::_,h=>⟨h x (.head _),E2 fun y hy=>h y (.tail _ hy)⟩
theorem gE : ∀x:Ins,(qe x).length=8
 |.mk .. =>rfl
structure RO (P:Program) (tL tI ti tu tn tt:TypeId) (fs:Array Field):Prop where
 hL:P.underlying tL=some (.slice tI)
 hI:P.underlying tI=some (.struct fs)
 hz:P.cellsOf tI=8
 hf:fs.toList.map (fun f=>(f.offset,f.type))=[(0,ti),(1,ti),(2,tu),(3,tu),(4,tn),(5,tt),(6,tL),(7,tL)]
 h1:P.cellsOf ti=1∧P.cellsOf tu=1∧P.cellsOf tn=1∧P.cellsOf tt=1∧P.cellsOf tL=1
 ki:P.underlying ti=some (.int .i64)
 ku:P.underlying tu=some (.int .u32)
 kn:P.underlying tn=some (.int .i32)
 kt:P.underlying tt=some (.slice tu)
section
variable {H:Type} {enc:TypeId×Value→H} {P:Program} {w:World} {base:Nat} {spare:Nat→Bool} {held:Bool} {tL tI ti tu tn tt:TypeId} {fs:Array Field}
theorem RP {i:Nat} {o t:Nat} (hf:(fs.toList.map fun f=>(f.offset,f.type))[i]? = some (o,t)) : ∃f,fs[i]? = some f∧f.offset=o∧f.type=t:=by
 rw[List.getElem?_map] at hf
 cases h:fs.toList[i]? with
 |none=>rw[h] at hf;cases hf
 |some f=>
  rw[h] at hf
  simp only[Option.map_some,Option.some.injEq,Prod.mk.injEq] at hf
  exact⟨f,by simpa using h,hf.1,hf.2⟩
theorem bC.cat {w:World} {x:PV} {l:List PV} {v:Value} {cs:List Value} (h:bC w [x] [v]) (k:bC w l cs):bC w (x::l) (v::cs):=h.append k
theorem BO (T:RO P tL tI ti tu tn tt fs) : ∀(fuel:Nat) (cs:List Value) (x:DataW H×List MemPlace),DataW.trod enc P w base spare held fuel tL cs=some x →
  ∃l:List Ins,(l.length≤maxLen∧QN l)∧bC w [.ps l.length 8 (ak l)] cs:=by
 intro fuel
 induction fuel using Nat.strongRecOn with
 |ind fuel ih=>
  intro cs x h
  obtain⟨xs,h0,h1,h2⟩:=iJ (ke:=qe) (wf:=W2) T.hL (by rw[T.hz];omega) h fun n hn us y hy=>by
   obtain⟨m,rfl,hlen,hg⟩:=gN T.hI hy
   rw[T.hz] at hlen
   have get : ∀(i:Nat) (o t:Nat),[(0,ti),(1,ti),(2,tu),(3,tu),(4,tn),(5,tt),(6,tL),(7,tL)][i]? = some (o,t)→P.cellsOf t=1 → ∃y,DataW.trod enc P w base spare held m t ((us.drop o).take 1)=some y:=by
    intro i o t hi hc
    obtain⟨f,q1,q2,q3⟩:=RP (fs:=fs) (i:=i) (by rw[T.hf];exact hi)
    obtain⟨y,hy⟩:=hg i f q1
    rw[q2,q3,hc] at hy
    exact⟨y,hy⟩
   obtain⟨c1,c2,c3,c4,c5⟩:=T.h1
   obtain⟨y0,e0⟩:=get 0 0 ti rfl c1
   obtain⟨y1,e1⟩:=get 1 1 ti rfl c1
   obtain⟨y2,e2⟩:=get 2 2 tu rfl c2
   obtain⟨y3,e3⟩:=get 3 3 tu rfl c2
   obtain⟨y4,e4⟩:=get 4 4 tn rfl c3
   obtain⟨y5,e5⟩:=get 5 5 tt rfl c4
   obtain⟨y6,e6⟩:=get 6 6 tL rfl c5
   obtain⟨y7,e7⟩:=get 7 7 tL rfl c5
   match us,hlen with
   |[u0,u1,u2,u3,u4,u5,u6,u7],_=>
    simp only[List.drop_zero,List.drop_succ_cons,List.take_succ_cons,List.take_zero] at e0 e1 e2 e3 e4 e5 e6 e7
    obtain⟨n0,w0,k0⟩:=bD T.ki e0
    obtain⟨n1,w1,k1⟩:=bD T.ki e1
    obtain⟨n2,w2,k2⟩:=bD T.ku e2
    obtain⟨n3,w3,k3⟩:=bD T.ku e3
    obtain⟨n4,w4,k4⟩:=bD T.kn e4
    obtain⟨n5,w5,w5',k5⟩:=m7 T.kt T.ku c2 e5
    obtain⟨n6,w6,k6⟩:=ih m (by omega) _ _ e6
    obtain⟨n7,w7,k7⟩:=ih m (by omega) _ _ e7
    exact⟨.mk n0 n1 n2 n3 n4 n5 n6 n7,⟨w0,w1,w2,w3,w4,⟨w5,w5'⟩,w6,w7⟩,k0.cat (k1.cat (k2.cat (k3.cat (k4.cat (k5.cat (k6.cat k7))))))⟩
  refine⟨xs,⟨h0,E2 h1⟩,?_⟩
  rw[T.hz,←xI] at h2
  exact h2
end
end Go.Am
end
section
namespace Go.Am
theorem qg (k:IntKind) (l:List Int) (n:Nat) (h:n<l.length):(eK k l).getD n .bad = .sc (.int k (l.getD n 0)):=by
 simp[eK,List.getD_eq_getElem?_getD,List.getElem?_eq_getElem h]
theorem BP (k:IntKind) (l:List Int) (n:Nat) (h:l.length≤n):(eK k l).getD n .bad = .bad:=by
 simp[eK,List.getD_eq_getElem?_getD,List.getElem?_eq_none h]
@[simp] theorem RQ (k:IntKind) (l:List Int) (n:Nat):au ((eK k l).getD n .bad)=l.getD n 0:=by
  rcases Nat.lt_or_ge n l.length with h | h
  · rw[qg k l n h];rfl
  · rw[BP k l n h]
    simp[List.getD_eq_getElem?_getD,List.getElem?_eq_none h]
    rfl
@[simp] theorem RR (k:IntKind) (l:List Int) (n:Nat):isInt k ((eK k l).getD n .bad)=decide (n<l.length):=by
  rcases Nat.lt_or_ge n l.length with h | h
  · rw[qg k l n h];simp[isInt,h]
  · rw[BP k l n h];simp[isInt];omega
theorem BQ {k:IntKind} : ∀{l m:List Int},eK k l=eK k m→l=m
 |[],[],_=>rfl
 |[],_::_,h=>by simp[eK] at h
 |_::_,[],h=>by simp[eK] at h
 |a::l,b::m,h=>by
  simp only[eK,List.map_cons,List.cons.injEq,PV.sc.injEq,Value.int.injEq,true_and] at h
  rw[h.1,BQ (l:=l) (m:=m) h.2]
mutual
theorem Jz : ∀{x y:Ins},qe x=qe y→x=y
 |.mk op r a b n tags l e,.mk op' r' a' b' n' tags' l' e',h=>by
  simp only[qe,List.cons.injEq,PV.sc.injEq,Value.int.injEq,PV.ps.injEq,true_and,and_true] at h
  obtain⟨rfl,rfl,rfl,rfl,rfl,⟨_,h5⟩,⟨_,h6⟩,_,h7⟩:=h
  rw[BQ h5,jI h6,jI h7]
theorem jI : ∀{l m:List Ins},ak l=ak m→l=m
 |[],[],_=>rfl
 |[],.mk .. :: _,h=>by simp[ak,qe] at h
 |.mk .. :: _,[],h=>by simp[ak,qe] at h
 |x::l,y::m,h=>by
  simp only[ak] at h
  obtain⟨h1,h2⟩:=List.append_inj h (by rw[gE,gE])
  rw[Jz h1,jI h2]
end
theorem qh : ∀{l:List Ins} {k:Nat} {x:Ins},l[k]? = some x → ∀c,c<8→(ak l).getD (k*8+c) .bad=(qe x).getD c .bad
 |[],_,_,h,_,_=>by simp at h
 |y::l,0,x,h,c,hc=>by
  simp only[List.getElem?_cons_zero,Option.some.injEq] at h;subst h
  rw[ak,Nat.zero_mul,Nat.zero_add,List.getD_eq_getElem?_getD,List.getD_eq_getElem?_getD,List.getElem?_append_left (by rw[gE];exact hc)]
 |y::l,k+1,x,h,c,hc=>by
  have ih:=qh (l:=l) (k:=k) (x:=x) (by simpa using h) c hc
  rw[List.getD_eq_getElem?_getD] at ih
  rw[ak,List.getD_eq_getElem?_getD,List.getElem?_append_right (by rw[gE];omega),gE,show(k+1)*8+c-8=k*8+c by omega]
  exact ih
theorem qO : ∀l m:List Ins,ak (l++m)=ak l++ak m
 |[],_=>rfl
 |x::l,m=>by rw[List.cons_append,ak,ak,qO l m,List.append_assoc]
theorem JA (x:Ins):ak [x]=qe x:=by simp[ak]
theorem E3 : ∀{l:List Ins} {x:Ins},QN l→x∈l→W2 x
 |_::_,_,h,.head _=>h.1
 |_::_,_,h,.tail _ hx=>E3 h.2 hx
mutual
def nF:Ins→Nat
 |.mk _ _ _ _ _ tags l e=>1+tags.length+dU l+dU e
def dU:List Ins→Nat
 |[]=>0
 |x::r=>nF x+dU r
end
theorem lU : ∀l:List Ins,l.length≤dU l
 |[]=>Nat.zero_le _
 |.mk _ _ _ _ _ t l e::r=>by have:=lU r;simp only[dU,nF,List.length_cons];omega
theorem iL : ∀{l:List Ins} {x:Ins},x∈l→nF x≤dU l
 |y::l,x,h=>by
  simp only[dU]
  cases h with
  |head=>omega
  |tail _ h=>have:=iL h;omega
mutual
def bZ:List Ins→Int→Int→Int
 |[],_,n=>n
 |x::r,most,n=>if n≤most then bZ r most (uc x most n) else n
def uc:Ins→Int→Int→Int
 |.mk _ _ _ _ _ tags l e,most,n=>
  let n1:=n+1+min (tags.length:Int) most
  let n2:=if n1≤most then n1+bZ l (most-n1) 0 else n1
  if n2≤most then n2+bZ e (most-n2) 0 else n2
end
mutual
theorem ud : ∀(x:Ins) (most n:Int),0≤n→n≤most→n≤uc x most n∧uc x most n≤2*most+1
 |.mk _ _ _ _ _ tags l e,most,n,h0,h=>by
  simp only[uc]
  generalize hn1:n+1+min (tags.length:Int) most=n1
  have h1:n+1≤n1∧n1≤2*most+1:=by omega
  generalize hn2:(if n1≤most then n1+bZ l (most-n1) 0 else n1)=n2
  have h2:n1≤n2∧n2≤2*most+1:=by
   rw[←hn2]
   split
   · have:=bO l (most-n1) 0 (by omega) (by omega) (by omega);omega
   · omega
  split
  · have:=bO e (most-n2) 0 (by omega) (by omega) (by omega);omega
  · omega
theorem bO : ∀(l:List Ins) (most n:Int),0≤most→0≤n→n≤2*most+1→n≤bZ l most n∧bZ l most n≤2*most+1
 |[],most,n,_,_,h=>by simp only[bZ];omega
 |x::r,most,n,hm,h0,h=>by
  simp only[bZ]
  split
  · have h1:=ud x most n h0 (by omega)
    have h2:=bO r most (uc x most n) hm (by omega) (by omega)
    omega
  · omega
end
mutual
theorem JB : ∀(x:Ins) (most n:Int),0≤n→n≤most→uc x most n≤most→uc x most n=n+nF x
 |.mk _ _ _ _ _ tags l e,most,n,h0,h=>by
  simp only[uc,nF]
  generalize hn1:n+1+min (tags.length:Int) most=n1
  generalize hn2:(if n1≤most then n1+bZ l (most-n1) 0 else n1)=n2
  intro h3
  have hle:n2≤most:=by
   split at h3
   · rename_i q;exact q
   · exact h3
  rw[if_pos hle] at h3 ⊢
  have V5:=bO e (most-n2) 0 (by omega) (by omega) (by omega)
  have aaj:n1≤most:=by
   rw[←hn2] at hle
   split at hle
   · rename_i q;exact q
   · exact hle
  rw[if_pos aaj] at hn2
  have Wq:=bO l (most-n1) 0 (by omega) (by omega) (by omega)
  have e1:=lV l (most-n1) 0 (by omega) (by omega) (by omega)
  have e2:=lV e (most-n2) 0 (by omega) (by omega) (by omega)
  have:min (tags.length:Int) most=tags.length:=by omega
  push_cast
  omega
theorem lV : ∀(l:List Ins) (most n:Int),0≤most→0≤n→bZ l most n≤most→bZ l most n=n+dU l
 |[],most,n,_,_,h=>by simp[bZ,dU]
 |x::r,most,n,hm,h0,h=>by
  simp only[bZ,dU] at h ⊢
  split at h
  · rename_i hn
    rw[if_pos hn]
    have hr:=ud x most n h0 hn
    have V5:=bO r most (uc x most n) hm (by omega) (by omega)
    have e1:=JB x most n h0 hn (by omega)
    have e2:=lV r most (uc x most n) hm (by omega) h
    push_cast
    omega
  · omega
end
end Go.Am
end
section
namespace Go.Proofs.YtdmmllcjgjmbbaaGreatDoor.N
open Go Go.Am
def JC:List Int:=[0,0,0,0,0,0,0,0,0,1,1,1,1,1,0,0,0,0,0,0,0,0,0,0,0,0,0,0,0,0,0,0,1]++List.replicate 223 0
def gb:List Int:=Pinned.utf8FirstZ.map fun(n:Nat)=>(n:Int)
def W3:List Int:=[128,191,160,191,128,159,144,191,128,143,0,0,0,0,0,0,0,0,0,0,0,0,0,0,0,0,0,0,0,0,0,0]
def tabs:List (Nat×List Value):=[(2,JC.map (.int .u8)),(0,gb.map (.int .u8)),(1,W3.map (.int .u8))]
def keeps:List (Nat×Nat×List Nat):=[(6,2,[1,2,5,6]),(6,6,[1,2,5,7]),(6,10,[1,2,5,8]),(6,14,[1,2,5,9]),(6,18,[1,2,5,10]),(6,22,[1,2,5,11]),(7,0,[1,2,3,4]),(7,4,[1,2,3,6]),(7,8,[1,2,3,7]),(7,12,[1,2,3,8]),(11,0,[1,2,3,8]),(12,0,[1,6,7,8]),(14,0,[3,7,8,9]),(15,0,[1,3,4]),(15,4,[1,3,5]),(15,8,[1,3,6]),(15,12,[1,3,7]),(16,2,[2,3,5]),(16,8,[2,3,6]),(16,14,[2,3,7]),(20,2,[1,2,4]),(23,0,[0,1,5,6]),(24,0,[0,3,4]),(25,0,[0,1,7,8]),(28,0,[1,3,7,8,9]),(30,2,[1,3]),(30,8,[1,4,5]),(31,0,[1,3,4]),(31,6,[1,5,6]),(32,0,[1,3]),(32,6,[1,4]),(32,12,[1,5]),(33,0,[1,3,4]),(33,6,[1,5]),(33,12,[1,6]),(33,18,[1,7]),(34,0,[1,3,13,14,15]),(34,4,[1,3,27,28,29]),(34,8,[1,3,40,41,42]),(34,12,[3,53,54,55]),(36,0,[0,3,4]),(38,0,[2,3,5]),(38,6,[2,3,6]),(38,12,[2,3,7]),(38,18,[2,3,8]),(38,24,[2,3,9]),(38,30,[2,3,10]),(44,0,[1,2,3]),(44,6,[1,2,4]),(44,12,[1,2,5]),(45,0,[1,2,3]),(45,6,[1,2,3,4]),(46,0,[1,2,3]),(46,8,[1,2,3,6]),(47,0,[1,2,3]),(47,6,[1,2,6]),(51,2,[0,3,4]),(54,0,[1,8,9,10]),(56,0,[1,3,9,10,11]),(56,4,[3,24,25,26]),(67,0,[3,11]),(74,0,[1,2,5]),(74,6,[1,2,6]),(74,12,[1,2,7]),(74,18,[1,2,8]),(75,0,[1,3,4]),(75,4,[1,3,5]),(80,2,[0,1,5]),(81,2,[0,1,5]),(84,0,[0,6,7,8]),(86,0,[0,1,3,4,10,11,12]),(90,0,[0,2,6,10,11]),(98,4,[3,22,23,24]),(105,0,[0,1,7,8]),(107,0,[0,1,7,8]),(108,0,[0,1,7,8]),(109,0,[0,1,7,8]),(110,0,[0,1,7,8]),(112,0,[0,1,7,8]),(114,0,[0,3,4,5]),(115,0,[0,3]),(115,4,[0,3,4,25,26,27]),(127,2,[0,1,7,8,10]),(133,0,[0,2,4,6,13,14,15]),(133,4,[0,2,9,32,33,34]),(141,6,[0,3,5,6,8,11]),(141,10,[0,3,5,6,8,12,13]),(145,0,[0,3]),(146,0,[0,3,4]),(147,0,[0,3]),(164,2,[1,3,28,29,30]),(170,0,[0,1,10,11,12]),(170,4,[0,1,24,25,26])]
def wrs (f d:Nat):Bool:=(Nat.beq f 115&&Nat.beq d 9)||(Nat.beq f 165&&Nat.beq d 5)||(Nat.beq f 83&&Nat.beq d 13)
def env:Env where
 dj:=tX tabs
 wr:=wrs
 keep:=Jv keeps
theorem names:eZ Tryz.prog:=Dx (by kernel_rfl)
end Go.Proofs.YtdmmllcjgjmbbaaGreatDoor.N
end
section
namespace Go.Am
mutual
def Zo (p:Ins→Bool):Ins→Bool
 |.mk op r a b n tags l e=>p (.mk op r a b n tags l e)&&(xJ p l&&xJ p e)
def xJ (p:Ins→Bool):List Ins→Bool
 |[]=>true
 |x::r=>Zo p x&&xJ p r
end
mutual
def kN:Ins→Nat
 |.mk _ _ _ _ _ _ l e=>1+aU l+aU e
def aU:List Ins→Nat
 |[]=>0
 |x::r=>kN x+aU r
end
mutual
def Aj:Nat→Ins→Nat
 |d,.mk _ _ _ _ _ _ l e=>max d (max (cq (d+1) l) (cq (d+1) e))
def cq:Nat→List Ins→Nat
 |_,[]=>0
 |d,x::r=>max (Aj d x) (cq d r)
end
mutual
def JD:Ins→Nat
 |.mk _ _ _ _ _ tags l e=>max tags.length (max (gd l) (gd e))
def gd:List Ins→Nat
 |[]=>0
 |x::r=>max (JD x) (gd r)
end
theorem dM : ∀l:List Ins,l.length≤aU l
 |[]=>Nat.zero_le _
 |.mk _ _ _ _ _ t l e::r=>by have:=dM r;simp only[aU,kN,List.length_cons];omega
mutual
theorem JE : ∀x:Ins,kN x≤nF x
 |.mk _ _ _ _ _ t l e=>by have:=oK l;have:=oK e;simp only[kN,nF];omega
theorem oK : ∀l:List Ins,aU l≤dU l
 |[]=>Nat.zero_le _
 |x::r=>by have:=JE x;have:=oK r;simp only[aU,dU];omega
end
mutual
theorem JF : ∀x:Ins,JD x≤nF x
 |.mk _ _ _ _ _ t l e=>by have:=ue l;have:=ue e;simp only[JD,nF];omega
theorem ue : ∀l:List Ins,gd l≤dU l
 |[]=>Nat.zero_le _
 |x::r=>by have:=JF x;have:=ue r;simp only[gd,dU];omega
end
mutual
theorem JG : ∀(d:Nat) (x:Ins),Aj d x≤d+kN x
 |d,.mk _ _ _ _ _ t l e=>by have:=lW (d+1) l;have:=lW (d+1) e;simp only[Aj,kN];omega
theorem lW : ∀(d:Nat) (l:List Ins),cq d l≤d+aU l
 |_,[]=>Nat.zero_le _
 |d,x::r=>by have:=JG d x;have:=lW d r;simp only[cq,aU];omega
end
mutual
theorem DC : ∀(d:Nat) (x:Ins),Aj (d+1) x=Aj d x+1
 |d,.mk _ _ _ _ _ t l e=>by
  have h1:=kf (d+1) l
  have h2:=kf (d+1) e
  simp only[Aj]
  cases l with
  |nil=>cases e with
   |nil=>simp[cq]
   |cons y e=>rw[h2 (by simp)];simp only[cq];omega
  |cons x l=>cases e with
   |nil=>rw[h1 (by simp)];simp only[cq];omega
   |cons y e=>rw[h1 (by simp),h2 (by simp)];omega
theorem kf : ∀(d:Nat) (l:List Ins),l≠[]→cq (d+1) l=cq d l+1
 |_,[],h=>absurd rfl h
 |d,x::r,_=>by
  have h1:=DC d x
  cases r with
  |nil=>simp only[cq,h1];omega
  |cons y r=>rw[cq,kf d (y::r) (by simp),h1,cq.eq_2 d x];omega
end
abbrev aL (l:List Ins):AV:= .p (.ps l.length 8 (ak l))
def rD (op r a b nn:Int) (tg:List Int) (ll le:List Ins):AV:= .agg [sI .i64 op,sI .i64 r,sI .u32 a,sI .u32 b,sI .i32 nn,.p (.ps tg.length 1 (eK .u32 tg)),aL ll,aL le]
def GG:Ins→AV
 |.mk op r a b nn tg ll le=>rD op r a b nn tg ll le
theorem JH {l m:List Ins} (h:aL l=aL m):l=m:=by
 simp only[AV.p.injEq,PV.ps.injEq] at h
 exact jI h.2.2
theorem fP {l:List Ins} {k:Nat} {op rs a b nn:Int} {tags:List Int} {ll le:List Ins} (h:l[k]? = some (.mk op rs a b nn tags ll le)) :
  (ak l).getD (k*8) .bad = .sc (.int .i64 op)∧(ak l).getD (k*8+1) .bad = .sc (.int .i64 rs)∧(ak l).getD (k*8+2) .bad = .sc (.int .u32 a)∧(ak l).getD (k*8+3) .bad = .sc (.int .u32 b) ∧
    (ak l).getD (k*8+4) .bad = .sc (.int .i32 nn)∧(ak l).getD (k*8+5) .bad = .ps tags.length 1 (eK .u32 tags)∧(ak l).getD (k*8+6) .bad = .ps ll.length 8 (ak ll)∧(ak l).getD (k*8+7) .bad = .ps le.length 8 (ak le):=
 have hc:=qh h
 ⟨hc 0 (by omega),hc 1 (by omega),hc 2 (by omega),hc 3 (by omega),hc 4 (by omega),hc 5 (by omega),hc 6 (by omega),hc 7 (by omega)⟩
abbrev fA:=List (List Ins×Nat)
def cS (st:fA):List PV:=st.flatMap fun e=>[.ps e.1.length 8 (ak e.1),.sc (.int .i64 e.2)]
def JI (p:Ins→Bool) (st:fA):Bool:=st.all fun e=>xJ p e.1
def fB (st:fA):Nat:=(st.map fun e=>aU e.1).sum
def oL (st:fA):Nat:=(st.map fun e=>cq e.2 e.1).foldr max 0
def uf (st:fA):Nat:=(st.map fun e=>gd e.1).foldr max 0
def wS (st:fA):Nat:=(st.map fun e=>2*aU e.1+1).sum
theorem gF : ∀st:fA,(cS st).length=st.length*2
 |[]=>rfl
 |e::st=>by rw[cS,List.flatMap_cons,List.length_append,List.length_cons];have:=gF st;rw[cS] at this;rw[this];simp;omega
theorem lX (s t:fA):cS (s++t)=cS s++cS t:=by simp[cS]
theorem xK (s:List Nat) (b:Nat):s.foldr max b=max (s.foldr max 0) b:=by
 induction s with
 |nil=>simp
 |cons a s ih=>simp only[List.foldr_cons,ih];omega
theorem nG (p:Ins→Bool) (s t:fA):JI p (s++t)=(JI p s&&JI p t):=by simp[JI]
theorem dN (s t:fA):fB (s++t)=fB s+fB t:=by simp[fB]
theorem ia (s t:fA):wS (s++t)=wS s+wS t:=by simp[wS]
theorem qP (s t:fA):oL (s++t)=max (oL s) (oL t):=by simp only[oL,List.map_append,List.foldr_append];rw[xK]
theorem qQ (s t:fA):uf (s++t)=max (uf s) (uf t):=by simp only[uf,List.map_append,List.foldr_append];rw[xK]
@[simp] theorem rU (p:Ins→Bool) (l:List Ins) (d:Nat):JI p [(l,d)]=xJ p l:=by simp[JI]
@[simp] theorem jJ (l:List Ins) (d:Nat):fB [(l,d)]=aU l:=by simp[fB]
@[simp] theorem JJ (l:List Ins) (d:Nat):wS [(l,d)]=2*aU l+1:=by simp[wS]
@[simp] theorem BR (l:List Ins) (d:Nat):oL [(l,d)]=cq d l:=by simp[oL]
@[simp] theorem BS (l:List Ins) (d:Nat):uf [(l,d)]=gd l:=by simp[uf]
theorem jK : ∀st:fA,st.length≤wS st
 |[]=>Nat.zero_le _
 |e::st=>by have:=jK st;simp only[wS,List.map_cons,List.sum_cons,List.length_cons] at this ⊢;omega
def dX (st:fA) (cells:List AV):Prop:=cells.take (st.length*2)=(cS st).map .p
theorem dX.len {st:fA} {cells:List AV} (h:dX st cells):st.length*2≤cells.length:=by
 have:=congrArg List.length h
 rw[List.length_take,List.length_map,gF] at this
 omega
theorem dX.top {st:fA} {x:List Ins} {d:Nat} {cells:List AV} (h:dX (st++[(x,d)]) cells):cells.getD (st.length*2) .an = .p (.ps x.length 8 (ak x))∧cells.getD (st.length*2+1) .an = .p (.sc (.int .i64 d)):=by
 have hl:=h.len
 simp only[List.length_append,List.length_cons,List.length_nil] at hl
 have get : ∀j,j<2→cells.getD (st.length*2+j) .an=((cS (st++[(x,d)])).map AV.p).getD (st.length*2+j) .an:=by
  intro j hj
  rw[←show cells.take ((st++[(x,d)]).length*2)=_ from h,List.getD_eq_getElem?_getD,List.getD_eq_getElem?_getD,List.getElem?_take_of_lt (by simp only[List.length_append,List.length_cons,List.length_nil];omega)]
 have g0:=get 0 (by omega)
 have g1:=get 1 (by omega)
 rw[lX,List.map_append,List.getD_eq_getElem?_getD (l:=List.map AV.p (cS st)++_),List.getElem?_append_right (by simp[gF])] at g0 g1
 simp only[List.length_map,gF] at g0 g1
 rw[show st.length*2+0-st.length*2=0 by omega] at g0
 rw[show st.length*2+1-st.length*2=1 by omega] at g1
 exact⟨by simpa[cS] using g0,by simpa[cS] using g1⟩
theorem dX.pop {st:fA} {e:List Ins×Nat} {cells:List AV} (h:dX (st++[e]) cells):dX st cells:=by
 unfold dX at h ⊢
 have:=congrArg (List.take (st.length*2)) h
 rw[List.take_take,lX,List.map_append,List.take_left' (by simp[gF])] at this
 rw[←this];congr 1
 simp only[List.length_append,List.length_cons,List.length_nil];omega
theorem dX.keep {st:fA} {cells:List AV} (h:dX st cells):dX st (cells.map dL):=by
 unfold dX at h ⊢
 rw[←List.map_take,h,List.map_map];rfl
theorem dX.push {st:fA} {cells:List AV} (h:dX st cells) (x:List Ins) (d:Nat):dX (st++[(x,d)]) (cells.take (st.length*2)++[.p (.ps x.length 8 (ak x)),.p (.sc (.int .i64 d))]):=by
 have hl:=h.len
 unfold dX at h ⊢
 rw[List.take_of_length_le (by simp;omega),h,lX,List.map_append];rfl
end Go.Am
end
section
namespace Go.Proofs.YtdmmllcjgjmbbaaGreatDoor.N
open Go Go.Am
def av (_:FuncId) (_:List AV) (_:Mem):Option (AV×Mem):=none
abbrev sP (n:Int):PV:= .sc (.int .i64 n)
noncomputable def recC (l:List Ins) (st:LoopState) (pd:Option Code):bg:= .ob (dJ Tryz.prog 106 0 st pd) [aL l,.an,.mp 2 0,.p (.sc (.bool false)),.mp 3 0,.mp 4 0,.mp 5 0,.an,.an,aL l,.fn (.func 115) [] [.mp 1 0],.an,.an,.an,.an,.an,.an,.an,.an,.an,.an,.an,.an,.an,.an,.an,.an,.an,.an,.an,.an,.an,.an,.an,.an,.an,.an]
noncomputable def GH (l:List Ins) (tags n most:Int) (cells:List AV):Mem:=[recC l .ready none,.pc [.ps l.length 8 (ak l)],.pc [sP 0],.pc [sP tags],.pc [sP n],.pc [sP most],.ob (.gr 157 true) cells]
def aak (_l:List Ins) (_tags _n _most:Int) (_cells:List AV) (k:Nat) (x:List Ins) (d:Int):FuncId→Nat→Nat→Option (AV→AV):=dw [(115,3,3,sI .i64 k),(115,3,5,.agg [aL x,sI .i64 d]),(115,4,3,sI .i64 k)]
def aal (_l:List Ins) (_tags n _most:Int) (_cells:List AV) (_k:Nat) (_xs:List Ins) (d:Int) (i:Nat) (op r a b nn:Int) (tg:List Int) (ll le:List Ins) (_ok:Bool):FuncId→Nat→Nat→Option (AV→AV):=dw [(115,7,1,rD op r a b nn tg ll le),(115,13,0,sI .i64 ((i+1:Nat):Int)),(115,10,5,sI .i64 (d+1)),(115,12,5,sI .i64 (d+1)),(106,8,1,sI .i64 (n+1))]
def aam (_l:List Ins) (_tags _n _most:Int) (_cells:List AV) (_k:Nat) (_xs:List Ins) (_d:Int) (_i:Nat) (_op _r _a _b _nn:Int) (_tg:List Int) (_ll _le:List Ins) (ok:Bool) (f:FuncId) (_:List AV) (m:Mem):Option (AV×Mem):=cond (Nat.beq f 125) (some (sB ok,m)) none
noncomputable def RS (l:List Ins) (tags n most:Int) (cells:List AV) (k:Nat) (x:List Ins) (d:Int):bu:=kM av az [(115,0),(115,2)] [(115,0,1)] [(115,3,4),(115,3,5),(115,4,4)] (aak l tags n most cells k x d)
def W4:Sc:= .fin
noncomputable def E4 (l:List Ins) (tags n most:Int) (cells:List AV) (k:Nat) (x:List Ins) (d:Int):Tree:=
 (.test (decide ((↑(k+1):Int)>0))
 (.need (sI .i64 (IntKind.i64.wrap ((↑(k+1):Int)-1))=sI IntKind.i64 (↑k:Int))
 (.must (aG (↑k:Int) (k+1)&&true&&true)
 (.must ((0+(↑k:Int).toNat*2+2).ble cells.length&&((gw (some (TypeInfo.mk (TypeDesc.slice 55) "[]api.Instr" 1 24 true 8 8 (some (Value.slice none 0 0)) false #[]).desc) (cells.getD (0+(↑k:Int).toNat*2) .an)).snd&&((gw (some (TypeInfo.mk (TypeDesc.int IntKind.i64) "int" 1 8 false 8 8 (some (.int .i64 0)) true #[]).desc) (cells.getD (0+(↑k:Int).toNat*2+1) .an)).snd&&true))&&true)
 (.need (AV.agg [(gw (Option.some (TypeInfo.mk (TypeDesc.slice 55) "[]api.Instr" 1 24 true 8 8 (Option.some (Value.slice Option.none 0 0)) false #[]).desc) (cells.getD (0+(↑k:Int).toNat*2) AV.an)).fst,(gw (Option.some (TypeInfo.mk (TypeDesc.int IntKind.i64) "int" 1 8 false 8 8 (Option.some (Value.int IntKind.i64 0)) true #[]).desc) (cells.getD (0+(↑k:Int).toNat*2+1) AV.an)).fst]=AV.agg [aL x,sI IntKind.i64 d])
 (.need (sI .i64 (IntKind.i64.wrap ((↑(k+1):Int)-1))=sI IntKind.i64 (↑k:Int))
 (.must ((↑k:Int).toNat.ble (k+1)&&true&&true&&true)
 (.at (af Tryz.prog env 115 2 [.vy 0,.ms 6 0 ((↑k:Int).toNat-0) 2 none,.mp 7 0,.p (.ps x.length 8 (ak x)),sI .i64 (↑x.length:Int),sI .i64 0] ([.ob (dJ Tryz.prog 106 0 LoopState.ready none) [.p (.ps l.length 8 (ak l)),.an,.mp 2 0,sB false,.mp 3 0,.mp 4 0,.mp 5 0,.an,.an,.p (.ps l.length 8 (ak l)),.fn (Fn.func 115) [] [.mp 1 0],.an,.an,.an,.an,.an,.an,.an,.an,.an,.an,.an,.an,.an,.an,.an,.an,.an,.an,.an,.an,.an,.an,.an,.an,.an,.an],.pc [.ps l.length 8 (ak l)],.pc [sP 0],.pc [sP tags],.pc [sP n],.pc [sP most],.ob (jQ.gr 157 true) (List.map dL cells),.ac [.p (.ps x.length 8 (ak x)),sI .i64 d]]) 6 64))))))))
 (.out (.ret (.aS []) [.ob (dJ Tryz.prog 106 0 LoopState.ready none) [.p (.ps l.length 8 (ak l)),.an,.mp 2 0,sB false,.mp 3 0,.mp 4 0,.mp 5 0,.an,.an,.p (.ps l.length 8 (ak l)),.fn (Fn.func 115) [] [.mp 1 0],.an,.an,.an,.an,.an,.an,.an,.an,.an,.an,.an,.an,.an,.an,.an,.an,.an,.an,.an,.an,.an,.an,.an,.an,.an,.an],.pc [.ps l.length 8 (ak l)],.pc [sP 0],.pc [sP tags],.pc [sP n],.pc [sP most]])))
theorem JK (l:List Ins) (tags n most:Int) (cells:List AV) (k:Nat) (x:List Ins) (d:Int):grow Tryz.prog env (RS l tags n most cells k x d) 1000000 true (af Tryz.prog env 115 0 ([AV.vy 0,AV.ms 6 0 (k+1) 2 Option.none]) (GH l tags n most cells) 6 64) W4 atEnd=E4 l tags n most cells k x d:=by kernel_rfl
noncomputable def RT:bu:=aK av az [(115,0),(115,2)] [] []
def W5:Sc:= .fin
noncomputable def NU (l:List Ins) (tags n most:Int) (_cells:List AV):Tree:=
 (.out (.ret (.aS []) [.ob (dJ Tryz.prog 106 0 LoopState.ready none) [.p (.ps l.length 8 (ak l)),.an,.mp 2 0,sB false,.mp 3 0,.mp 4 0,.mp 5 0,.an,.an,.p (.ps l.length 8 (ak l)),.fn (Fn.func 115) [] [.mp 1 0],.an,.an,.an,.an,.an,.an,.an,.an,.an,.an,.an,.an,.an,.an,.an,.an,.an,.an,.an,.an,.an,.an,.an,.an,.an,.an],.pc [.ps l.length 8 (ak l)],.pc [sP 0],.pc [sP tags],.pc [sP n],.pc [sP most]]))
theorem JL (l:List Ins) (tags n most:Int) (cells:List AV):grow Tryz.prog env RT 1000000 true (af Tryz.prog env 115 0 ([AV.vy 0,AV.ms 6 0 0 2 Option.none]) ([recC l LoopState.ready Option.none,bg.pc [PV.ps l.length 8 (ak l)],bg.pc [sP 0],bg.pc [sP tags],bg.pc [sP n],bg.pc [sP most],bg.ob (jQ.gr 157 true) cells]) 6 64) W5 atEnd=NU l tags n most cells:=by kernel_rfl
noncomputable def RU (l:List Ins) (tags n most:Int) (cells:List AV) (k:Nat) (xs:List Ins) (d:Int) (i:Nat) (op r a b nn:Int) (tg:List Int) (ll:List Ins) (le:List Ins) (ok:Bool):bu:=kM (aam l tags n most cells k xs d i op r a b nn tg ll le ok) az [(115,0),(115,2)] [(115,0,3),(106,0,0),(115,0,5),(115,0,6)] [(115,7,0),(115,7,1),(115,10,8),(115,12,8)] (aal l tags n most cells k xs d i op r a b nn tg ll le ok)
def W6:Sc:= .fin
noncomputable def kg (l:List Ins) (tags n most:Int) (cells:List AV) (k:Nat) (xs:List Ins) (d:Int) (i:Nat) (op r a b nn:Int) (tg:List Int) (ll:List Ins) (le:List Ins) (ok:Bool):Tree:=
 (.test (decide ((↑i:Int)<(↑xs.length:Int)))
 (.must (aG (↑i:Int) xs.length&&true&&true)
 (.must (isInt IntKind.i64 ((ak xs).getD ((↑i:Int).toNat*8) PV.bad)&&(isInt IntKind.i64 ((ak xs).getD ((↑i:Int).toNat*8+1) PV.bad)&&(isInt IntKind.u32 ((ak xs).getD ((↑i:Int).toNat*8+1+1) PV.bad)&&(isInt IntKind.u32 ((ak xs).getD ((↑i:Int).toNat*8+1+1+1) PV.bad)&&(isInt IntKind.i32 ((ak xs).getD ((↑i:Int).toNat*8+1+1+1+1) PV.bad)&&(aH ((ak xs).getD ((↑i:Int).toNat*8+1+1+1+1+1) PV.bad)&&(aH ((ak xs).getD ((↑i:Int).toNat*8+1+1+1+1+1+1) PV.bad)&&(aH ((ak xs).getD ((↑i:Int).toNat*8+1+1+1+1+1+1+1) PV.bad)&&true)))))))&&true)
 (.need (AV.agg [sI .i64 (au ((ak xs).getD ((↑i:Int).toNat*8) PV.bad)),sI .i64 (au ((ak xs).getD ((↑i:Int).toNat*8+1) PV.bad)),sI .u32 (au ((ak xs).getD ((↑i:Int).toNat*8+1+1) PV.bad)),sI .u32 (au ((ak xs).getD ((↑i:Int).toNat*8+1+1+1) PV.bad)),sI .i32 (au ((ak xs).getD ((↑i:Int).toNat*8+1+1+1+1) PV.bad)),AV.p (PV.ps (aq ((ak xs).getD ((↑i:Int).toNat*8+1+1+1+1+1) PV.bad)) (aA ((ak xs).getD ((↑i:Int).toNat*8+1+1+1+1+1) PV.bad)) (aj ((ak xs).getD ((↑i:Int).toNat*8+1+1+1+1+1) PV.bad))),AV.p (PV.ps (aq ((ak xs).getD ((↑i:Int).toNat*8+1+1+1+1+1+1) PV.bad)) (aA ((ak xs).getD ((↑i:Int).toNat*8+1+1+1+1+1+1) PV.bad)) (aj ((ak xs).getD ((↑i:Int).toNat*8+1+1+1+1+1+1) PV.bad))),AV.p (PV.ps (aq ((ak xs).getD ((↑i:Int).toNat*8+1+1+1+1+1+1+1) PV.bad)) (aA ((ak xs).getD ((↑i:Int).toNat*8+1+1+1+1+1+1+1) PV.bad)) (aj ((ak xs).getD ((↑i:Int).toNat*8+1+1+1+1+1+1+1) PV.bad)))]=rD op r a b nn tg ll le)
 (.call ⟨125,[.agg [sI .i64 op,sI .i64 r,sI .u32 a,sI .u32 b,sI .i32 nn,.p (.ps tg.length 1 (eK IntKind.u32 tg)),.p (.ps ll.length 8 (ak ll)),.p (.ps le.length 8 (ak le))]],[],.p (.sc (.bool ok)),[]⟩
 (.test (!ok)
 (.out (.ret (.aS []) [.ob (dJ Tryz.prog 106 0 (cZ (some Code.ret)) (some Code.ret)) [.p (.ps l.length 8 (ak l)),.an,.mp 2 0,sB false,.mp 3 0,.mp 4 0,.mp 5 0,.an,.an,.p (.ps l.length 8 (ak l)),.fn (Fn.func 115) [] [.mp 1 0],.an,.an,.an,.an,.an,.an,.an,.an,.an,.an,.an,.an,.an,.an,.an,.an,.an,.an,.an,.an,.an,.an,.an,.an,.an,.an],.pc [.ps l.length 8 (ak l)],.pc [sP 2],.pc [sP tags],.pc [sP n],.pc [sP most]]))
 (.need (sI .i64 (IntKind.i64.wrap (n+1))=sI IntKind.i64 (n+1))
 (.test (decide ((↑ll.length:Int)>0))
 (.need (sI .i64 (IntKind.i64.wrap (d+1))=sI IntKind.i64 (d+1))
 (.must (((k+1)*32).ble dh&&(k+1).ble dh&&((k*2).ble cells.length&&true)&&true)
 (.test (decide ((↑le.length:Int)>0))
 (.need (sI .i64 (IntKind.i64.wrap (d+1))=sI IntKind.i64 (d+1))
 (.must (((k+1+1)*32).ble dh&&(k+1+1).ble dh&&(((k+1)*2).ble (List.take (k*2) cells++[.p (.ps ll.length 8 (ak ll)),sI .i64 (d+1)]).length&&true)&&true)
 (.need (sI .i64 (IntKind.i64.wrap ((↑i:Int)+1))=sI IntKind.i64 (↑(i+1):Int))
 (.at (af Tryz.prog env 115 2 [.vy 0,.ms 6 0 (k+1+1) 2 none,.mp 7 0,.p (.ps xs.length 8 (ak xs)),sI .i64 (↑xs.length:Int),sI .i64 (↑(i+1):Int)] ([.ob (dJ Tryz.prog 106 0 (cZ none) none) [.p (.ps l.length 8 (ak l)),.an,.mp 2 0,sB false,.mp 3 0,.mp 4 0,.mp 5 0,.an,.an,.p (.ps l.length 8 (ak l)),.fn (Fn.func 115) [] [.mp 1 0],.an,.an,.an,.an,.an,.an,.an,.an,.an,.an,.an,.an,.an,.an,.an,.an,.an,.an,.an,.an,.an,.an,.an,.an,.an,.an],.pc [.ps l.length 8 (ak l)],.pc [sP 0],.pc [sP (bif false then Min.min tags (↑tg.length:Int) else Max.max tags (↑tg.length:Int))],.pc [sP (n+1)],.pc [sP (bif false then Min.min most d else Max.max most d)],.ob (jQ.gr 157 true) (List.map dL (List.take ((k+1)*2) (List.take (k*2) cells++[.p (.ps ll.length 8 (ak ll)),sI .i64 (d+1)])++[.p (.ps le.length 8 (ak le)),sI .i64 (d+1)])),.ac [.p (.ps xs.length 8 (ak xs)),sI .i64 d]]) 6 64)))))
 (.need (sI .i64 (IntKind.i64.wrap ((↑i:Int)+1))=sI IntKind.i64 (↑(i+1):Int))
 (.at (af Tryz.prog env 115 2 [.vy 0,.ms 6 0 (k+1) 2 none,.mp 7 0,.p (.ps xs.length 8 (ak xs)),sI .i64 (↑xs.length:Int),sI .i64 (↑(i+1):Int)] ([.ob (dJ Tryz.prog 106 0 (cZ none) none) [.p (.ps l.length 8 (ak l)),.an,.mp 2 0,sB false,.mp 3 0,.mp 4 0,.mp 5 0,.an,.an,.p (.ps l.length 8 (ak l)),.fn (Fn.func 115) [] [.mp 1 0],.an,.an,.an,.an,.an,.an,.an,.an,.an,.an,.an,.an,.an,.an,.an,.an,.an,.an,.an,.an,.an,.an,.an,.an,.an,.an],.pc [.ps l.length 8 (ak l)],.pc [sP 0],.pc [sP (bif false then Min.min tags (↑tg.length:Int) else Max.max tags (↑tg.length:Int))],.pc [sP (n+1)],.pc [sP (bif false then Min.min most d else Max.max most d)],.ob (jQ.gr 157 true) (List.map dL (List.take (k*2) cells++[.p (.ps ll.length 8 (ak ll)),sI .i64 (d+1)])),.ac [.p (.ps xs.length 8 (ak xs)),sI .i64 d]]) 6 64))))))
 (.test (decide ((↑le.length:Int)>0))
 (.need (sI .i64 (IntKind.i64.wrap (d+1))=sI IntKind.i64 (d+1))
 (.must (((k+1)*32).ble dh&&(k+1).ble dh&&((k*2).ble cells.length&&true)&&true)
 (.need (sI .i64 (IntKind.i64.wrap ((↑i:Int)+1))=sI IntKind.i64 (↑(i+1):Int))
 (.at (af Tryz.prog env 115 2 [.vy 0,.ms 6 0 (k+1) 2 none,.mp 7 0,.p (.ps xs.length 8 (ak xs)),sI .i64 (↑xs.length:Int),sI .i64 (↑(i+1):Int)] ([.ob (dJ Tryz.prog 106 0 (cZ none) none) [.p (.ps l.length 8 (ak l)),.an,.mp 2 0,sB false,.mp 3 0,.mp 4 0,.mp 5 0,.an,.an,.p (.ps l.length 8 (ak l)),.fn (Fn.func 115) [] [.mp 1 0],.an,.an,.an,.an,.an,.an,.an,.an,.an,.an,.an,.an,.an,.an,.an,.an,.an,.an,.an,.an,.an,.an,.an,.an,.an,.an],.pc [.ps l.length 8 (ak l)],.pc [sP 0],.pc [sP (bif false then Min.min tags (↑tg.length:Int) else Max.max tags (↑tg.length:Int))],.pc [sP (n+1)],.pc [sP (bif false then Min.min most d else Max.max most d)],.ob (jQ.gr 157 true) (List.map dL (List.take (k*2) cells++[.p (.ps le.length 8 (ak le)),sI .i64 (d+1)])),.ac [.p (.ps xs.length 8 (ak xs)),sI .i64 d]]) 6 64)))))
 (.need (sI .i64 (IntKind.i64.wrap ((↑i:Int)+1))=sI IntKind.i64 (↑(i+1):Int))
 (.at (af Tryz.prog env 115 2 [.vy 0,.ms 6 0 k 2 none,.mp 7 0,.p (.ps xs.length 8 (ak xs)),sI .i64 (↑xs.length:Int),sI .i64 (↑(i+1):Int)] ([.ob (dJ Tryz.prog 106 0 (cZ none) none) [.p (.ps l.length 8 (ak l)),.an,.mp 2 0,sB false,.mp 3 0,.mp 4 0,.mp 5 0,.an,.an,.p (.ps l.length 8 (ak l)),.fn (Fn.func 115) [] [.mp 1 0],.an,.an,.an,.an,.an,.an,.an,.an,.an,.an,.an,.an,.an,.an,.an,.an,.an,.an,.an,.an,.an,.an,.an,.an,.an,.an],.pc [.ps l.length 8 (ak l)],.pc [sP 0],.pc [sP (bif false then Min.min tags (↑tg.length:Int) else Max.max tags (↑tg.length:Int))],.pc [sP (n+1)],.pc [sP (bif false then Min.min most d else Max.max most d)],.ob (jQ.gr 157 true) (List.map dL cells),.ac [.p (.ps xs.length 8 (ak xs)),sI .i64 d]]) 6 64)))))))))))
 (.at (af Tryz.prog env 115 0 [.vy 0,.ms 6 0 k 2 none] ([.ob (dJ Tryz.prog 106 0 LoopState.ready none) [.p (.ps l.length 8 (ak l)),.an,.mp 2 0,sB false,.mp 3 0,.mp 4 0,.mp 5 0,.an,.an,.p (.ps l.length 8 (ak l)),.fn (Fn.func 115) [] [.mp 1 0],.an,.an,.an,.an,.an,.an,.an,.an,.an,.an,.an,.an,.an,.an,.an,.an,.an,.an,.an,.an,.an,.an,.an,.an,.an,.an],.pc [.ps l.length 8 (ak l)],.pc [sP 0],.pc [sP tags],.pc [sP n],.pc [sP most],.ob (jQ.gr 157 true) (List.map dL cells)]) 6 64)))
theorem ug (l:List Ins) (tags n most:Int) (cells:List AV) (k:Nat) (xs:List Ins) (d:Int) (i:Nat) (op r a b nn:Int) (tg:List Int) (ll:List Ins) (le:List Ins) (ok:Bool):grow Tryz.prog env (RU l tags n most cells k xs d i op r a b nn tg ll le ok) 1000000 true (af Tryz.prog env 115 2 ([AV.vy 0,AV.ms 6 0 k 2 Option.none,AV.mp 7 0,aL xs,sI IntKind.i64 (↑xs.length:Int),sI IntKind.i64 (↑i:Int)]) (GH l tags n most cells++[bg.ac [aL xs,sI IntKind.i64 d]]) 6 64) W6 atEnd=kg l tags n most cells k xs d i op r a b nn tg ll le ok:=by kernel_rfl
noncomputable def aan (l:List Ins) (tags n most:Int):Out:= .ret (.aS []) [recC l .ready none,.pc [.ps l.length 8 (ak l)],.pc [sP 0],.pc [sP tags],.pc [sP n],.pc [sP most]]
noncomputable def W7 (l:List Ins) (tags n most:Int):Out:= .ret (.aS []) [recC l .done (some .ret),.pc [.ps l.length 8 (ak l)],.pc [sP 2],.pc [sP tags],.pc [sP n],.pc [sP most]]
def dK:Nat:=1000000000000
def xL (p:Ins→Bool) (l:List Ins) (st:fA) (tags n most:Nat) (o:Out):Prop:=
 (JI p st=true∧o=aan l (max tags (uf st):Nat) (n+fB st:Nat) (max most (oL st):Nat))∨(JI p st=false ∧ ∃t k m,o=W7 l t k m)
section
variable (p:Ins→Bool) (hp : ∀x:Ins,aC Tryz.prog env 125 [GG x] [] (sB (p x)) []) (l:List Ins)
include hp in
theorem GI (N:Nat) (ih : ∀(st:fA) (cells:List AV) (tags n most:Nat),wS st<N→dX st cells→n+fB st≤dK→wS st≤dK→(∀e∈st,e.2+aU e.1≤dK) →
   ∃o,Am.Good Tryz.prog env (af Tryz.prog env 115 0 [.vy 0,.ms 6 0 st.length 2 none] (GH l tags n most cells) 6 64) o∧xL p l st tags n most o) (xs:List Ins) (hxs:xs.length≤dK) (d:Nat) :
  ∀(r i:Nat) (st:fA) (cells:List AV) (tags n most:Nat),i+r=xs.length→wS st+2*aU (xs.drop i)<N→dX st cells→n+fB st+aU (xs.drop i)≤dK→wS st+2*aU (xs.drop i)≤dK→(∀e∈st,e.2+aU e.1≤dK)→d+aU (xs.drop i)≤dK →
   ∃o,Am.Good Tryz.prog env (af Tryz.prog env 115 2 [.vy 0,.ms 6 0 st.length 2 none,.mp 7 0,aL xs,sI .i64 xs.length,sI .i64 i] (GH l tags n most cells++[.ac [aL xs,sI .i64 d]]) 6 64) o∧xL p l (st++[(xs.drop i,d)]) tags n most o:=by
 intro r
 induction r with
 |zero=>
  intro i st cells tags n most hi hN ht hn hw he hd
  have h1:xs.drop i=[]:=List.drop_eq_nil_of_le (by omega)
  rw[h1] at hN hn hw ⊢
  simp only[aU] at hN hn hw
  obtain⟨o,ho,hq⟩:=ih st (cells.map dL) tags n most (by omega) ht.keep (by omega) (by omega) he
  refine⟨o,aa names (ug l tags n most cells st.length xs d i 0 0 0 0 0 [] [] [] true) ?_,?_⟩
  · have h2 : ¬((i:Int)<xs.length):=by omega
    simp only[kg,Tree.ok]
    exact⟨fun h=>absurd (by simpa using h) h2,fun _=>ho⟩
  · unfold xL at hq ⊢
    rw[nG,dN,qQ,qP]
    simpa[xJ,aU,gd,cq] using hq
 |succ r ihr=>
  intro i st cells tags n most hi hN ht hn hw he hd
  have kK:i<xs.length:=by omega
  have DD:xs[i]? = some xs[i]:=List.getElem?_eq_getElem kK
  have hdr:xs.drop i=xs[i]::xs.drop (i+1):=List.drop_eq_getElem_cons kK
  rw[hdr] at hN hn hw hd ⊢
  generalize xs[i]=x at *
  generalize hys:xs.drop (i+1)=ys at *
  obtain⟨op,rs,a,b,nn,tg,ll,le⟩:=x
  obtain⟨c0,c1,c2,c3,c4,c5,c6,c7⟩:=fP DD
  have hpx:=hp (.mk op rs a b nn tg ll le)
  have rq:dK=1000000000000:=rfl
  have RV:dh=70368744177664:=rfl
  simp only[aU,kN] at hN hn hw hd
  have Nc:=jK st
  have QB:=ht.len
  have w1:IntKind.i64.wrap ((i:Int)+1)=((i+1:Nat):Int):=by rw[aD (by omega) (by omega)];rfl
  have w2:IntKind.i64.wrap ((d:Int)+1)=((d+1:Nat):Int):=by rw[aD (by omega) (by omega)];rfl
  have w3:IntKind.i64.wrap ((n:Int)+1)=((n+1:Nat):Int):=by rw[aD (by omega) (by omega)];rfl
  have Ak:(i:Int)<(xs.length:Int):=by omega
  cases hok:p (.mk op rs a b nn tg ll le) with
  |false=>
   refine⟨W7 l tags n most,aa names (ug l tags n most cells st.length xs d i op rs a b nn tg ll le false) ?_,.inr ⟨?_,_,_,_,rfl⟩⟩
   · simp only[kg,Tree.ok,Int.toNat_natCast,Nat.add_assoc,Nat.reduceAdd,c0,c1,c2,c3,c4,c5,c6,c7,isInt,aH,au,aq,aA,aj,aG]
     refine⟨fun _=>⟨by simp[Ak],by simp,rfl,?_,fun _=>rfl,fun h=>by cases h⟩,fun h=>absurd Ak (by simpa using h)⟩
     rw[hok] at hpx;exact hpx
   · rw[nG,rU,xJ,Zo,hok];simp
  |true=>
   have next : ∀(s:fA) (cs:List AV),dX (st++s) cs→wS s≤2*(aU ll+aU le)+2→fB s=aU ll+aU le→JI p s=(xJ p ll&&xJ p le)→uf s=max (gd ll) (gd le)→oL s=max (cq (d+1) ll) (cq (d+1) le)→(∀e∈s,e.2+aU e.1≤dK) →
     ∃o,Am.Good Tryz.prog env (af Tryz.prog env 115 2 [.vy 0,.ms 6 0 (st++s).length 2 none,.mp 7 0,aL xs,sI .i64 xs.length,sI .i64 (i+1:Nat)] (GH l (max tags tg.length:Nat) (n+1:Nat) (max most d:Nat) cs++[.ac [aL xs,sI .i64 d]]) 6 64) o∧xL p l (st++[(.mk op rs a b nn tg ll le::ys,d)]) tags n most o:=by
    intro s cs hts hws hns hos htg hds hes
    obtain⟨o,ho,hq⟩:=ihr (i+1) (st++s) cs (max tags tg.length) (n+1) (max most d) (by omega) (by rw[ia,hys];omega) hts (by rw[dN,hys];omega) (by rw[ia,hys];omega)
     (fun e hm=>(List.mem_append.1 hm).elim (he e) (hes e)) (by rw[hys];omega)
    refine⟨o,ho,?_⟩
    rw[hys] at hq
    unfold xL at hq ⊢
    simp only[nG,dN,qQ,qP,rU,jJ,BS,BR,hos,hns,htg,hds] at hq ⊢
    simp only[xJ,Zo,aU,kN,gd,JD,cq,Aj,hok,Bool.true_and]
    rcases hq with⟨q1,q2⟩ | ⟨q1,q2⟩
    · refine .inl ⟨by rw[Bool.and_assoc] at q1;exact q1,?_⟩
      rw[q2]
      congr 1<;>congr 1<;>omega
    · exact .inr ⟨by rw[Bool.and_assoc] at q1;exact q1,q2⟩
   have tree:=ug l tags n most cells st.length xs d i op rs a b nn tg ll le true
   have NV:aC Tryz.prog env 125 [rD op rs a b nn tg ll le] [] (sB true) []:=by rw[hok] at hpx;exact hpx
   have Zp:max (tags:Int) (tg.length:Int)=((max tags tg.length:Nat):Int):=by omega
   have Zq:max (most:Int) (d:Int)=((max most d:Nat):Int):=by omega
   have nl : ∀z:List Ins,z≠[]→0<(z.length:Int):=fun z hz=>by have:=List.length_pos_iff.2 hz;omega
   by_cases IP:ll=[]
   · by_cases hle:le=[]
     · subst IP;subst hle
       obtain⟨o,ho,hq⟩:=next [] (cells.map dL) (by rw[List.append_nil];exact ht.keep) (by simp[wS,aU]) (by simp[fB,aU]) (by simp[JI,xJ]) (by simp[uf,gd]) (by simp[oL,cq]) (fun _ h=>by cases h)
       refine⟨o,aa names tree ?_,hq⟩
       simp only[kg,Tree.ok,Int.toNat_natCast,Nat.add_assoc,Nat.reduceAdd,c0,c1,c2,c3,c4,c5,c6,c7,isInt,aH,au,aq,aA,aj,aG,w1,w2,w3,cond_false,Zp,Zq]
       rw[List.append_nil] at ho
       exact⟨fun _=>⟨by simp[Ak],by simp,rfl,NV,fun h=>(by cases h),fun _=>⟨rfl,fun h=>(by simp at h),fun _=>⟨fun h=>(by simp at h),fun _=>⟨(by trivial),ho⟩⟩⟩⟩,fun h=>absurd Ak (by simpa using h)⟩
     · subst IP
       have RW:=nl le hle
       obtain⟨o,ho,hq⟩:=next [(le,d+1)] _ (ht.push le (d+1)).keep (by simp[aU]) (by simp[aU]) (by simp[xJ]) (by simp[gd]) (by simp[cq]) (fun e h=>by simp only[List.mem_singleton] at h;subst h;simp only;omega)
       refine⟨o,aa names tree ?_,hq⟩
       simp only[kg,Tree.ok,Int.toNat_natCast,Nat.add_assoc,Nat.reduceAdd,c0,c1,c2,c3,c4,c5,c6,c7,isInt,aH,au,aq,aA,aj,aG,w1,w2,w3,cond_false,Zp,Zq]
       rw[List.length_append] at ho
       exact⟨fun _=>⟨by simp[Ak],by simp,rfl,NV,fun h=>(by cases h),fun _=>⟨rfl,fun h=>(by simp at h),fun _=>⟨fun _=>⟨rfl,(by simp;omega),(by trivial),ho⟩,fun h=>absurd RW (by simpa using h)⟩⟩⟩,fun h=>absurd Ak (by simpa using h)⟩
   · have W8:=nl ll IP
     by_cases hle:le=[]
     · subst hle
       obtain⟨o,ho,hq⟩:=next [(ll,d+1)] _ (ht.push ll (d+1)).keep (by simp[aU]) (by simp[aU]) (by simp[xJ]) (by simp[gd]) (by simp[cq]) (fun e h=>by simp only[List.mem_singleton] at h;subst h;simp only;omega)
       refine⟨o,aa names tree ?_,hq⟩
       simp only[kg,Tree.ok,Int.toNat_natCast,Nat.add_assoc,Nat.reduceAdd,c0,c1,c2,c3,c4,c5,c6,c7,isInt,aH,au,aq,aA,aj,aG,w1,w2,w3,cond_false,Zp,Zq]
       rw[List.length_append] at ho
       exact⟨fun _=>⟨by simp[Ak],by simp,rfl,NV,fun h=>(by cases h),fun _=>⟨rfl,fun _=>⟨rfl,(by simp;omega),fun h=>(by simp at h),fun _=>⟨(by trivial),ho⟩⟩,fun h=>absurd W8 (by simpa using h)⟩⟩,fun h=>absurd Ak (by simpa using h)⟩
     · have RW:=nl le hle
       have ER:=(ht.push ll (d+1)).push le (d+1)
       rw[List.append_assoc] at ER
       obtain⟨o,ho,hq⟩:=next [(ll,d+1),(le,d+1)] _ ER.keep (by simp[wS];omega) (by simp[fB]) (by simp[JI]) (by simp[uf]) (by simp[oL]) (fun e h=>by simp only[List.mem_cons,List.not_mem_nil,or_false] at h;rcases h with rfl | rfl<;>simp only<;>omega)
       refine⟨o,aa names tree ?_,hq⟩
       simp only[kg,Tree.ok,Int.toNat_natCast,Nat.add_assoc,Nat.reduceAdd,c0,c1,c2,c3,c4,c5,c6,c7,isInt,aH,au,aq,aA,aj,aG,w1,w2,w3,cond_false,Zp,Zq]
       simp only[List.length_append,List.length_cons,List.length_nil,Nat.reduceAdd] at ho
       exact⟨fun _=>⟨by simp[Ak],by simp,rfl,NV,fun h=>(by cases h),fun _=>⟨rfl,fun _=>⟨rfl,(by simp;omega),fun _=>⟨rfl,(by simp;omega),(by trivial),ho⟩,fun h=>absurd RW (by simpa using h)⟩,fun h=>absurd W8 (by simpa using h)⟩⟩,fun h=>absurd Ak (by simpa using h)⟩
include hp in
theorem xM : ∀(N:Nat) (st:fA) (cells:List AV) (tags n most:Nat),wS st<N→dX st cells→n+fB st≤dK→wS st≤dK→(∀e∈st,e.2+aU e.1≤dK) →
   ∃o,Am.Good Tryz.prog env (af Tryz.prog env 115 0 [.vy 0,.ms 6 0 st.length 2 none] (GH l tags n most cells) 6 64) o∧xL p l st tags n most o
 |0,_,_,_,_,_,h,_,_,_,_=>by omega
 |N+1,st,cells,tags,n,most,hN,ht,hn,hw,he=>by
  rcases List.eq_nil_or_concat st with rfl | ⟨s,⟨x,d⟩,rfl⟩
  · exact⟨_,aa names (JL l tags n most cells) rfl,.inl ⟨rfl,(by simp[uf,fB,oL];rfl)⟩⟩
  · rw[List.concat_eq_append] at *
    have hx:=he (x,d) (by simp)
    rw[ia,JJ] at hN hw
    rw[dN,jJ] at hn
    obtain⟨t0,t1⟩:=ht.top
    have QB:=ht.len
    have Nc:=jK s
    have rq:dK=1000000000000:=rfl
    have Ii:=dM x
    simp only[List.length_append,List.length_cons,List.length_nil] at QB hx
    obtain⟨o,ho,hq⟩:=GI p hp l N (fun st cells tags n most=>xM N st cells tags n most) x (by omega) d x.length 0 s (cells.map dL) tags n most (by omega) (by rw[List.drop_zero];omega) ht.pop.keep (by rw[List.drop_zero];omega) (by rw[List.drop_zero];omega)
     (fun e hm=>he e (List.mem_append_left _ hm)) (by rw[List.drop_zero];omega)
    rw[List.drop_zero] at hq
    refine⟨o,?_,hq⟩
    have w1:IntKind.i64.wrap (((s.length+1:Nat):Int)-1)=(s.length:Int):=by rw[aD (by omega) (by omega)];omega
    rw[List.length_append,List.length_singleton]
    refine aa names (JK l tags n most cells s.length x d) ?_
    simp only[E4,Tree.ok,Int.toNat_natCast,Nat.zero_add,t0,t1,gw,rZ,w1,isInt,aH,au,aq,aA,aj,aG,Nat.sub_zero]
    exact⟨fun _=>⟨(by trivial),(by simp;omega),(by simp;omega),(by trivial),(by trivial),(by simp),ho⟩,fun h=>absurd h (by simp)⟩
end
end Go.Proofs.YtdmmllcjgjmbbaaGreatDoor.N
end
section
namespace Go.Proofs.YtdmmllcjgjmbbaaGreatDoor.N
open Go Go.Am
section
variable (l:List Ins)
end
end Go.Proofs.YtdmmllcjgjmbbaaGreatDoor.N
end
section
namespace Go.Proofs.YtdmmllcjgjmbbaaGreatDoor.N
open Go Go.Am
noncomputable def aar (l:List Ins) (tags n most:Int) (f:FuncId) (_:List AV) (_:Mem):Option (AV×Mem):=cond (Nat.beq f 115) (some (.aS [],[recC l .ready none,.pc [.ps l.length 8 (ak l)],.pc [sP 0],.pc [sP tags],.pc [sP n],.pc [sP most]])) none
noncomputable def aas (l:List Ins) (tags n most:Int) (f:FuncId) (_:List AV) (_:Mem):Option (AV×Mem):=cond (Nat.beq f 115) (some (.aS [],[recC l .done (some .ret),.pc [.ps l.length 8 (ak l)],.pc [sP 2],.pc [sP tags],.pc [sP n],.pc [sP most]])) none
noncomputable def RX:bu:=aK av az [(115,0)] [] []
def W9:Sc:= .fin
noncomputable def NW (l:List Ins):Tree:=
 (.at (af Tryz.prog env 115 0 [.vy 0,.ms 6 0 1 2 none] ([.ob (dJ Tryz.prog 106 0 LoopState.ready none) [.p (.ps l.length 8 (ak l)),.an,.mp 2 0,sB false,.mp 3 0,.mp 4 0,.mp 5 0,.an,.an,.p (.ps l.length 8 (ak l)),.fn (Fn.func 115) [] [.mp 1 0],.an,.an,.an,.an,.an,.an,.an,.an,.an,.an,.an,.an,.an,.an,.an,.an,.an,.an,.an,.an,.an,.an,.an,.an,.an,.an],.pc [.ps l.length 8 (ak l)],.pc [sP 0],.pc [sP 0],.pc [sP 0],.pc [sP 0],.ob (jQ.gr 157 true) [.p (.ps l.length 8 (ak l)),sI .i64 1]]) 6 64))
theorem BT (l:List Ins):aR Tryz.prog env RX 1000000 115 ([AV.vy 0,AV.mp 1 0]) ([recC l LoopState.ready Option.none,bg.pc [PV.ps l.length 8 (ak l)],bg.pc [sP 0],bg.pc [sP 0],bg.pc [sP 0],bg.pc [sP 0]]) W9=NW l:=by kernel_rfl
noncomputable def NX (l:List Ins) (tags n most:Int):bu:=aK (aar l tags n most) az [] [(106,10,3),(106,10,7),(106,0,0)] []
def RY:Sc:=(.fork (.lit (.lit .fin)) (.fork (.lit .fin) .fin))
noncomputable def JM (l:List Ins) (tags n most:Int):Tree:=
 (.call ⟨115,[.vy 0,.mp 1 0],[.ob (dJ Tryz.prog 106 0 LoopState.ready none) [.p (.ps l.length 8 (ak l)),.an,.mp 2 0,sB false,.mp 3 0,.mp 4 0,.mp 5 0,.an,.an,.p (.ps l.length 8 (ak l)),.fn (Fn.func 115) [] [.mp 1 0],.an,.an,.an,.an,.an,.an,.an,.an,.an,.an,.an,.an,.an,.an,.an,.an,.an,.an,.an,.an,.an,.an,.an,.an,.an,.an],.pc [.ps l.length 8 (ak l)],.pc [sP 0],.pc [sP 0],.pc [sP 0],.pc [sP 0]],.aS [],[.ob (dJ Tryz.prog 106 0 LoopState.ready none) [.p (.ps l.length 8 (ak l)),.an,.mp 2 0,sB false,.mp 3 0,.mp 4 0,.mp 5 0,.an,.an,.p (.ps l.length 8 (ak l)),.fn (Fn.func 115) [] [.mp 1 0],.an,.an,.an,.an,.an,.an,.an,.an,.an,.an,.an,.an,.an,.an,.an,.an,.an,.an,.an,.an,.an,.an,.an,.an,.an,.an],.pc [.ps l.length 8 (ak l)],.pc [sP 0],.pc [sP tags],.pc [sP n],.pc [sP most]]⟩
 (.test (decide (n>262144))
 (.out (.ret (sI .i64 141) []))
 (.test (decide (tags>16384))
 (.out (.ret (sI .i64 141) []))
 (.test (decide (most>900))
 (.out (.ret (sI .i64 141) []))
 (.out (.ret (sI .i64 0) []))))))
theorem GJ (l:List Ins) (tags n most:Int):aR Tryz.prog env (NX l tags n most) 1000000 106 ([aL l]) ([]) RY=JM l tags n most:=by kernel_rfl
noncomputable def NY (l:List Ins) (tags n most:Int):bu:=aK (aas l tags n most) az [] [] []
def RZ:Sc:= .fin
noncomputable def JN (l:List Ins) (tags n most:Int):Tree:=
 (.call ⟨115,[.vy 0,.mp 1 0],[.ob (dJ Tryz.prog 106 0 LoopState.ready none) [.p (.ps l.length 8 (ak l)),.an,.mp 2 0,sB false,.mp 3 0,.mp 4 0,.mp 5 0,.an,.an,.p (.ps l.length 8 (ak l)),.fn (Fn.func 115) [] [.mp 1 0],.an,.an,.an,.an,.an,.an,.an,.an,.an,.an,.an,.an,.an,.an,.an,.an,.an,.an,.an,.an,.an,.an,.an,.an,.an,.an],.pc [.ps l.length 8 (ak l)],.pc [sP 0],.pc [sP 0],.pc [sP 0],.pc [sP 0]],.aS [],[.ob (dJ Tryz.prog 106 0 LoopState.done (some Code.ret)) [.p (.ps l.length 8 (ak l)),.an,.mp 2 0,sB false,.mp 3 0,.mp 4 0,.mp 5 0,.an,.an,.p (.ps l.length 8 (ak l)),.fn (Fn.func 115) [] [.mp 1 0],.an,.an,.an,.an,.an,.an,.an,.an,.an,.an,.an,.an,.an,.an,.an,.an,.an,.an,.an,.an,.an,.an,.an,.an,.an,.an],.pc [.ps l.length 8 (ak l)],.pc [sP 2],.pc [sP tags],.pc [sP n],.pc [sP most]]⟩
 (.out (.ret (sI .i64 2) [])))
theorem GK (l:List Ins) (tags n most:Int):aR Tryz.prog env (NY l tags n most) 1000000 106 ([aL l]) ([]) RZ=JN l tags n most:=by kernel_rfl
theorem E5 (l:List Ins):dX [(l,1)] [.p (.ps l.length 8 (ak l)),.p (.sc (.int .i64 1))]:=rfl
def cA (p:Ins→Bool) (l:List Ins):Int:=if xJ p l=false then 2 else if 262144<aU l∨16384<gd l∨900<cq 1 l then 141 else 0
theorem DE {p:Ins→Bool} (hp : ∀x:Ins,aC Tryz.prog env 125 [GG x] [] (sB (p x)) []) (l:List Ins) (h:aU l≤100000000000):aC Tryz.prog env 106 [aL l] [] (sI .i64 (cA p l)) []:=by
 have rq:dK=1000000000000:=rfl
 obtain⟨o,ho,hq⟩:=xM p hp l (2*aU l+2) [(l,1)] _ 0 0 0 (by simp) (E5 l) (by simp;omega) (by simp;omega) (fun e he=>by simp only[List.mem_singleton] at he;subst he;simp only;omega)
 rcases hq with⟨q1,rfl⟩ | ⟨q1,t,k,m,rfl⟩
 · have hd:aC Tryz.prog env 115 [.vy 0,.mp 1 0] _ (.aS []) _:=ah names (BT l) ho
   refine ah names (GJ l _ _ _) ⟨hd,?_⟩
   rw[rU] at q1
   simp only[BS,jJ,BR,Nat.zero_add,Nat.zero_max]
   have z : ∀a b:Nat,decide ((a:Int)>(b:Int))=decide (b<a):=fun a b=>by congr 1;exact propext (by omega)
   unfold cA
   rw[if_neg (by rw[q1];simp)]
   refine⟨fun h1=> ?_,fun h1=>⟨fun h2=> ?_,fun h2=>⟨fun h3=> ?_,fun h3=> ?_⟩⟩⟩<;>simp only[decide_eq_true_eq,decide_eq_false_iff_not] at *
   · rw[if_pos (by omega)];rfl
   · rw[if_pos (by omega)];rfl
   · rw[if_pos (by omega)];rfl
   · rw[if_neg (by omega)];rfl
 · have hd:aC Tryz.prog env 115 [.vy 0,.mp 1 0] _ (.aS []) _:=ah names (BT l) ho
   refine ah names (GK l t k m) ⟨hd,?_⟩
   rw[rU] at q1
   unfold cA
   rw[if_pos q1];rfl
end Go.Proofs.YtdmmllcjgjmbbaaGreatDoor.N
end
section
namespace Go.Am
open Go.RowKit
section
variable {H:Type} {enc:TypeId×Value→H} {P:Program} {w:World} {base:Nat} {spare:Nat→Bool} {held:Bool} {tL tI ti tu tn tt:TypeId} {fs:Array Field}
theorem uh {g:Gh} {w:World} : ∀{l:List PV} {cs:List Value},AY g w l cs→cj g w (l.map .p) cs
 |[],[],_=>trivial
 |_::_,_::_,h=>⟨.p _ _ h.1,uh h.2⟩
 |[],_::_,h=>h.elim
 |_::_,[],h=>h.elim
end
end Go.Am
end
section
namespace Go.Am
open Go.RowKit
section
variable {H:Type} {enc:TypeId×Value→H} {P:Program} {w:World} {base:Nat} {spare:Nat→Bool} {held:Bool}
theorem R0 {g:Gh} {w:World} {l:List PV} {cs:Array Value} (h:AY g w l cs.toList):VA g w (.agg (l.map .p)) (.agg cs):=by
 rw[VA.sD]
 exact uh h
end
end Go.Am
end
section
namespace Go.Am
theorem rV {Q:List Ins→Prop} (h : ∀l,(∀x∈l,Q x.l∧Q x.e)→Q l) : ∀l,Q l:=by
 have key : ∀(N:Nat) (l:List Ins),aU l≤N→Q l:=by
  intro N
  induction N with
  |zero=>
   intro l hl
   cases l with
   |nil=>exact h [] (fun _ hx=>by cases hx)
   |cons x r=>cases x;simp only[aU,kN] at hl;omega
  |succ N ih=>
   intro l hl
   refine h l fun x hx=> ?_
   have hn:kN x≤aU l:=by
    clear hl
    induction l with
    |nil=>cases hx
    |cons y r ih2=>
     simp only[aU]
     cases hx with
     |head=>omega
     |tail _ hx=>have:=ih2 hx;omega
   obtain⟨op,rs,a,b,nn,tg,ll,le⟩:=x
   simp only[kN] at hn
   exact⟨ih ll (by omega),ih le (by omega)⟩
 exact fun l=>key _ l (Nat.le_refl _)
theorem oM {l:List Ins} {x:Ins} (hx:x∈l):kN x≤aU l:=by
 induction l with
 |nil=>cases hx
 |cons y r ih=>
  simp only[aU]
  cases hx with
  |head=>omega
  |tail _ hx=>have:=ih hx;omega
open Classical in
noncomputable def eX {α:Type} (d:α) (F:List Ins→α) (cs:List PV):α:=if h : ∃l,cs=ak l then F h.choose else d
theorem kj {α:Type} (d:α) (F:List Ins→α) (l:List Ins):eX d F (ak l)=F l:=by
 have h : ∃l',ak l=ak l':=⟨l,rfl⟩
 unfold eX
 rw[dif_pos h,←jI h.choose_spec]
end Go.Am
end
