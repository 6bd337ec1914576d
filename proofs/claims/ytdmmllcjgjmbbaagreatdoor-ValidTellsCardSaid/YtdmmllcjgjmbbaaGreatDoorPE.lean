import Derived.Test.YtdmmllcjgjmbbaaGreatDoorPD
import Derived.Test.YtdmmllcjgjmbbaaGreatDoorChecked
import Derived.Test.YtdmmllcjgjmbbaaGreatDoorPC
import GoSem.PinnedTables
open Go.Lit renaming int→ade
open List renaming length_append→du,getD_eq_getElem?_getD→de,getElem?_eq_some_iff→dt,drop_zero→adr,getElem?_eq_getElem→df,flatMap→adw,drop_succ_cons→adx,take_succ_cons→adL,mem_of_getElem?→mf,length_cons→na,map→adP,flatMap_cons→adY,take_zero→ad2,drop_eq_getElem_cons→aeo,length_nil→aep,flatMap_append→aeq,range'→pw,nil_append→H0,getElem?_append_right→Hn,map_append→aer,drop_length→aes,mem_singleton→aet,getElem?_append_left→od,append_assoc→pa,getElem?_cons_zero→ml,length_map→ov,append_nil→QR,getElem?_eq_none→dT,take→aeu,map_cons→mi,getElem?_map→en,foldr_append→aev,all_eq_true→QQ,any_cons→aew
open Option.some renaming injEq→kb
open Go.DataW renaming trod→acB
open Nat renaming beq→ai,le_of_ble_eq_true→ae,lt_or_ge→be,reduceAdd→aex,add_assoc→bm,zero_le→acb,zero_add→ri,ble_eq→aey,add_mul→rb,mul_one→aez,zero_mul→aeA,le_refl→aw
open Go.Proofs.Tryz renaming prog→aeB
open Go.IntKind renaming i64→tp,u32→acU
open Go.LoopState renaming ready→aeC
open Go.Fn renaming func→aeD
open Option renaming none→aeE,some→aeF,getD_some→km
open Go.TypeInfo renaming mk→aeG
open Go.Value renaming int→vd,string→aeH,slice→aeI
open Min renaming min→aeJ
open Max renaming max→aeK
open Int renaming toNat_natCast→aeL
open Bool renaming eq_iff_iff→aeM,and_eq_true→jn,and_true→aeN,or_eq_true→j1,true_and→aeO,not_eq_true'→ka,false_or→xo,false_eq_true→pD,and_assoc→aeP
open True renaming intro→aeQ
open ByteArray renaming mk→aeV
open And renaming intro→aeX
noncomputable section
section
namespace Go.Am
open Go.RowKit
inductive Ins where
 |mk (op results a b n:Int) (tags:List Int) (l e:List Ins)
namespace Ins
def op:Ins→Int | .mk op _ _ _ _ _ _ _=>op
def results:Ins→Int | .mk _ r _ _ _ _ _ _=>r
def a:Ins→Int | .mk _ _ a _ _ _ _ _=>a
def b:Ins→Int | .mk _ _ _ b _ _ _ _=>b
def n:Ins→Int | .mk _ _ _ _ n _ _ _=>n
def tags:Ins→List Int | .mk _ _ _ _ _ t _ _=>t
def l:Ins→List Ins | .mk _ _ _ _ _ _ l _=>l
def e:Ins→List Ins | .mk _ _ _ _ _ _ _ e=>e
end Ins
def dg (k:IntKind) (l:List Int):List PV:=l.map fun t=> .sc (.int k t)
mutual
def xV:Ins→List PV
 |.mk op r a b n tags l e=>[.sc (.int .i64 op),.sc (.int .i64 r),.sc (.int .u32 a),.sc (.int .u32 b),.sc (.int .i32 n),.ps tags.length 1 (dg .u32 tags),.ps l.length 8 (ak l),.ps e.length 8 (ak e)]
def ak:List Ins→List PV
 |[]=>[]
 |x::r=>xV x++ak r
end
mutual
def Jt:Ins→Prop
 |.mk op r a b n tags l e=>(ade .i64 op).wf=true∧(ade .i64 r).wf=true∧(ade .u32 a).wf=true∧(ade .u32 b).wf=true∧(ade .i32 n).wf=true∧(tags.length≤maxLen ∧ ∀t∈tags,(ade .u32 t).wf=true)∧(l.length≤maxLen∧Ke l)∧e.length≤maxLen∧Ke e
def Ke:List Ins→Prop
 |[]=>True
 |x::r=>Jt x∧Ke r
end
theorem DH : ∀l:List Ins,ak l=l.flatMap xV
 |[]=>rfl
 |x::r=>by rw[ak,DH r];rfl
theorem Mc : ∀{l:List Ins},(∀x∈l,Jt x)→Ke l
 |[],_=>trivial
 |x::_,h=>⟨h x (.head _),Mc fun y hy=>h y (.tail _ hy)⟩
theorem lH : ∀x:Ins,(xV x).length=8
 |.mk .. =>rfl
structure aaw (P:Program) (tL tI ti tu tn tt:TypeId) (fs:Array Field):Prop where
 hL:P.underlying tL=some (.slice tI)
 hI:P.underlying tI=some (.struct fs)
 hz:P.cellsOf tI=8
 hf:fs.toList.map (fun f=>(f.offset,f.type))=[(0,ti),(1,ti),(2,tu),(3,tu),(4,tn),(5,tt),(6,tL),(7,tL)]
 h1:P.cellsOf ti=1∧P.cellsOf tu=1∧P.cellsOf tn=1∧P.cellsOf tt=1∧P.cellsOf tL=1
 ki:P.underlying ti=some (.int .i64)
 ku:P.underlying tu=some (.int .u32)
 kn:P.underlying tn=some (.int .i32)
 kt:P.underlying tt=some (.slice tu)
section
variable {H:Type} {enc:TypeId×Value→H} {P:Program} {w:World} {base:Nat} {spare:Nat→Bool} {held:Bool} {tL tI ti tu tn tt:TypeId} {fs:Array Field}
theorem fld {i:Nat} {o t:Nat} (hf:(fs.toList.map fun f=>(f.offset,f.type))[i]? = some (o,t)) : ∃f,fs[i]? = some f∧f.offset=o∧f.type=t:=by
 rw[en] at hf
 cases h:fs.toList[i]? with
 |none=>rw[h] at hf;cases hf
 |some f=>
  rw[h] at hf
  simp only[Option.map_some,kb,Prod.mk.injEq] at hf
  exact⟨f,by simpa using h,hf.1,hf.2⟩
theorem b8.cat {w:World} {x:PV} {l:List PV} {v:Value} {cs:List Value} (h:b8 w [x] [v]) (k:b8 w l cs):b8 w (x::l) (v::cs):=h.append k
theorem Hy (T:aaw P tL tI ti tu tn tt fs) : ∀(fuel:Nat) (cs:List Value) (x:DataW H×List MemPlace),acB enc P w base spare held fuel tL cs=some x →
  ∃l:List Ins,(l.length≤maxLen∧Ke l)∧b8 w [.ps l.length 8 (ak l)] cs:=by
 intro fuel
 induction fuel using Nat.strongRecOn with
 |ind fuel ih=>
  intro cs x h
  obtain⟨xs,h0,h1,h2⟩:=nj (p9:=xV) (wf:=Jt) T.hL (by rw[T.hz];omega) h fun n hn us y hy=>by
   obtain⟨m,rfl,hlen,hg⟩:=lT T.hI hy
   rw[T.hz] at hlen
   have get : ∀(i:Nat) (o t:Nat),[(0,ti),(1,ti),(2,tu),(3,tu),(4,tn),(5,tt),(6,tL),(7,tL)][i]? = some (o,t)→P.cellsOf t=1 → ∃y,acB enc P w base spare held m t ((us.drop o).take 1)=some y:=by
    intro i o t hi hc
    obtain⟨f,q1,q2,q3⟩:=fld (fs:=fs) (i:=i) (by rw[T.hf];exact hi)
    obtain⟨y,hy⟩:=hg i f q1
    rw[q2,q3,hc] at hy
    exact⟨y,hy⟩
   obtain⟨c1,c2,c3,c4,c5⟩:=T.h1
   obtain⟨y0,e0⟩:=get 0 0 ti rfl c1
   obtain⟨y1,e1⟩:=get 1 1 ti rfl c1
   obtain⟨y2,e2⟩:=get 2 2 tu rfl c2
   obtain⟨y3,e3⟩:=get 3 3 tu rfl c2
   obtain⟨y4,e4⟩:=get 4 4 tn rfl c3
   obtain⟨y5,e5⟩:=get 5 5 tt rfl c4
   obtain⟨y6,e6⟩:=get 6 6 tL rfl c5
   obtain⟨y7,e7⟩:=get 7 7 tL rfl c5
   match us,hlen with
   |[u0,u1,u2,u3,u4,u5,u6,u7],_=>
    simp only[adr,adx,adL,ad2] at e0 e1 e2 e3 e4 e5 e6 e7
    obtain⟨n0,w0,k0⟩:=b9 T.ki e0
    obtain⟨n1,w1,k1⟩:=b9 T.ki e1
    obtain⟨n2,w2,k2⟩:=b9 T.ku e2
    obtain⟨n3,w3,k3⟩:=b9 T.ku e3
    obtain⟨n4,w4,k4⟩:=b9 T.kn e4
    obtain⟨n5,w5,w5',k5⟩:=uj T.kt T.ku c2 e5
    obtain⟨n6,w6,k6⟩:=ih m (by omega) _ _ e6
    obtain⟨n7,w7,k7⟩:=ih m (by omega) _ _ e7
    exact⟨.mk n0 n1 n2 n3 n4 n5 n6 n7,⟨w0,w1,w2,w3,w4,⟨w5,w5'⟩,w6,w7⟩,k0.cat (k1.cat (k2.cat (k3.cat (k4.cat (k5.cat (k6.cat k7))))))⟩
  refine⟨xs,⟨h0,Mc h1⟩,?_⟩
  rw[T.hz,←DH] at h2
  exact h2
end
end Go.Am
end
section
namespace Go.Am
theorem kN (k:IntKind) (l:List Int) (n:Nat) (h:n<l.length):(dg k l).getD n .aU = .sc (.int k (l.getD n 0)):=by
 simp[dg,de,df h]
theorem Hz (k:IntKind) (l:List Int) (n:Nat) (h:l.length≤n):(dg k l).getD n .aU = .aU:=by
 simp[dg,de,dT h]
@[simp] theorem Bz (k:IntKind) (l:List Int) (n:Nat):au ((dg k l).getD n .aU)=l.getD n 0:=by
  rcases be n l.length with h | h
  · rw[kN k l n h];rfl
  · rw[Hz k l n h]
    simp[de,dT h]
    rfl
@[simp] theorem BA (k:IntKind) (l:List Int) (n:Nat):isInt k ((dg k l).getD n .aU)=decide (n<l.length):=by
  rcases be n l.length with h | h
  · rw[kN k l n h];simp[isInt,h]
  · rw[Hz k l n h];simp[isInt];omega
theorem HA {k:IntKind} : ∀{l m:List Int},dg k l=dg k m→l=m
 |[],[],_=>rfl
 |[],_::_,h=>by simp[dg] at h
 |_::_,[],h=>by simp[dg] at h
 |a::l,b::m,h=>by
  simp only[dg,mi,List.cons.injEq,PV.sc.injEq,Value.int.injEq,true_and] at h
  rw[h.1,HA (l:=l) (m:=m) h.2]
mutual
theorem QW : ∀{x y:Ins},xV x=xV y→x=y
 |.mk op r a b n tags l e,.mk op' r' a' b' n' tags' l' e',h=>by
  simp only[xV,List.cons.injEq,PV.sc.injEq,Value.int.injEq,PV.ps.injEq,true_and,and_true] at h
  obtain⟨rfl,rfl,rfl,rfl,rfl,⟨_,h5⟩,⟨_,h6⟩,_,h7⟩:=h
  rw[HA h5,oQ h6,oQ h7]
theorem oQ : ∀{l m:List Ins},ak l=ak m→l=m
 |[],[],_=>rfl
 |[],.mk .. :: _,h=>by simp[ak,xV] at h
 |.mk .. :: _,[],h=>by simp[ak,xV] at h
 |x::l,y::m,h=>by
  simp only[ak] at h
  obtain⟨h1,h2⟩:=List.append_inj h (by rw[lH,lH])
  rw[QW h1,oQ h2]
end
theorem oS : ∀{l:List Ins} {k:Nat} {x:Ins},l[k]? = some x → ∀c,c<8→(ak l).getD (k*8+c) .aU=(xV x).getD c .aU
 |[],_,_,h,_,_=>by simp at h
 |y::l,0,x,h,c,hc=>by
  simp only[ml,kb] at h;subst h
  rw[ak,aeA,ri,de,de,od (by rw[lH];exact hc)]
 |y::l,k+1,x,h,c,hc=>by
  have ih:=oS (l:=l) (k:=k) (x:=x) (by simpa using h) c hc
  rw[de] at ih
  rw[ak,de,Hn (by rw[lH];omega),lH,show(k+1)*8+c-8=k*8+c by omega]
  exact ih
theorem zj : ∀l m:List Ins,ak (l++m)=ak l++ak m
 |[],_=>rfl
 |x::l,m=>by rw[List.cons_append,ak,ak,zj l m,pa]
theorem QX (x:Ins):ak [x]=xV x:=by simp[ak]
theorem qa : ∀{l:List Ins} {x:Ins},Ke l→x∈l→Jt x
 |_::_,_,h,.head _=>h.1
 |_::_,_,h,.tail _ hx=>qa h.2 hx
mutual
def uM:Ins→Nat
 |.mk _ _ _ _ _ tags l e=>1+tags.length+gx l+gx e
def gx:List Ins→Nat
 |[]=>0
 |x::r=>uM x+gx r
end
theorem rT : ∀l:List Ins,l.length≤gx l
 |[]=>acb _
 |.mk _ _ _ _ _ t l e::r=>by have:=rT r;simp only[gx,uM,na];omega
theorem nq : ∀{l:List Ins} {x:Ins},x∈l→uM x≤gx l
 |y::l,x,h=>by
  simp only[gx]
  cases h with
  |head=>omega
  |tail _ h=>have:=nq h;omega
mutual
def dA:List Ins→Int→Int→Int
 |[],_,n=>n
 |x::r,most,n=>if n≤most then dA r most (BB x most n) else n
def BB:Ins→Int→Int→Int
 |.mk _ _ _ _ _ tags l e,most,n=>
  let n1:=n+1+min (tags.length:Int) most
  let n2:=if n1≤most then n1+dA l (most-n1) 0 else n1
  if n2≤most then n2+dA e (most-n2) 0 else n2
end
mutual
theorem BC : ∀(x:Ins) (most n:Int),0≤n→n≤most→n≤BB x most n∧BB x most n≤2*most+1
 |.mk _ _ _ _ _ tags l e,most,n,h0,h=>by
  simp only[BB]
  generalize hn1:n+1+min (tags.length:Int) most=n1
  have h1:n+1≤n1∧n1≤2*most+1:=by omega
  generalize hn2:(if n1≤most then n1+dA l (most-n1) 0 else n1)=n2
  have h2:n1≤n2∧n2≤2*most+1:=by
   rw[←hn2]
   split
   · have:=cP l (most-n1) 0 (by omega) (by omega) (by omega);omega
   · omega
  split
  · have:=cP e (most-n2) 0 (by omega) (by omega) (by omega);omega
  · omega
theorem cP : ∀(l:List Ins) (most n:Int),0≤most→0≤n→n≤2*most+1→n≤dA l most n∧dA l most n≤2*most+1
 |[],most,n,_,_,h=>by simp only[dA];omega
 |x::r,most,n,hm,h0,h=>by
  simp only[dA]
  split
  · have h1:=BC x most n h0 (by omega)
    have h2:=cP r most (BB x most n) hm (by omega) (by omega)
    omega
  · omega
end
mutual
theorem QY : ∀(x:Ins) (most n:Int),0≤n→n≤most→BB x most n≤most→BB x most n=n+uM x
 |.mk _ _ _ _ _ tags l e,most,n,h0,h=>by
  simp only[BB,uM]
  generalize hn1:n+1+min (tags.length:Int) most=n1
  generalize hn2:(if n1≤most then n1+dA l (most-n1) 0 else n1)=n2
  intro h3
  have hle:n2≤most:=by
   split at h3
   · rename_i q;exact q
   · exact h3
  rw[if_pos hle] at h3 ⊢
  have hr2:=cP e (most-n2) 0 (by omega) (by omega) (by omega)
  have afB:n1≤most:=by
   rw[←hn2] at hle
   split at hle
   · rename_i q;exact q
   · exact hle
  rw[if_pos afB] at hn2
  have CN:=cP l (most-n1) 0 (by omega) (by omega) (by omega)
  have e1:=rU l (most-n1) 0 (by omega) (by omega) (by omega)
  have e2:=rU e (most-n2) 0 (by omega) (by omega) (by omega)
  have:min (tags.length:Int) most=tags.length:=by omega
  push_cast
  omega
theorem rU : ∀(l:List Ins) (most n:Int),0≤most→0≤n→dA l most n≤most→dA l most n=n+gx l
 |[],most,n,_,_,h=>by simp[dA,gx]
 |x::r,most,n,hm,h0,h=>by
  simp only[dA,gx] at h ⊢
  split at h
  · rename_i hn
    rw[if_pos hn]
    have hr:=BC x most n h0 hn
    have hr2:=cP r most (BB x most n) hm (by omega) (by omega)
    have e1:=QY x most n h0 hn (by omega)
    have e2:=rU r most (BB x most n) hm (by omega) h
    push_cast
    omega
  · omega
end
end Go.Am
end
section
namespace Go.Proofs.YtdmmllcjgjmbbaaGreatDoor.N
open Go Go.Am
def aA (l:List PV) (n:Nat):PV:=l.getD n PV.aU
def aF (i:Nat):Nat:=(i:Int).toNat
def iT:aG:= .out (.ret (sB true) [])
def bP:AV:= .os none 0 0 []
theorem br:(∀l n,aA l n=l.getD n PV.aU)∧(∀i,aF i=(i:Int).toNat)∧iT = .out (.ret (sB true) [])∧bP = .os none 0 0 []:=⟨fun _ _=>rfl,fun _=>rfl,rfl,rfl⟩
def QZ:List Int:=[0,0,0,0,0,0,0,0,0,1,1,1,1,1,0,0,0,0,0,0,0,0,0,0,0,0,0,0,0,0,0,0,1]++List.replicate 223 0
def kO:List Int:=Pinned.utf8FirstZ.map fun(n:Nat)=>(n:Int)
def adu:List Int:=[128,191,160,191,128,159,144,191,128,143,0,0,0,0,0,0,0,0,0,0,0,0,0,0,0,0,0,0,0,0,0,0]
def tabs:List (Nat×List Value):=[(2,QZ.map (.int .u8)),(0,kO.map (.int .u8)),(1,adu.map (.int .u8))]
def keeps:List (Nat×Nat×List Nat):=[(6,2,[1,2,5,6]),(6,6,[1,2,5,7]),(6,10,[1,2,5,8]),(6,14,[1,2,5,9]),(6,18,[1,2,5,10]),(6,22,[1,2,5,11]),(7,0,[1,2,3,4]),(7,4,[1,2,3,6]),(7,8,[1,2,3,7]),(7,12,[1,2,3,8]),(11,0,[1,2,3,8]),(12,0,[1,6,7,8]),(14,0,[3,7,8,9]),(15,0,[1,3,4]),(15,4,[1,3,5]),(15,8,[1,3,6]),(15,12,[1,3,7]),(16,2,[2,3,5]),(16,8,[2,3,6]),(16,14,[2,3,7]),(20,2,[1,2,4]),(23,0,[0,1,5,6]),(24,0,[0,3,4]),(25,0,[0,1,7,8]),(28,0,[1,3,7,8,9]),(30,2,[1,3]),(30,8,[1,4,5]),(31,0,[1,3,4]),(31,6,[1,5,6]),(32,0,[1,3]),(32,6,[1,4]),(32,12,[1,5]),(33,0,[1,3,4]),(33,6,[1,5]),(33,12,[1,6]),(33,18,[1,7]),(34,0,[1,3,13,14,15]),(34,4,[1,3,27,28,29]),(34,8,[1,3,40,41,42]),(34,12,[3,53,54,55]),(36,0,[0,3,4]),(38,0,[2,3,5]),(38,6,[2,3,6]),(38,12,[2,3,7]),(38,18,[2,3,8]),(38,24,[2,3,9]),(38,30,[2,3,10]),(44,0,[1,2,3]),(44,6,[1,2,4]),(44,12,[1,2,5]),(45,0,[1,2,3]),(45,6,[1,2,3,4]),(46,0,[1,2,3]),(46,8,[1,2,3,6]),(47,0,[1,2,3]),(47,6,[1,2,6]),(51,2,[0,3,4]),(54,0,[1,8,9,10]),(56,0,[1,3,9,10,11]),(56,4,[3,24,25,26]),(67,0,[3,11]),(74,0,[1,2,5]),(74,6,[1,2,6]),(74,12,[1,2,7]),(74,18,[1,2,8]),(75,0,[1,3,4]),(75,4,[1,3,5]),(80,2,[0,1,5]),(81,2,[0,1,5]),(84,0,[0,6,7,8]),(86,0,[0,1,3,4,10,11,12]),(90,0,[0,2,6,10,11]),(98,4,[3,22,23,24]),(105,0,[0,1,7,8]),(107,0,[0,1,7,8]),(108,0,[0,1,7,8]),(109,0,[0,1,7,8]),(110,0,[0,1,7,8]),(112,0,[0,1,7,8]),(114,0,[0,3,4,5]),(115,0,[0,3]),(115,4,[0,3,4,25,26,27]),(127,2,[0,1,7,8,10]),(133,0,[0,2,4,6,13,14,15]),(133,4,[0,2,9,32,33,34]),(141,6,[0,3,5,6,8,11]),(141,10,[0,3,5,6,8,12,13]),(145,0,[0,3]),(146,0,[0,3,4]),(147,0,[0,3]),(164,2,[1,3,28,29,30]),(170,0,[0,1,10,11,12]),(170,4,[0,1,24,25,26])]
def wrs (f d:Nat):Bool:=(ai f 115&&ai d 9)||(ai f 165&&ai d 5)||(ai f 83&&ai d 13)
def env:Env where
 cX:=zh tabs
 wr:=wrs
 keep:=Ka keeps
theorem aI:ju aeB:=J8 (by kernel_rfl)
end Go.Proofs.YtdmmllcjgjmbbaaGreatDoor.N
end
section
namespace Go.Am
mutual
def Gw (p:Ins→Bool):Ins→Bool
 |.mk op r a b n tags l e=>p (.mk op r a b n tags l e)&&(th p l&&th p e)
def th (p:Ins→Bool):List Ins→Bool
 |[]=>true
 |x::r=>Gw p x&&th p r
end
mutual
def jz:Ins→Nat
 |.mk _ _ _ _ _ _ l e=>1+bF l+bF e
def bF:List Ins→Nat
 |[]=>0
 |x::r=>jz x+bF r
end
mutual
def vX:Nat→Ins→Nat
 |d,.mk _ _ _ _ _ _ l e=>max d (max (dw (d+1) l) (dw (d+1) e))
def dw:Nat→List Ins→Nat
 |_,[]=>0
 |d,x::r=>max (vX d x) (dw d r)
end
mutual
def vY:Ins→Nat
 |.mk _ _ _ _ _ tags l e=>max tags.length (max (iZ l) (iZ e))
def iZ:List Ins→Nat
 |[]=>0
 |x::r=>max (vY x) (iZ r)
end
theorem eu : ∀l:List Ins,l.length≤bF l
 |[]=>acb _
 |.mk _ _ _ _ _ t l e::r=>by have:=eu r;simp only[bF,jz,na];omega
mutual
theorem Q1 : ∀x:Ins,jz x≤uM x
 |.mk _ _ _ _ _ t l e=>by have:=vZ l;have:=vZ e;simp only[jz,uM];omega
theorem vZ : ∀l:List Ins,bF l≤gx l
 |[]=>acb _
 |x::r=>by have:=Q1 x;have:=vZ r;simp only[bF,gx];omega
end
mutual
theorem Q3 : ∀x:Ins,vY x≤uM x
 |.mk _ _ _ _ _ t l e=>by have:=BD l;have:=BD e;simp only[vY,uM];omega
theorem BD : ∀l:List Ins,iZ l≤gx l
 |[]=>acb _
 |x::r=>by have:=Q3 x;have:=BD r;simp only[iZ,gx];omega
end
mutual
theorem Q4 : ∀(d:Nat) (x:Ins),vX d x≤d+jz x
 |d,.mk _ _ _ _ _ t l e=>by have:=rV (d+1) l;have:=rV (d+1) e;simp only[vX,jz];omega
theorem rV : ∀(d:Nat) (l:List Ins),dw d l≤d+bF l
 |_,[]=>acb _
 |d,x::r=>by have:=Q4 d x;have:=rV d r;simp only[dw,bF];omega
end
mutual
theorem Kf : ∀(d:Nat) (x:Ins),vX (d+1) x=vX d x+1
 |d,.mk _ _ _ _ _ t l e=>by
  have h1:=nr (d+1) l
  have h2:=nr (d+1) e
  simp only[vX]
  cases l with
  |nil=>cases e with
   |nil=>simp[dw]
   |cons y e=>rw[h2 (by simp)];simp only[dw];omega
  |cons x l=>cases e with
   |nil=>rw[h1 (by simp)];simp only[dw];omega
   |cons y e=>rw[h1 (by simp),h2 (by simp)];omega
theorem nr : ∀(d:Nat) (l:List Ins),l≠[]→dw (d+1) l=dw d l+1
 |_,[],h=>absurd rfl h
 |d,x::r,_=>by
  have h1:=Kf d x
  cases r with
  |nil=>simp only[dw,h1];omega
  |cons y r=>rw[dw,nr d (y::r) (by simp),h1,dw.eq_2 d x];omega
end
abbrev aL (l:List Ins):AV:= .p (.ps l.length 8 (ak l))
def cr (op r a b nn:Int) (tg:List Int) (ll le:List Ins):AV:= .agg [sI .i64 op,sI .i64 r,sI .u32 a,sI .u32 b,sI .i32 nn,.p (.ps tg.length 1 (dg .u32 tg)),aL ll,aL le]
def HB:Ins→AV
 |.mk op r a b nn tg ll le=>cr op r a b nn tg ll le
theorem Q5 {l m:List Ins} (h:aL l=aL m):l=m:=by
 simp only[AV.p.injEq,PV.ps.injEq] at h
 exact oQ h.2.2
theorem hY {l:List Ins} {k:Nat} {op rs a b nn:Int} {tags:List Int} {ll le:List Ins} (h:l[k]? = some (.mk op rs a b nn tags ll le)) :
  (ak l).getD (k*8) .aU = .sc (.int .i64 op)∧(ak l).getD (k*8+1) .aU = .sc (.int .i64 rs)∧(ak l).getD (k*8+2) .aU = .sc (.int .u32 a)∧(ak l).getD (k*8+3) .aU = .sc (.int .u32 b) ∧
    (ak l).getD (k*8+4) .aU = .sc (.int .i32 nn)∧(ak l).getD (k*8+5) .aU = .ps tags.length 1 (dg .u32 tags)∧(ak l).getD (k*8+6) .aU = .ps ll.length 8 (ak ll)∧(ak l).getD (k*8+7) .aU = .ps le.length 8 (ak le):=
 have hc:=oS h
 ⟨hc 0 (by omega),hc 1 (by omega),hc 2 (by omega),hc 3 (by omega),hc 4 (by omega),hc 5 (by omega),hc 6 (by omega),hc 7 (by omega)⟩
abbrev lU:=List (List Ins×Nat)
def eF (st:lU):List PV:=st.flatMap fun e=>[.ps e.1.length 8 (ak e.1),.sc (.int .i64 e.2)]
def Q6 (p:Ins→Bool) (st:lU):Bool:=st.all fun e=>th p e.1
def wg (st:lU):Nat:=(st.map fun e=>bF e.1).sum
def BE (st:lU):Nat:=(st.map fun e=>dw e.2 e.1).foldr max 0
def BF (st:lU):Nat:=(st.map fun e=>iZ e.1).foldr max 0
def wS (st:lU):Nat:=(st.map fun e=>2*bF e.1+1).sum
theorem lI : ∀st:lU,(eF st).length=st.length*2
 |[]=>rfl
 |e::st=>by rw[eF,adY,du,na];have:=lI st;rw[eF] at this;rw[this];simp;omega
theorem rW (s t:lU):eF (s++t)=eF s++eF t:=by simp[eF]
theorem DI (s:List Nat) (b:Nat):s.foldr max b=max (s.foldr max 0) b:=by
 induction s with
 |nil=>simp
 |cons a s ih=>simp only[List.foldr_cons,ih];omega
theorem uN (p:Ins→Bool) (s t:lU):Q6 p (s++t)=(Q6 p s&&Q6 p t):=by simp[Q6]
theorem nX (s t:lU):wg (s++t)=wg s+wg t:=by simp[wg]
theorem xW (s t:lU):wS (s++t)=wS s+wS t:=by simp[wS]
theorem zk (s t:lU):BE (s++t)=max (BE s) (BE t):=by simp only[BE,aer,aev];rw[DI]
theorem zl (s t:lU):BF (s++t)=max (BF s) (BF t):=by simp only[BF,aer,aev];rw[DI]
@[simp] theorem Ah (p:Ins→Bool) (l:List Ins) (d:Nat):Q6 p [(l,d)]=th p l:=by simp[Q6]
@[simp] theorem BG (l:List Ins) (d:Nat):wg [(l,d)]=bF l:=by simp[wg]
@[simp] theorem aay (l:List Ins) (d:Nat):wS [(l,d)]=2*bF l+1:=by simp[wS]
@[simp] theorem HC (l:List Ins) (d:Nat):BE [(l,d)]=dw d l:=by simp[BE]
@[simp] theorem HD (l:List Ins) (d:Nat):BF [(l,d)]=iZ l:=by simp[BF]
theorem xX : ∀st:lU,st.length≤wS st
 |[]=>acb _
 |e::st=>by have:=xX st;simp only[wS,mi,List.sum_cons,na] at this ⊢;omega
def jc (st:lU) (cells:List AV):Prop:=cells.take (st.length*2)=(eF st).map .p
theorem jc.len {st:lU} {cells:List AV} (h:jc st cells):st.length*2≤cells.length:=by
 have:=congrArg List.length h
 rw[List.length_take,ov,lI] at this
 omega
theorem jc.top {st:lU} {x:List Ins} {d:Nat} {cells:List AV} (h:jc (st++[(x,d)]) cells):cells.getD (st.length*2) .az = .p (.ps x.length 8 (ak x))∧cells.getD (st.length*2+1) .az = .p (.sc (.int .i64 d)):=by
 have hl:=h.len
 simp only[du,na,aep] at hl
 have get : ∀j,j<2→cells.getD (st.length*2+j) .az=((eF (st++[(x,d)])).map AV.p).getD (st.length*2+j) .az:=by
  intro j hj
  rw[←show cells.take ((st++[(x,d)]).length*2)=_ from h,de,de,List.getElem?_take_of_lt (by simp only[du,na,aep];omega)]
 have g0:=get 0 (by omega)
 have g1:=get 1 (by omega)
 rw[rW,aer,de (l:=adP AV.p (eF st)++_),Hn (by simp[lI])] at g0 g1
 simp only[ov,lI] at g0 g1
 rw[show st.length*2+0-st.length*2=0 by omega] at g0
 rw[show st.length*2+1-st.length*2=1 by omega] at g1
 exact⟨by simpa[eF] using g0,by simpa[eF] using g1⟩
theorem jc.pop {st:lU} {e:List Ins×Nat} {cells:List AV} (h:jc (st++[e]) cells):jc st cells:=by
 unfold jc at h ⊢
 have:=congrArg (aeu (st.length*2)) h
 rw[List.take_take,rW,aer,List.take_left' (by simp[lI])] at this
 rw[←this];congr 1
 simp only[du,na,aep];omega
theorem jc.keep {st:lU} {cells:List AV} (h:jc st cells):jc st (cells.map aC):=by
 unfold jc at h ⊢
 rw[←List.map_take,h,List.map_map];rfl
theorem jc.push {st:lU} {cells:List AV} (h:jc st cells) (x:List Ins) (d:Nat):jc (st++[(x,d)]) (cells.take (st.length*2)++[.p (.ps x.length 8 (ak x)),.p (.sc (.int .i64 d))]):=by
 have hl:=h.len
 unfold jc at h ⊢
 rw[List.take_of_length_le (by simp;omega),h,rW,aer];rfl
end Go.Am
end
section
namespace Go.Proofs.YtdmmllcjgjmbbaaGreatDoor.N
open Go Go.Am
def aB (_:FuncId) (_:List AV) (_:Mem):Option (AV×Mem):=none
abbrev sP (n:Int):PV:= .sc (.int .i64 n)
def recC (l:List Ins) (st:LoopState) (pd:Option Code):bf:= .ob (rS aeB 106 0 st pd) [aL l,.az,.mp 2 0,.p (.sc (.bool false)),.mp 3 0,.mp 4 0,.mp 5 0,.az,.az,aL l,.fn (.func 115) [] [.mp 1 0],.az,.az,.az,.az,.az,.az,.az,.az,.az,.az,.az,.az,.az,.az,.az,.az,.az,.az,.az,.az,.az,.az,.az,.az,.az,.az]
def Np (l:List Ins) (tags n most:Int) (cells:List AV):Mem:=[recC l .ready none,.pc [.ps l.length 8 (ak l)],.pc [sP 0],.pc [sP tags],.pc [sP n],.pc [sP most],.ob (.gr 157 true) cells]
def afD (_l:List Ins) (_tags _n _most:Int) (_cells:List AV) (k:Nat) (x:List Ins) (d:Int):FuncId→Nat→Nat→Option (AV→AV):=cJ [(115,3,3,sI .i64 k),(115,3,5,.agg [aL x,sI .i64 d]),(115,4,3,sI .i64 k)]
def afE (_l:List Ins) (_tags n _most:Int) (_cells:List AV) (_k:Nat) (_xs:List Ins) (d:Int) (i:Nat) (op r a b nn:Int) (tg:List Int) (ll le:List Ins) (_ok:Bool):FuncId→Nat→Nat→Option (AV→AV):=cJ [(115,7,1,cr op r a b nn tg ll le),(115,13,0,sI .i64 ((i+1:Nat):Int)),(115,10,5,sI .i64 (d+1)),(115,12,5,sI .i64 (d+1)),(106,8,1,sI .i64 (n+1))]
abbrev j3 (x0:Nat):Bool:=bE (↑x0:Int) (x0+1)&&true&&true
abbrev jI (x0:Nat):Prop:=sI .i64 (tp.wrap ((↑(x0+1):Int)-1))=sI tp (↑x0:Int)
abbrev Me (x0:List Ins) (x1:Int) (x2:Int) (x3:Int):Mem:=[.ob (rS aeB 106 0 aeC none) [.p (.ps x0.length 8 (ak x0)),.az,.mp 2 0,sB false,.mp 3 0,.mp 4 0,.mp 5 0,.az,.az,.p (.ps x0.length 8 (ak x0)),.fn (aeD 115) [] [.mp 1 0],.az,.az,.az,.az,.az,.az,.az,.az,.az,.az,.az,.az,.az,.az,.az,.az,.az,.az,.az,.az,.az,.az,.az,.az,.az,.az],.pc [.ps x0.length 8 (ak x0)],.pc [sP 0],.pc [sP x1],.pc [sP x2],.pc [sP x3]]
theorem Q7 (l:List Ins) (tags n most:Int) (cells:List AV) (k:Nat) (x:List Ins) (d:Int):grow aeB env (fc aB av [(115,0),(115,2)] [(115,0,1)] (fm 115 [(3,4),(3,5),(4,4)]) (afD l tags n most cells k x d)) 1000000 true (ah aeB env 115 0 ([AV.vy 0,AV.ms 6 0 (k+1) 2 aeE]) (Np l tags n most cells) 6 64) (.fin) atEnd =
(.test (decide ((↑(k+1):Int)>0))
 (.need ((jI k))
 (.must ((j3 k))
 (.must ((0+(aF k)*2+2).ble cells.length&&((cg (some (aeG (TypeDesc.slice 55) "[]api.Instr" 1 24 true 8 8 (some (aeI none 0 0)) false #[]).desc) (cells.getD (0+(aF k)*2) .az)).snd&&((cg (some (aeG (TypeDesc.int tp) "int" 1 8 false 8 8 (some (.int .i64 0)) true #[]).desc) (cells.getD (0+(aF k)*2+1) .az)).snd&&true))&&true)
 (.need (AV.agg [(cg (aeF (aeG (TypeDesc.slice 55) "[]api.Instr" 1 24 true 8 8 (aeF (aeI aeE 0 0)) false #[]).desc) (cells.getD (0+(aF k)*2) AV.az)).fst,(cg (aeF (aeG (TypeDesc.int tp) "int" 1 8 false 8 8 (aeF (vd tp 0)) true #[]).desc) (cells.getD (0+(aF k)*2+1) AV.az)).fst]=AV.agg [aL x,sI tp d])
 (.need ((jI k))
 (.must ((aF k).ble (k+1)&&true&&true&&true)
 (.at (ah aeB env 115 2 [.vy 0,.ms 6 0 (aF k-0) 2 none,.mp 7 0,.p (.ps x.length 8 (ak x)),sI .i64 (↑x.length:Int),sI .i64 0] ([.ob (rS aeB 106 0 aeC none) [.p (.ps l.length 8 (ak l)),.az,.mp 2 0,sB false,.mp 3 0,.mp 4 0,.mp 5 0,.az,.az,.p (.ps l.length 8 (ak l)),.fn (aeD 115) [] [.mp 1 0],.az,.az,.az,.az,.az,.az,.az,.az,.az,.az,.az,.az,.az,.az,.az,.az,.az,.az,.az,.az,.az,.az,.az,.az,.az,.az],.pc [.ps l.length 8 (ak l)],.pc [sP 0],.pc [sP tags],.pc [sP n],.pc [sP most],.ob (eG.gr 157 true) (adP aC cells),.ac [.p (.ps x.length 8 (ak x)),sI .i64 d]]) 6 64))))))))
 (.out (.ret (.aD []) (Me l tags n most)))):=by kernel_rfl
theorem Q8 (l:List Ins) (tags n most:Int) (cells:List AV):grow aeB env (aJ aB av [(115,0),(115,2)] [] []) 1000000 true (ah aeB env 115 0 ([AV.vy 0,AV.ms 6 0 0 2 aeE]) ([recC l aeC aeE,bf.pc [PV.ps l.length 8 (ak l)],bf.pc [sP 0],bf.pc [sP tags],bf.pc [sP n],bf.pc [sP most],bf.ob (eG.gr 157 true) cells]) 6 64) (.fin) atEnd =
(.out (.ret (.aD []) (Me l tags n most))):=by kernel_rfl
abbrev uO (x0:Nat) (x1:List AV) (x2:List Ins) (x3:Int):Bool:=((x0+1+1)*32).ble eY&&(x0+1+1).ble eY&&(((x0+1)*2).ble (aeu (x0*2) x1++[.p (.ps x2.length 8 (ak x2)),sI .i64 (x3+1)]).length&&true)&&true
abbrev zm (x0:Nat) (x1:List AV):Bool:=((x0+1)*32).ble eY&&(x0+1).ble eY&&((x0*2).ble x1.length&&true)&&true
abbrev gk (x0:Nat) (x1:List Ins):Bool:=bE (↑x0:Int) x1.length&&true&&true
abbrev dh (x0:Nat) (x1:List Ins):Bool:=decide ((↑x0:Int)<(↑x1.length:Int))
abbrev j4 (x0:List Ins):Bool:=decide ((↑x0.length:Int)>0)
abbrev um (x0:Int):Prop:=sI .i64 (tp.wrap (x0+1))=sI tp (x0+1)
abbrev zn (x0:List Ins) (x1:Int) (x2:List Int) (x3:Int) (x4:Int) (x5:Int) (x6:Nat) (x7:List AV) (x8:List Ins) (x9:List Ins):Mem:=[.ob (rS aeB 106 0 (iW none) none) [.p (.ps x0.length 8 (ak x0)),.az,.mp 2 0,sB false,.mp 3 0,.mp 4 0,.mp 5 0,.az,.az,.p (.ps x0.length 8 (ak x0)),.fn (aeD 115) [] [.mp 1 0],.az,.az,.az,.az,.az,.az,.az,.az,.az,.az,.az,.az,.az,.az,.az,.az,.az,.az,.az,.az,.az,.az,.az,.az,.az,.az],.pc [.ps x0.length 8 (ak x0)],.pc [sP 0],.pc [sP (bif false then aeJ x1 (↑x2.length:Int) else aeK x1 (↑x2.length:Int))],.pc [sP (x3+1)],.pc [sP (bif false then aeJ x4 x5 else aeK x4 x5)],.ob (eG.gr 157 true) (adP aC (aeu (x6*2) x7++[.p (.ps x8.length 8 (ak x8)),sI .i64 (x5+1)])),.ac [.p (.ps x9.length 8 (ak x9)),sI .i64 x5]]
abbrev bK (x0:Nat):Prop:=sI .i64 (tp.wrap ((↑x0:Int)+1))=sI tp (↑(x0+1):Int)
abbrev qb (x0:List Ins) (x1:Nat):Bool:=isInt tp (aA (ak x0) (aF x1*8))&&(isInt tp (aA (ak x0) (aF x1*8+1))&&(isInt acU (aA (ak x0) (aF x1*8+1+1))&&(isInt acU (aA (ak x0) (aF x1*8+1+1+1))&&(isInt IntKind.i32 (aA (ak x0) (aF x1*8+1+1+1+1))&&(aX (aA (ak x0) (aF x1*8+1+1+1+1+1))&&(aX (aA (ak x0) (aF x1*8+1+1+1+1+1+1))&&(aX (aA (ak x0) (aF x1*8+1+1+1+1+1+1+1))&&true)))))))&&true
abbrev qc (x0:List Ins) (x1:Nat) (x2:Int) (x3:Int) (x4:Int) (x5:Int) (x6:Int) (x7:List Int) (x8:List Ins) (x9:List Ins):Prop:=AV.agg [sI .i64 (au (aA (ak x0) (aF x1*8))),sI .i64 (au (aA (ak x0) (aF x1*8+1))),sI .u32 (au (aA (ak x0) (aF x1*8+1+1))),sI .u32 (au (aA (ak x0) (aF x1*8+1+1+1))),sI .i32 (au (aA (ak x0) (aF x1*8+1+1+1+1))),AV.p (PV.ps (aq (aA (ak x0) (aF x1*8+1+1+1+1+1))) (aK (aA (ak x0) (aF x1*8+1+1+1+1+1))) (aj (aA (ak x0) (aF x1*8+1+1+1+1+1)))),AV.p (PV.ps (aq (aA (ak x0) (aF x1*8+1+1+1+1+1+1))) (aK (aA (ak x0) (aF x1*8+1+1+1+1+1+1))) (aj (aA (ak x0) (aF x1*8+1+1+1+1+1+1)))),AV.p (PV.ps (aq (aA (ak x0) (aF x1*8+1+1+1+1+1+1+1))) (aK (aA (ak x0) (aF x1*8+1+1+1+1+1+1+1))) (aj (aA (ak x0) (aF x1*8+1+1+1+1+1+1+1))))]=cr x2 x3 x4 x5 x6 x7 x8 x9
theorem BH (l:List Ins) (tags n most:Int) (cells:List AV) (k:Nat) (xs:List Ins) (d:Int) (i:Nat) (op r a b nn:Int) (tg:List Int) (ll:List Ins) (le:List Ins) (ok:Bool):grow aeB env (fc (fun f _ m=>cond (ai f 125) (some (sB ok,m)) none) av [(115,0),(115,2)] [(115,0,3),(106,0,0),(115,0,5),(115,0,6)] (fm 115 [(7,0),(7,1),(10,8),(12,8)]) (afE l tags n most cells k xs d i op r a b nn tg ll le ok)) 1000000 true (ah aeB env 115 2 ([AV.vy 0,AV.ms 6 0 k 2 aeE,AV.mp 7 0,aL xs,sI tp (↑xs.length:Int),sI tp (↑i:Int)]) (Np l tags n most cells++[bf.ac [aL xs,sI tp d]]) 6 64) (.fin) atEnd =
(.test ((dh i xs))
 (.must ((gk i xs))
 (.must ((qb xs i))
 (.need ((qc xs i op r a b nn tg ll le))
 (.call ⟨125,[.agg [sI .i64 op,sI .i64 r,sI .u32 a,sI .u32 b,sI .i32 nn,.p (.ps tg.length 1 (dg acU tg)),.p (.ps ll.length 8 (ak ll)),.p (.ps le.length 8 (ak le))]],[],.p (.sc (.bool ok)),[]⟩
 (.test (!ok)
 (.out (.ret (.aD []) [.ob (rS aeB 106 0 (iW (some Code.ret)) (some Code.ret)) [.p (.ps l.length 8 (ak l)),.az,.mp 2 0,sB false,.mp 3 0,.mp 4 0,.mp 5 0,.az,.az,.p (.ps l.length 8 (ak l)),.fn (aeD 115) [] [.mp 1 0],.az,.az,.az,.az,.az,.az,.az,.az,.az,.az,.az,.az,.az,.az,.az,.az,.az,.az,.az,.az,.az,.az,.az,.az,.az,.az],.pc [.ps l.length 8 (ak l)],.pc [sP 2],.pc [sP tags],.pc [sP n],.pc [sP most]]))
 (.need ((um n))
 (.test ((j4 ll))
 (.need ((um d))
 (.must ((zm k cells))
 (.test ((j4 le))
 (.need ((um d))
 (.must ((uO k cells ll d))
 (.need ((bK i))
 (.at (ah aeB env 115 2 [.vy 0,.ms 6 0 (k+1+1) 2 none,.mp 7 0,.p (.ps xs.length 8 (ak xs)),sI .i64 (↑xs.length:Int),sI .i64 (↑(i+1):Int)] ([.ob (rS aeB 106 0 (iW none) none) [.p (.ps l.length 8 (ak l)),.az,.mp 2 0,sB false,.mp 3 0,.mp 4 0,.mp 5 0,.az,.az,.p (.ps l.length 8 (ak l)),.fn (aeD 115) [] [.mp 1 0],.az,.az,.az,.az,.az,.az,.az,.az,.az,.az,.az,.az,.az,.az,.az,.az,.az,.az,.az,.az,.az,.az,.az,.az,.az,.az],.pc [.ps l.length 8 (ak l)],.pc [sP 0],.pc [sP (bif false then aeJ tags (↑tg.length:Int) else aeK tags (↑tg.length:Int))],.pc [sP (n+1)],.pc [sP (bif false then aeJ most d else aeK most d)],.ob (eG.gr 157 true) (adP aC (aeu ((k+1)*2) (aeu (k*2) cells++[.p (.ps ll.length 8 (ak ll)),sI .i64 (d+1)])++[.p (.ps le.length 8 (ak le)),sI .i64 (d+1)])),.ac [.p (.ps xs.length 8 (ak xs)),sI .i64 d]]) 6 64)))))
 (.need ((bK i))
 (.at (ah aeB env 115 2 [.vy 0,.ms 6 0 (k+1) 2 none,.mp 7 0,.p (.ps xs.length 8 (ak xs)),sI .i64 (↑xs.length:Int),sI .i64 (↑(i+1):Int)] ((zn l tags tg n most d k cells ll xs)) 6 64))))))
 (.test ((j4 le))
 (.need ((um d))
 (.must ((zm k cells))
 (.need ((bK i))
 (.at (ah aeB env 115 2 [.vy 0,.ms 6 0 (k+1) 2 none,.mp 7 0,.p (.ps xs.length 8 (ak xs)),sI .i64 (↑xs.length:Int),sI .i64 (↑(i+1):Int)] ((zn l tags tg n most d k cells le xs)) 6 64)))))
 (.need ((bK i))
 (.at (ah aeB env 115 2 [.vy 0,.ms 6 0 k 2 none,.mp 7 0,.p (.ps xs.length 8 (ak xs)),sI .i64 (↑xs.length:Int),sI .i64 (↑(i+1):Int)] ([.ob (rS aeB 106 0 (iW none) none) [.p (.ps l.length 8 (ak l)),.az,.mp 2 0,sB false,.mp 3 0,.mp 4 0,.mp 5 0,.az,.az,.p (.ps l.length 8 (ak l)),.fn (aeD 115) [] [.mp 1 0],.az,.az,.az,.az,.az,.az,.az,.az,.az,.az,.az,.az,.az,.az,.az,.az,.az,.az,.az,.az,.az,.az,.az,.az,.az,.az],.pc [.ps l.length 8 (ak l)],.pc [sP 0],.pc [sP (bif false then aeJ tags (↑tg.length:Int) else aeK tags (↑tg.length:Int))],.pc [sP (n+1)],.pc [sP (bif false then aeJ most d else aeK most d)],.ob (eG.gr 157 true) (adP aC cells),.ac [.p (.ps xs.length 8 (ak xs)),sI .i64 d]]) 6 64)))))))))))
 (.at (ah aeB env 115 0 [.vy 0,.ms 6 0 k 2 none] ([.ob (rS aeB 106 0 aeC none) [.p (.ps l.length 8 (ak l)),.az,.mp 2 0,sB false,.mp 3 0,.mp 4 0,.mp 5 0,.az,.az,.p (.ps l.length 8 (ak l)),.fn (aeD 115) [] [.mp 1 0],.az,.az,.az,.az,.az,.az,.az,.az,.az,.az,.az,.az,.az,.az,.az,.az,.az,.az,.az,.az,.az,.az,.az,.az,.az,.az],.pc [.ps l.length 8 (ak l)],.pc [sP 0],.pc [sP tags],.pc [sP n],.pc [sP most],.ob (eG.gr 157 true) (adP aC cells)]) 6 64))):=by kernel_rfl
def afF (l:List Ins) (tags n most:Int):Out:= .ret (.aD []) [recC l .ready none,.pc [.ps l.length 8 (ak l)],.pc [sP 0],.pc [sP tags],.pc [sP n],.pc [sP most]]
def adv (l:List Ins) (tags n most:Int):Out:= .ret (.aD []) [recC l .done (some .ret),.pc [.ps l.length 8 (ak l)],.pc [sP 2],.pc [sP tags],.pc [sP n],.pc [sP most]]
def jA:Nat:=1000000000000
def DJ (p:Ins→Bool) (l:List Ins) (st:lU) (tags n most:Nat) (o:Out):Prop:=
 (Q6 p st=true∧o=afF l (max tags (BF st):Nat) (n+wg st:Nat) (max most (BE st):Nat))∨(Q6 p st=false ∧ ∃t k m,o=adv l t k m)
section
variable (p:Ins→Bool) (hp : ∀x:Ins,an aeB env 125 [HB x] [] (sB (p x)) []) (l:List Ins)
include hp in
theorem Nq (N:Nat) (ih : ∀(st:lU) (cells:List AV) (tags n most:Nat),wS st<N→jc st cells→n+wg st≤jA→wS st≤jA→(∀e∈st,e.2+bF e.1≤jA) →
   ∃o,bp aeB env (ah aeB env 115 0 [.vy 0,.ms 6 0 st.length 2 none] (Np l tags n most cells) 6 64) o∧DJ p l st tags n most o) (xs:List Ins) (hxs:xs.length≤jA) (d:Nat) :
  ∀(r i:Nat) (st:lU) (cells:List AV) (tags n most:Nat),i+r=xs.length→wS st+2*bF (xs.drop i)<N→jc st cells→n+wg st+bF (xs.drop i)≤jA→wS st+2*bF (xs.drop i)≤jA→(∀e∈st,e.2+bF e.1≤jA)→d+bF (xs.drop i)≤jA →
   ∃o,bp aeB env (ah aeB env 115 2 [.vy 0,.ms 6 0 st.length 2 none,.mp 7 0,aL xs,sI .i64 xs.length,sI .i64 i] (Np l tags n most cells++[.ac [aL xs,sI .i64 d]]) 6 64) o∧DJ p l (st++[(xs.drop i,d)]) tags n most o:=by
 intro r
 induction r with
 |zero=>
  intro i st cells tags n most hi hN ht hn hw he hd
  have h1:xs.drop i=[]:=List.drop_eq_nil_of_le (by omega)
  rw[h1] at hN hn hw ⊢
  simp only[bF] at hN hn hw
  obtain⟨o,ho,hq⟩:=ih st (cells.map aC) tags n most (by omega) ht.keep (by omega) (by omega) he
  refine⟨o,af aI (BH l tags n most cells st.length xs d i 0 0 0 0 0 [] [] [] true) ?_,?_⟩
  · have h2 : ¬((i:Int)<xs.length):=by omega
    simp only[qc,qb,bK,zn,um,j4,dh,gk,zm,uO,br,aG.ok]
    exact⟨fun h=>absurd (by simpa using h) h2,fun _=>ho⟩
  · unfold DJ at hq ⊢
    rw[uN,nX,zl,zk]
    simpa[th,bF,iZ,dw] using hq
 |succ r ihr=>
  intro i st cells tags n most hi hN ht hn hw he hd
  have nM:i<xs.length:=by omega
  have CT:xs[i]? = some xs[i]:=df nM
  have PC:xs.drop i=xs[i]::xs.drop (i+1):=aeo nM
  rw[PC] at hN hn hw hd ⊢
  generalize xs[i]=x at *
  generalize hys:xs.drop (i+1)=ys at *
  obtain⟨op,rs,a,b,nn,tg,ll,le⟩:=x
  obtain⟨c0,c1,c2,c3,c4,c5,c6,c7⟩:=hY CT
  have hpx:=hp (.mk op rs a b nn tg ll le)
  have GW:jA=1000000000000:=rfl
  have BI:eY=70368744177664:=rfl
  simp only[bF,jz] at hN hn hw hd
  have Y1:=xX st
  have Wl:=ht.len
  have w1:=fk i (by omega)
  have w2:=fk d (by omega)
  have w3:=fk n (by omega)
  have V0:(i:Int)<(xs.length:Int):=by omega
  cases hok:p (.mk op rs a b nn tg ll le) with
  |false=>
   refine⟨adv l tags n most,af aI (BH l tags n most cells st.length xs d i op rs a b nn tg ll le false) ?_,.inr ⟨?_,_,_,_,rfl⟩⟩
   · simp only[qc,qb,bK,zn,um,j4,dh,gk,zm,uO,br,aG.ok,aeL,bm,aex,c0,c1,c2,c3,c4,c5,c6,c7,isInt,aX,au,aq,aK,aj,bE]
     refine⟨fun _=>⟨by simp[V0],by simp,rfl,?_,fun _=>rfl,fun h=>by cases h⟩,fun h=>absurd V0 (by simpa using h)⟩
     rw[hok] at hpx;exact hpx
   · rw[uN,Ah,th,Gw,hok];simp
  |true=>
   have next : ∀(s:lU) (cs:List AV),jc (st++s) cs→wS s≤2*(bF ll+bF le)+2→wg s=bF ll+bF le→Q6 p s=(th p ll&&th p le)→BF s=max (iZ ll) (iZ le)→BE s=max (dw (d+1) ll) (dw (d+1) le)→(∀e∈s,e.2+bF e.1≤jA) →
     ∃o,bp aeB env (ah aeB env 115 2 [.vy 0,.ms 6 0 (st++s).length 2 none,.mp 7 0,aL xs,sI .i64 xs.length,sI .i64 (i+1:Nat)] (Np l (max tags tg.length:Nat) (n+1:Nat) (max most d:Nat) cs++[.ac [aL xs,sI .i64 d]]) 6 64) o∧DJ p l (st++[(.mk op rs a b nn tg ll le::ys,d)]) tags n most o:=by
    intro s cs hts hws hns hos V1 hds hes
    obtain⟨o,ho,hq⟩:=ihr (i+1) (st++s) cs (max tags tg.length) (n+1) (max most d) (by omega) (by rw[xW,hys];omega) hts (by rw[nX,hys];omega) (by rw[xW,hys];omega)
     (fun e hm=>(List.mem_append.1 hm).elim (he e) (hes e)) (by rw[hys];omega)
    refine⟨o,ho,?_⟩
    rw[hys] at hq
    unfold DJ at hq ⊢
    simp only[uN,nX,zl,zk,Ah,BG,HD,HC,hos,hns,V1,hds] at hq ⊢
    simp only[th,Gw,bF,jz,iZ,vY,dw,vX,hok,aeO]
    rcases hq with⟨q1,q2⟩ | ⟨q1,q2⟩
    · refine .inl ⟨by rw[aeP] at q1;exact q1,?_⟩
      rw[q2]
      congr 1<;>congr 1<;>omega
    · exact .inr ⟨by rw[aeP] at q1;exact q1,q2⟩
   have tree:=BH l tags n most cells st.length xs d i op rs a b nn tg ll le true
   have WR:an aeB env 125 [cr op rs a b nn tg ll le] [] (sB true) []:=by rw[hok] at hpx;exact hpx
   have mx1:max (tags:Int) (tg.length:Int)=((max tags tg.length:Nat):Int):=by omega
   have mx2:max (most:Int) (d:Int)=((max most d:Nat):Int):=by omega
   have nl : ∀z:List Ins,z≠[]→0<(z.length:Int):=fun z hz=>by have:=List.length_pos_iff.2 hz;omega
   by_cases MZ:ll=[]
   · by_cases hle:le=[]
     · subst MZ;subst hle
       obtain⟨o,ho,hq⟩:=next [] (cells.map aC) (by rw[QR];exact ht.keep) (by simp[wS,bF]) (by simp[wg,bF]) (by simp[Q6,th]) (by simp[BF,iZ]) (by simp[BE,dw]) (fun _ h=>by cases h)
       refine⟨o,af aI tree ?_,hq⟩
       simp only[qc,qb,bK,zn,um,j4,dh,gk,zm,uO,br,aG.ok,aeL,bm,aex,c0,c1,c2,c3,c4,c5,c6,c7,isInt,aX,au,aq,aK,aj,bE,w1,w2,w3,cond_false,mx1,mx2]
       rw[QR] at ho
       exact⟨fun _=>⟨by simp[V0],by simp,rfl,WR,fun h=>(by cases h),fun _=>⟨rfl,fun h=>(by simp at h),fun _=>⟨fun h=>(by simp at h),fun _=>⟨(by trivial),ho⟩⟩⟩⟩,fun h=>absurd V0 (by simpa using h)⟩
     · subst MZ
       have nle:=nl le hle
       obtain⟨o,ho,hq⟩:=next [(le,d+1)] _ (ht.push le (d+1)).keep (by simp[bF]) (by simp[bF]) (by simp[th]) (by simp[iZ]) (by simp[dw]) (fun e h=>by simp only[aet] at h;subst h;simp only;omega)
       refine⟨o,af aI tree ?_,hq⟩
       simp only[qc,qb,bK,zn,um,j4,dh,gk,zm,uO,br,aG.ok,aeL,bm,aex,c0,c1,c2,c3,c4,c5,c6,c7,isInt,aX,au,aq,aK,aj,bE,w1,w2,w3,cond_false,mx1,mx2]
       rw[du] at ho
       exact⟨fun _=>⟨by simp[V0],by simp,rfl,WR,fun h=>(by cases h),fun _=>⟨rfl,fun h=>(by simp at h),fun _=>⟨fun _=>⟨rfl,(by simp;omega),(by trivial),ho⟩,fun h=>absurd nle (by simpa using h)⟩⟩⟩,fun h=>absurd V0 (by simpa using h)⟩
   · have nll:=nl ll MZ
     by_cases hle:le=[]
     · subst hle
       obtain⟨o,ho,hq⟩:=next [(ll,d+1)] _ (ht.push ll (d+1)).keep (by simp[bF]) (by simp[bF]) (by simp[th]) (by simp[iZ]) (by simp[dw]) (fun e h=>by simp only[aet] at h;subst h;simp only;omega)
       refine⟨o,af aI tree ?_,hq⟩
       simp only[qc,qb,bK,zn,um,j4,dh,gk,zm,uO,br,aG.ok,aeL,bm,aex,c0,c1,c2,c3,c4,c5,c6,c7,isInt,aX,au,aq,aK,aj,bE,w1,w2,w3,cond_false,mx1,mx2]
       rw[du] at ho
       exact⟨fun _=>⟨by simp[V0],by simp,rfl,WR,fun h=>(by cases h),fun _=>⟨rfl,fun _=>⟨rfl,(by simp;omega),fun h=>(by simp at h),fun _=>⟨(by trivial),ho⟩⟩,fun h=>absurd nll (by simpa using h)⟩⟩,fun h=>absurd V0 (by simpa using h)⟩
     · have nle:=nl le hle
       have Qm:=(ht.push ll (d+1)).push le (d+1)
       rw[pa] at Qm
       obtain⟨o,ho,hq⟩:=next [(ll,d+1),(le,d+1)] _ Qm.keep (by simp[wS];omega) (by simp[wg]) (by simp[Q6]) (by simp[BF]) (by simp[BE]) (fun e h=>by simp only[List.mem_cons,List.not_mem_nil,or_false] at h;rcases h with rfl | rfl<;>simp only<;>omega)
       refine⟨o,af aI tree ?_,hq⟩
       simp only[qc,qb,bK,zn,um,j4,dh,gk,zm,uO,br,aG.ok,aeL,bm,aex,c0,c1,c2,c3,c4,c5,c6,c7,isInt,aX,au,aq,aK,aj,bE,w1,w2,w3,cond_false,mx1,mx2]
       simp only[du,na,aep,aex] at ho
       exact⟨fun _=>⟨by simp[V0],by simp,rfl,WR,fun h=>(by cases h),fun _=>⟨rfl,fun _=>⟨rfl,(by simp;omega),fun _=>⟨rfl,(by simp;omega),(by trivial),ho⟩,fun h=>absurd nle (by simpa using h)⟩,fun h=>absurd nll (by simpa using h)⟩⟩,fun h=>absurd V0 (by simpa using h)⟩
include hp in
theorem DK : ∀(N:Nat) (st:lU) (cells:List AV) (tags n most:Nat),wS st<N→jc st cells→n+wg st≤jA→wS st≤jA→(∀e∈st,e.2+bF e.1≤jA) →
   ∃o,bp aeB env (ah aeB env 115 0 [.vy 0,.ms 6 0 st.length 2 none] (Np l tags n most cells) 6 64) o∧DJ p l st tags n most o
 |0,_,_,_,_,_,h,_,_,_,_=>by omega
 |N+1,st,cells,tags,n,most,hN,ht,hn,hw,he=>by
  rcases List.eq_nil_or_concat st with rfl | ⟨s,⟨x,d⟩,rfl⟩
  · exact⟨_,af aI (Q8 l tags n most cells) rfl,.inl ⟨rfl,(by simp[BF,wg,BE];rfl)⟩⟩
  · rw[List.concat_eq_append] at *
    have hx:=he (x,d) (by simp)
    rw[xW,aay] at hN hw
    rw[nX,BG] at hn
    obtain⟨t0,t1⟩:=ht.top
    have Wl:=ht.len
    have Y1:=xX s
    have GW:jA=1000000000000:=rfl
    have Gv:=eu x
    simp only[du,na,aep] at Wl hx
    obtain⟨o,ho,hq⟩:=Nq p hp l N (fun st cells tags n most=>DK N st cells tags n most) x (by omega) d x.length 0 s (cells.map aC) tags n most (by omega) (by rw[adr];omega) ht.pop.keep (by rw[adr];omega) (by rw[adr];omega)
     (fun e hm=>he e (List.mem_append_left _ hm)) (by rw[adr];omega)
    rw[adr] at hq
    refine⟨o,?_,hq⟩
    have w1:tp.wrap (((s.length+1:Nat):Int)-1)=(s.length:Int):=by rw[aZ (by omega) (by omega)];omega
    rw[du,List.length_singleton]
    refine af aI (Q7 l tags n most cells s.length x d) ?_
    simp only[Me,jI,j3,br,aG.ok,aeL,ri,t0,t1,cg,ko,w1,isInt,aX,au,aq,aK,aj,bE,Nat.sub_zero]
    exact⟨fun _=>⟨(by trivial),(by simp;omega),(by simp;omega),(by trivial),(by trivial),(by simp),ho⟩,fun h=>absurd h (by simp)⟩
end
section
variable (l:List Ins)
end
def afH (l:List Ins) (tags n most:Int) (f:FuncId) (_:List AV) (_:Mem):Option (AV×Mem):=cond (ai f 115) (some (.aD [],[recC l .ready none,.pc [.ps l.length 8 (ak l)],.pc [sP 0],.pc [sP tags],.pc [sP n],.pc [sP most]])) none
def afI (l:List Ins) (tags n most:Int) (f:FuncId) (_:List AV) (_:Mem):Option (AV×Mem):=cond (ai f 115) (some (.aD [],[recC l .done (some .ret),.pc [.ps l.length 8 (ak l)],.pc [sP 2],.pc [sP tags],.pc [sP n],.pc [sP most]])) none
theorem HE (l:List Ins):aE aeB env (aJ aB av [(115,0)] [] []) 1000000 115 ([AV.vy 0,AV.mp 1 0]) ([recC l aeC aeE,bf.pc [PV.ps l.length 8 (ak l)],bf.pc [sP 0],bf.pc [sP 0],bf.pc [sP 0],bf.pc [sP 0]]) (.fin) =
(.at (ah aeB env 115 0 [.vy 0,.ms 6 0 1 2 none] ([.ob (rS aeB 106 0 aeC none) [.p (.ps l.length 8 (ak l)),.az,.mp 2 0,sB false,.mp 3 0,.mp 4 0,.mp 5 0,.az,.az,.p (.ps l.length 8 (ak l)),.fn (aeD 115) [] [.mp 1 0],.az,.az,.az,.az,.az,.az,.az,.az,.az,.az,.az,.az,.az,.az,.az,.az,.az,.az,.az,.az,.az,.az,.az,.az,.az,.az],.pc [.ps l.length 8 (ak l)],.pc [sP 0],.pc [sP 0],.pc [sP 0],.pc [sP 0],.ob (eG.gr 157 true) [.p (.ps l.length 8 (ak l)),sI .i64 1]]) 6 64)):=by kernel_rfl
abbrev Zh (x0:List Ins):Mem:=[.ob (rS aeB 106 0 aeC none) [.p (.ps x0.length 8 (ak x0)),.az,.mp 2 0,sB false,.mp 3 0,.mp 4 0,.mp 5 0,.az,.az,.p (.ps x0.length 8 (ak x0)),.fn (aeD 115) [] [.mp 1 0],.az,.az,.az,.az,.az,.az,.az,.az,.az,.az,.az,.az,.az,.az,.az,.az,.az,.az,.az,.az,.az,.az,.az,.az,.az,.az],.pc [.ps x0.length 8 (ak x0)],.pc [sP 0],.pc [sP 0],.pc [sP 0],.pc [sP 0]]
theorem Nr (l:List Ins) (tags n most:Int):aE aeB env (aJ (afH l tags n most) av [] (fm 106 [(10,3),(10,7),(0,0)]) []) 1000000 106 ([aL l]) ([]) (jv 4 5659).1 =
(.call ⟨115,[.vy 0,.mp 1 0],(Zh l),.aD [],(Me l tags n most)⟩
 (.test (decide (n>262144))
 (.out (.ret (sI .i64 141) []))
 (.test (decide (tags>16384))
 (.out (.ret (sI .i64 141) []))
 (.test (decide (most>900))
 (.out (.ret (sI .i64 141) []))
 (.out (.ret (sI .i64 0) [])))))):=by kernel_rfl
theorem Ns (l:List Ins) (tags n most:Int):aE aeB env (aJ (afI l tags n most) av [] [] []) 1000000 106 ([aL l]) ([]) (.fin) =
(.call ⟨115,[.vy 0,.mp 1 0],(Zh l),.aD [],[.ob (rS aeB 106 0 LoopState.done (some Code.ret)) [.p (.ps l.length 8 (ak l)),.az,.mp 2 0,sB false,.mp 3 0,.mp 4 0,.mp 5 0,.az,.az,.p (.ps l.length 8 (ak l)),.fn (aeD 115) [] [.mp 1 0],.az,.az,.az,.az,.az,.az,.az,.az,.az,.az,.az,.az,.az,.az,.az,.az,.az,.az,.az,.az,.az,.az,.az,.az,.az,.az],.pc [.ps l.length 8 (ak l)],.pc [sP 2],.pc [sP tags],.pc [sP n],.pc [sP most]]⟩
 (.out (.ret (sI .i64 2) []))):=by kernel_rfl
theorem WS (l:List Ins):jc [(l,1)] [.p (.ps l.length 8 (ak l)),.p (.sc (.int .i64 1))]:=rfl
def cT (p:Ins→Bool) (l:List Ins):Int:=if th p l=false then 2 else if 262144<bF l∨16384<iZ l∨900<dw 1 l then 141 else 0
theorem BJ {p:Ins→Bool} (hp : ∀x:Ins,an aeB env 125 [HB x] [] (sB (p x)) []) (l:List Ins) (h:bF l≤100000000000):an aeB env 106 [aL l] [] (sI .i64 (cT p l)) []:=by
 have GW:jA=1000000000000:=rfl
 obtain⟨o,ho,hq⟩:=DK p hp l (2*bF l+2) [(l,1)] _ 0 0 0 (by simp) (WS l) (by simp;omega) (by simp;omega) (fun e he=>by simp only[aet] at he;subst he;simp only;omega)
 rcases hq with⟨q1,rfl⟩ | ⟨q1,t,k,m,rfl⟩
 · have hd:an aeB env 115 [.vy 0,.mp 1 0] _ (.aD []) _:=aa aI (HE l) ho
   refine aa aI (Nr l _ _ _) ⟨hd,?_⟩
   rw[Ah] at q1
   simp only[HD,BG,HC,ri,Nat.zero_max]
   have z : ∀a b:Nat,decide ((a:Int)>(b:Int))=decide (b<a):=fun a b=>by congr 1;exact propext (by omega)
   unfold cT
   rw[if_neg (by rw[q1];simp)]
   refine⟨fun h1=> ?_,fun h1=>⟨fun h2=> ?_,fun h2=>⟨fun h3=> ?_,fun h3=> ?_⟩⟩⟩<;>simp only[decide_eq_true_eq,decide_eq_false_iff_not] at *
   · rw[if_pos (by omega)];rfl
   · rw[if_pos (by omega)];rfl
   · rw[if_pos (by omega)];rfl
   · rw[if_neg (by omega)];rfl
 · have hd:an aeB env 115 [.vy 0,.mp 1 0] _ (.aD []) _:=aa aI (HE l) ho
   refine aa aI (Ns l t k m) ⟨hd,?_⟩
   rw[Ah] at q1
   unfold cT
   rw[if_pos q1];rfl
end Go.Proofs.YtdmmllcjgjmbbaaGreatDoor.N
end
section
namespace Go.Am
open Go.RowKit
section
variable {H:Type} {enc:TypeId×Value→H} {P:Program} {w:World} {base:Nat} {spare:Nat→Bool} {held:Bool} {tL tI ti tu tn tt:TypeId} {fs:Array Field}
theorem BK {g:Gh} {w:World} : ∀{l:List PV} {cs:List Value},MX g w l cs→dz g w (l.map .p) cs
 |[],[],_=>trivial
 |_::_,_::_,h=>⟨.p _ _ h.1,BK h.2⟩
 |[],_::_,h=>h.elim
 |_::_,[],h=>h.elim
end
section
variable {H:Type} {enc:TypeId×Value→H} {P:Program} {w:World} {base:Nat} {spare:Nat→Bool} {held:Bool}
theorem aaz {g:Gh} {w:World} {l:List PV} {cs:Array Value} (h:MX g w l cs.toList):VA g w (.agg (l.map .p)) (.agg cs):=by
 rw[VA.zL]
 exact BK h
end
end Go.Am
end
section
namespace Go.Am
theorem tj {Q:List Ins→Prop} (h : ∀l,(∀x∈l,Q x.l∧Q x.e)→Q l) : ∀l,Q l:=by
 have key : ∀(N:Nat) (l:List Ins),bF l≤N→Q l:=by
  intro N
  induction N with
  |zero=>
   intro l hl
   cases l with
   |nil=>exact h [] (fun _ hx=>by cases hx)
   |cons x r=>cases x;simp only[bF,jz] at hl;omega
  |succ N ih=>
   intro l hl
   refine h l fun x hx=> ?_
   have hn:jz x≤bF l:=by
    clear hl
    induction l with
    |nil=>cases hx
    |cons y r ih2=>
     simp only[bF]
     cases hx with
     |head=>omega
     |tail _ hx=>have:=ih2 hx;omega
   obtain⟨op,rs,a,b,nn,tg,ll,le⟩:=x
   simp only[jz] at hn
   exact⟨ih ll (by omega),ih le (by omega)⟩
 exact fun l=>key _ l (aw _)
theorem oU {l:List Ins} {x:Ins} (hx:x∈l):jz x≤bF l:=by
 induction l with
 |nil=>cases hx
 |cons y r ih=>
  simp only[bF]
  cases hx with
  |head=>omega
  |tail _ hx=>have:=ih hx;omega
open Classical in
def jr {α:Type} (d:α) (F:List Ins→α) (cs:List PV):α:=if h : ∃l,cs=ak l then F h.choose else d
theorem qd {α:Type} (d:α) (F:List Ins→α) (l:List Ins):jr d F (ak l)=F l:=by
 have h : ∃l',ak l=ak l':=⟨l,rfl⟩
 unfold jr
 rw[dif_pos h,←oQ h.choose_spec]
open Go.RowKit
structure Ty where
 p:Int
 r:Int
structure Im where
 mo:ByteArray
 nm:ByteArray
 ty:Int
structure Fu where
 ty:Int
 lo:Int
 l:List Ins
structure Li where
 mn:Int
 mx:Int
 cap:Bool
structure Gl where
 mu:Bool
 l:List Ins
structure Ex where
 nm:ByteArray
 kind:Int
 ix:Int
structure El where
 l:List Ins
 fs:List Int
structure Da where
 l:List Ins
 bs:List Int
abbrev pL (l:List Ins):PV:= .ps l.length 8 (ak l)
abbrev pT (k:IntKind) (l:List Int):PV:= .ps l.length 1 (dg k l)
abbrev bB (x:Ty):List PV:=[.sc (.int .i64 x.p),.sc (.int .i64 x.r)]
abbrev bg (x:Im):List PV:=[.sc (.string x.mo),.sc (.string x.nm),.sc (.int .i64 x.ty)]
abbrev aM (x:Fu):List PV:=[.sc (.int .i64 x.ty),.sc (.int .i64 x.lo),pL x.l]
abbrev aS (x:Li):List PV:=[.sc (.int .u32 x.mn),.sc (.int .u32 x.mx),.sc (.bool x.cap)]
abbrev bC (x:Gl):List PV:=[.sc (.bool x.mu),pL x.l]
abbrev aV (x:Ex):List PV:=[.sc (.string x.nm),.sc (.int .i64 x.kind),.sc (.int .u32 x.ix)]
abbrev aT (x:El):List PV:=[pL x.l,pT .u32 x.fs]
abbrev bz (x:Da):List PV:=[pL x.l,pT .u8 x.bs]
def wfT (k:IntKind) (l:List Int):Prop:=l.length≤maxLen ∧ ∀t∈l,(ade k t).wf=true
def F6 (l:List Ins):Prop:=l.length≤maxLen∧Ke l
def aaA (x:Ty):Prop:=(ade .i64 x.p).wf=true∧(ade .i64 x.r).wf=true
def aaB (x:Im):Prop:=x.mo.size≤maxLen∧x.nm.size≤maxLen∧(ade .i64 x.ty).wf=true
def aaC (x:Fu):Prop:=(ade .i64 x.ty).wf=true∧(ade .i64 x.lo).wf=true∧F6 x.l
def Q9 (x:Li):Prop:=(ade .u32 x.mn).wf=true∧(ade .u32 x.mx).wf=true
def aaD (x:Gl):Prop:=F6 x.l
def aaE (x:Ex):Prop:=x.nm.size≤maxLen∧(ade .i64 x.kind).wf=true∧(ade .u32 x.ix).wf=true
def aaF (x:El):Prop:=F6 x.l∧wfT .u32 x.fs
def aaG (x:Da):Prop:=F6 x.l∧wfT .u8 x.bs
structure Mo where
 tys:List Ty
 aP:List Im
 fns:List Fu
 cN:List Li
 cL:List Li
 gls:List Gl
 exs:List Ex
 st:Bool
 sn:Int
 els:List El
 bw:List Da
def uo {α:Type} (w:α→Prop) (l:List α):Prop:=l.length≤maxLen ∧ ∀x∈l,w x
structure Mo.wf (M:Mo):Prop where
 tys:uo aaA M.tys
 aP:uo aaB M.aP
 fns:uo aaC M.fns
 cN:uo Q9 M.cN
 cL:uo Q9 M.cL
 gls:uo aaD M.gls
 exs:uo aaE M.exs
 sn:(ade .u32 M.sn).wf=true
 els:uo aaF M.els
 bw:uo aaG M.bw
abbrev Mo.aH (M:Mo):List PV:=[.ps M.tys.length 2 (M.tys.flatMap bB),.ps M.aP.length 3 (M.aP.flatMap bg),.ps M.fns.length 3 (M.fns.flatMap aM),.ps M.cN.length 3 (M.cN.flatMap aS),.ps M.cL.length 3 (M.cL.flatMap aS),
 .ps M.gls.length 2 (M.gls.flatMap bC),.ps M.exs.length 3 (M.exs.flatMap aV),.sc (.bool M.st),.sc (.int .u32 M.sn),.ps M.els.length 2 (M.els.flatMap aT),.ps M.bw.length 2 (M.bw.flatMap bz)]
theorem aQ {α:Type} {z:Nat} {enc:α→List PV} (hz : ∀x,(enc x).length=z) : ∀{l:List α} {k:Nat} {x:α},l[k]? = some x → ∀j,j<z→(l.flatMap enc).getD (k*z+j) .aU=(enc x).getD j .aU
 |y::r,0,x,h,j,hj=>by
  simp only[ml,kb] at h
  subst h
  rw[adY,aeA,ri,de,de,od (by rw[hz];exact hj)]
 |y::r,k+1,x,h,j,hj=>by
  simp only[List.getElem?_cons_succ] at h
  have ih:=aQ hz h j hj
  rw[adY,de,Hn (by rw[hz,rb];omega),hz,show(k+1)*z+j-z=k*z+j by rw[rb];omega,←de]
  exact ih
theorem HF {α:Type} {z:Nat} {enc:α→List PV} (hz : ∀x,(enc x).length=z) : ∀l:List α,(l.flatMap enc).length=l.length*z
 |[]=>by simp
 |x::r=>by rw[adY,du,hz,HF hz r,na,rb];omega
section
variable {H:Type} {enc:TypeId×Value→H} {P:Program} {w:World} {base:Nat} {spare:Nat→Bool} {held:Bool}
theorem eo {t:TypeId} {ts:List TypeId} {fs:Array Field} (ht:P.underlying t=some (.struct fs)) (hz:P.cellsOf t=ts.length) (hf:(fs.toList.map fun f=>(f.offset,f.type))=ts.zipIdx.map fun q=>(q.2,q.1))
  (h1 : ∀t∈ts,P.cellsOf t=1) {fuel:Nat} {cs:List Value} {x:DataW H×List MemPlace} (h:acB enc P w base spare held fuel t cs=some x) :
  ∃m,cs.length=ts.length ∧ ∀(i:Nat) (u:TypeId),ts[i]? = some u → ∃y,acB enc P w base spare held m u ((cs.drop i).take 1)=some y:=by
 obtain⟨m,rfl,hlen,hg⟩:=lT ht h
 rw[hz] at hlen
 refine⟨m,hlen,fun i u hi=> ?_⟩
 obtain⟨f,q1,q2,q3⟩:=fld (fs:=fs) (i:=i) (o:=i) (t:=u) (by rw[hf,en,List.getElem?_zipIdx,hi];simp)
 obtain⟨y,hy⟩:=hg i f q1
 rw[q2,q3,h1 u (mf hi)] at hy
 exact⟨y,hy⟩
structure Ju (P:Program) (tM xg xh xj qS xk xl xm xp zo zp Ai CU wj zq zu zw zx tL tI ti tu tn tt ts tb t8 tk:TypeId):Prop where
 ins : ∃fs,aaw P tL tI ti tu tn tt fs
 us:P.underlying ts=some .string
 ub:P.underlying tb=some .bool
 u8:P.underlying t8=some (.slice tk)
 uk:P.underlying tk=some (.int .u8)
 one:[ti,tu,tL,tt,ts,tb,t8,tk,xg,xh,xj,qS,xk,xl,xm,xp].all (fun t=>P.cellsOf t==1)=true
 sl : ∀q∈[(xg,zo),(xh,zp),(xj,Ai),(qS,wj),(xk,zq),(xl,zu),(xm,zw),(xp,zx)],P.underlying q.1=some (.slice q.2)
 st : ∀q∈[(tM,[xg,xh,xj,qS,qS,xk,xl,tb,tu,xm,xp]),(zo,[ti,ti]),(zp,[ts,ts,ti]),(CU,[ti,tL]),(wj,[tu,tu,tb]),(zq,[tb,tL]),(zu,[ts,ti,tu]),(zw,[tL,tt]),(zx,[tL,t8])],
  ∃fs,P.underlying q.1=some (.struct fs)∧P.cellsOf q.1=q.2.length∧(fs.toList.map fun f=>(f.offset,f.type))=q.2.zipIdx.map fun q=>(q.2,q.1)
 fu : ∃fs,P.underlying Ai=some (.struct fs)∧P.cellsOf Ai=3∧(fs.toList.map fun f=>(f.offset,f.type))=[(0,ti),(1,CU)]
theorem rX {tt tu:TypeId} {k:IntKind} (ht:P.underlying tt=some (.slice tu)) (hu:P.underlying tu=some (.int k)) (h1:P.cellsOf tu=1) {fuel:Nat} {cs:List Value} {x:DataW H×List MemPlace}
  (h:acB enc P w base spare held fuel tt cs=some x) : ∃l:List Int,wfT k l∧b8 w [pT k l] cs:=by
 obtain⟨l,w1,w2,k1⟩:=uj ht hu h1 h
 exact⟨l,⟨w1,w2⟩,k1⟩
end
section
variable {H:Type} {enc:TypeId×Value→H} {P:Program} {w:World} {base:Nat} {spare:Nat→Bool} {held:Bool} {tM xg xh xj qS xk xl xm xp zo zp Ai CU wj zq zu zw zx tL tI ti tu tn tt ts tb t8 tk:TypeId}
theorem Ju.c1 (T:Ju P tM xg xh xj qS xk xl xm xp zo zp Ai CU wj zq zu zw zx tL tI ti tu tn tt ts tb t8 tk) {t:TypeId} (h:t∈[ti,tu,tL,tt,ts,tb,t8,tk,xg,xh,xj,qS,xk,xl,xm,xp]):P.cellsOf t=1:=by
 simpa using QQ.1 T.one t h
theorem CV (T:Ju P tM xg xh xj qS xk xl xm xp zo zp Ai CU wj zq zu zw zx tL tI ti tu tn tt ts tb t8 tk) {fuel:Nat} {cs:List Value} {x:DataW H×List MemPlace} (h:acB enc P w base spare held fuel tt cs=some x) : ∃l:List Int,wfT .u32 l∧b8 w [pT .u32 l] cs:=by
 obtain⟨fs,I⟩:=T.ins
 exact rX I.kt I.ku (T.c1 (by simp)) h
theorem CW (T:Ju P tM xg xh xj qS xk xl xm xp zo zp Ai CU wj zq zu zw zx tL tI ti tu tn tt ts tb t8 tk) {fuel:Nat} {cs:List Value} {x:DataW H×List MemPlace} (h:acB enc P w base spare held fuel t8 cs=some x) : ∃l:List Int,wfT .u8 l∧b8 w [pT .u8 l] cs:=
 rX T.u8 T.uk (T.c1 (by simp)) h
theorem mG (T:Ju P tM xg xh xj qS xk xl xm xp zo zp Ai CU wj zq zu zw zx tL tI ti tu tn tt ts tb t8 tk) {fuel:Nat} {cs:List Value} {x:DataW H×List MemPlace} (h:acB enc P w base spare held fuel tL cs=some x) : ∃l:List Ins,F6 l∧b8 w [pL l] cs:=by
 obtain⟨fs,I⟩:=T.ins
 exact Hy I fuel cs x h
theorem Kg (T:Ju P tM xg xh xj qS xk xl xm xp zo zp Ai CU wj zq zu zw zx tL tI ti tu tn tt ts tb t8 tk) {fuel:Nat} {cs:List Value} {x:DataW H×List MemPlace} (h:acB enc P w base spare held fuel zo cs=some x) : ∃y:Ty,aaA y∧b8 w (bB y) cs:=by
 obtain⟨fs,I⟩:=T.ins
 obtain⟨fs',q1,q2,q3⟩:=T.st (zo,[ti,ti]) (by simp)
 obtain⟨m,hlen,get⟩:=eo q1 q2 q3 (by simp[T.c1]) h
 match cs,hlen with
 |[u0,u1],_=>
  obtain⟨y0,e0⟩:=get 0 ti rfl
  obtain⟨y1,e1⟩:=get 1 ti rfl
  simp only[adr,adx,adL,ad2] at e0 e1
  obtain⟨n0,w0,k0⟩:=b9 I.ki e0
  obtain⟨n1,w1,k1⟩:=b9 I.ki e1
  exact⟨⟨n0,n1⟩,⟨w0,w1⟩,k0.cat (k1)⟩
theorem Kh (T:Ju P tM xg xh xj qS xk xl xm xp zo zp Ai CU wj zq zu zw zx tL tI ti tu tn tt ts tb t8 tk) {fuel:Nat} {cs:List Value} {x:DataW H×List MemPlace} (h:acB enc P w base spare held fuel zp cs=some x) : ∃y:Im,aaB y∧b8 w (bg y) cs:=by
 obtain⟨fs,I⟩:=T.ins
 obtain⟨fs',q1,q2,q3⟩:=T.st (zp,[ts,ts,ti]) (by simp)
 obtain⟨m,hlen,get⟩:=eo q1 q2 q3 (by simp[T.c1]) h
 match cs,hlen with
 |[u0,u1,u2],_=>
  obtain⟨y0,e0⟩:=get 0 ts rfl
  obtain⟨y1,e1⟩:=get 1 ts rfl
  obtain⟨y2,e2⟩:=get 2 ti rfl
  simp only[adr,adx,adL,ad2] at e0 e1 e2
  obtain⟨n0,w0,k0⟩:=lS T.us e0
  obtain⟨n1,w1,k1⟩:=lS T.us e1
  obtain⟨n2,w2,k2⟩:=b9 I.ki e2
  exact⟨⟨n0,n1,n2⟩,⟨w0,w1,w2⟩,k0.cat (k1.cat (k2))⟩
theorem BL (T:Ju P tM xg xh xj qS xk xl xm xp zo zp Ai CU wj zq zu zw zx tL tI ti tu tn tt ts tb t8 tk) {fuel:Nat} {cs:List Value} {x:DataW H×List MemPlace} (h:acB enc P w base spare held fuel wj cs=some x) : ∃y:Li,Q9 y∧b8 w (aS y) cs:=by
 obtain⟨fs,I⟩:=T.ins
 obtain⟨fs',q1,q2,q3⟩:=T.st (wj,[tu,tu,tb]) (by simp)
 obtain⟨m,hlen,get⟩:=eo q1 q2 q3 (by simp[T.c1]) h
 match cs,hlen with
 |[u0,u1,u2],_=>
  obtain⟨y0,e0⟩:=get 0 tu rfl
  obtain⟨y1,e1⟩:=get 1 tu rfl
  obtain⟨y2,e2⟩:=get 2 tb rfl
  simp only[adr,adx,adL,ad2] at e0 e1 e2
  obtain⟨n0,w0,k0⟩:=b9 I.ku e0
  obtain⟨n1,w1,k1⟩:=b9 I.ku e1
  obtain⟨n2,k2⟩:=ox T.ub e2
  exact⟨⟨n0,n1,n2⟩,⟨w0,w1⟩,k0.cat (k1.cat (k2))⟩
theorem Ki (T:Ju P tM xg xh xj qS xk xl xm xp zo zp Ai CU wj zq zu zw zx tL tI ti tu tn tt ts tb t8 tk) {fuel:Nat} {cs:List Value} {x:DataW H×List MemPlace} (h:acB enc P w base spare held fuel zq cs=some x) : ∃y:Gl,aaD y∧b8 w (bC y) cs:=by
 obtain⟨fs,I⟩:=T.ins
 obtain⟨fs',q1,q2,q3⟩:=T.st (zq,[tb,tL]) (by simp)
 obtain⟨m,hlen,get⟩:=eo q1 q2 q3 (by simp[T.c1]) h
 match cs,hlen with
 |[u0,u1],_=>
  obtain⟨y0,e0⟩:=get 0 tb rfl
  obtain⟨y1,e1⟩:=get 1 tL rfl
  simp only[adr,adx,adL,ad2] at e0 e1
  obtain⟨n0,k0⟩:=ox T.ub e0
  obtain⟨n1,w1,k1⟩:=mG T e1
  exact⟨⟨n0,n1⟩,w1,k0.cat (k1)⟩
theorem Kj (T:Ju P tM xg xh xj qS xk xl xm xp zo zp Ai CU wj zq zu zw zx tL tI ti tu tn tt ts tb t8 tk) {fuel:Nat} {cs:List Value} {x:DataW H×List MemPlace} (h:acB enc P w base spare held fuel zu cs=some x) : ∃y:Ex,aaE y∧b8 w (aV y) cs:=by
 obtain⟨fs,I⟩:=T.ins
 obtain⟨fs',q1,q2,q3⟩:=T.st (zu,[ts,ti,tu]) (by simp)
 obtain⟨m,hlen,get⟩:=eo q1 q2 q3 (by simp[T.c1]) h
 match cs,hlen with
 |[u0,u1,u2],_=>
  obtain⟨y0,e0⟩:=get 0 ts rfl
  obtain⟨y1,e1⟩:=get 1 ti rfl
  obtain⟨y2,e2⟩:=get 2 tu rfl
  simp only[adr,adx,adL,ad2] at e0 e1 e2
  obtain⟨n0,w0,k0⟩:=lS T.us e0
  obtain⟨n1,w1,k1⟩:=b9 I.ki e1
  obtain⟨n2,w2,k2⟩:=b9 I.ku e2
  exact⟨⟨n0,n1,n2⟩,⟨w0,w1,w2⟩,k0.cat (k1.cat (k2))⟩
theorem Kk (T:Ju P tM xg xh xj qS xk xl xm xp zo zp Ai CU wj zq zu zw zx tL tI ti tu tn tt ts tb t8 tk) {fuel:Nat} {cs:List Value} {x:DataW H×List MemPlace} (h:acB enc P w base spare held fuel zw cs=some x) : ∃y:El,aaF y∧b8 w (aT y) cs:=by
 obtain⟨fs,I⟩:=T.ins
 obtain⟨fs',q1,q2,q3⟩:=T.st (zw,[tL,tt]) (by simp)
 obtain⟨m,hlen,get⟩:=eo q1 q2 q3 (by simp[T.c1]) h
 match cs,hlen with
 |[u0,u1],_=>
  obtain⟨y0,e0⟩:=get 0 tL rfl
  obtain⟨y1,e1⟩:=get 1 tt rfl
  simp only[adr,adx,adL,ad2] at e0 e1
  obtain⟨n0,w0,k0⟩:=mG T e0
  obtain⟨n1,w1,k1⟩:=CV T e1
  exact⟨⟨n0,n1⟩,⟨w0,w1⟩,k0.cat (k1)⟩
theorem Kl (T:Ju P tM xg xh xj qS xk xl xm xp zo zp Ai CU wj zq zu zw zx tL tI ti tu tn tt ts tb t8 tk) {fuel:Nat} {cs:List Value} {x:DataW H×List MemPlace} (h:acB enc P w base spare held fuel zx cs=some x) : ∃y:Da,aaG y∧b8 w (bz y) cs:=by
 obtain⟨fs,I⟩:=T.ins
 obtain⟨fs',q1,q2,q3⟩:=T.st (zx,[tL,t8]) (by simp)
 obtain⟨m,hlen,get⟩:=eo q1 q2 q3 (by simp[T.c1]) h
 match cs,hlen with
 |[u0,u1],_=>
  obtain⟨y0,e0⟩:=get 0 tL rfl
  obtain⟨y1,e1⟩:=get 1 t8 rfl
  simp only[adr,adx,adL,ad2] at e0 e1
  obtain⟨n0,w0,k0⟩:=mG T e0
  obtain⟨n1,w1,k1⟩:=CW T e1
  exact⟨⟨n0,n1⟩,⟨w0,w1⟩,k0.cat (k1)⟩
theorem Km (T:Ju P tM xg xh xj qS xk xl xm xp zo zp Ai CU wj zq zu zw zx tL tI ti tu tn tt ts tb t8 tk) {fuel:Nat} {cs:List Value} {x:DataW H×List MemPlace} (h:acB enc P w base spare held fuel Ai cs=some x) : ∃y:Fu,aaC y∧b8 w (aM y) cs:=by
 obtain⟨fs,I⟩:=T.ins
 obtain⟨fs0,r1,r2,r3⟩:=T.fu
 obtain⟨fs',q1,q2,q3⟩:=T.st (CU,[ti,tL]) (by simp)
 obtain⟨m,rfl,hlen,hg⟩:=lT r1 h
 rw[r2] at hlen
 obtain⟨f0,a1,a2,a3⟩:=fld (fs:=fs0) (i:=0) (o:=0) (t:=ti) (by rw[r3];rfl)
 obtain⟨f1,b1,b2,b3⟩:=fld (fs:=fs0) (i:=1) (o:=1) (t:=CU) (by rw[r3];rfl)
 obtain⟨y0,e0⟩:=hg 0 f0 a1
 obtain⟨y1,e1⟩:=hg 1 f1 b1
 rw[a2,a3,T.c1 (t:=ti) (by simp)] at e0
 rw[b2,b3,q2] at e1
 match cs,hlen with
 |[u0,u1,u2],_=>
  simp only[adr,adx,adL,ad2,na,aep,ri,aex] at e0 e1
  obtain⟨n,_,get⟩:=eo q1 q2 q3 (by simp[T.c1]) e1
  obtain⟨z0,g0⟩:=get 0 ti rfl
  obtain⟨z1,g1⟩:=get 1 tL rfl
  simp only[adr,adx,adL,ad2] at g0 g1
  obtain⟨n0,w0,k0⟩:=b9 I.ki e0
  obtain⟨n1,w1,k1⟩:=b9 I.ki g0
  obtain⟨n2,w2,k2⟩:=mG T g1
  exact⟨⟨n0,n1,n2⟩,⟨w0,w1,w2⟩,k0.cat (k1.cat k2)⟩
theorem fH {α:Type} {p9:α→List PV} {wf:α→Prop} {lt te:TypeId} {z:Nat} (hl:P.underlying lt=some (.slice te)) (hz:P.cellsOf te=z) (h1:1≤z) {fuel:Nat} {cs:List Value} {x:DataW H×List MemPlace} (h:acB enc P w base spare held fuel lt cs=some x)
  (hE : ∀(fuel:Nat) (us:List Value) y,acB enc P w base spare held fuel te us=some y → ∃a:α,wf a∧b8 w (p9 a) us) : ∃l:List α,uo wf l∧b8 w [.ps l.length z (l.flatMap p9)] cs:=by
 obtain⟨l,a,b,c⟩:=nj (p9:=p9) (wf:=wf) hl (by omega) h fun n _ us y hy=>hE n us y hy
 rw[hz] at c
 exact⟨l,⟨a,b⟩,c⟩
theorem Kn (T:Ju P tM xg xh xj qS xk xl xm xp zo zp Ai CU wj zq zu zw zx tL tI ti tu tn tt ts tb t8 tk) {fuel:Nat} {cs:List Value} {x:DataW H×List MemPlace} (h:acB enc P w base spare held fuel tM cs=some x) : ∃M:Mo,M.wf∧b8 w M.aH cs:=by
 obtain⟨fs,I⟩:=T.ins
 obtain⟨fs',q1,q2,q3⟩:=T.st (tM,[xg,xh,xj,qS,qS,xk,xl,tb,tu,xm,xp]) (by simp)
 obtain⟨m,hlen,get⟩:=eo q1 q2 q3 (by simp[T.c1]) h
 have z : ∀t ts',(t,ts')∈[(tM,[xg,xh,xj,qS,qS,xk,xl,tb,tu,xm,xp]),(zo,[ti,ti]),(zp,[ts,ts,ti]),(CU,[ti,tL]),(wj,[tu,tu,tb]),(zq,[tb,tL]),(zu,[ts,ti,tu]),(zw,[tL,tt]),(zx,[tL,t8])]→P.cellsOf t=ts'.length:=
  fun t ts' hm=>by
   obtain⟨_,_,e,_⟩:=T.st (t,ts') hm
   exact e
 obtain⟨_,_,z3,_⟩:=T.fu
 match cs,hlen with
 |[u0,u1,u2,u3,u4,u5,u6,u7,u8,u9,u10],_=>
  obtain⟨y0,e0⟩:=get 0 xg rfl
  obtain⟨y1,e1⟩:=get 1 xh rfl
  obtain⟨y2,e2⟩:=get 2 xj rfl
  obtain⟨y3,e3⟩:=get 3 qS rfl
  obtain⟨y4,e4⟩:=get 4 qS rfl
  obtain⟨y5,e5⟩:=get 5 xk rfl
  obtain⟨y6,e6⟩:=get 6 xl rfl
  obtain⟨y7,e7⟩:=get 7 tb rfl
  obtain⟨y8,e8⟩:=get 8 tu rfl
  obtain⟨y9,e9⟩:=get 9 xm rfl
  obtain⟨y10,e10⟩:=get 10 xp rfl
  simp only[adr,adx,adL,ad2] at e0 e1 e2 e3 e4 e5 e6 e7 e8 e9 e10
  obtain⟨n0,w0,k0⟩:=fH (p9:=bB) (wf:=aaA) (T.sl (xg,zo) (by simp)) (z zo [ti,ti] (by simp)) (ae rfl) e0 fun _ _ _ g=>Kg T g
  obtain⟨n1,w1,k1⟩:=fH (p9:=bg) (wf:=aaB) (T.sl (xh,zp) (by simp)) (z zp [ts,ts,ti] (by simp)) (ae rfl) e1 fun _ _ _ g=>Kh T g
  obtain⟨n2,w2,k2⟩:=fH (p9:=aM) (wf:=aaC) (T.sl (xj,Ai) (by simp)) z3 (ae rfl) e2 fun _ _ _ g=>Km T g
  obtain⟨n3,w3,k3⟩:=fH (p9:=aS) (wf:=Q9) (T.sl (qS,wj) (by simp)) (z wj [tu,tu,tb] (by simp)) (ae rfl) e3 fun _ _ _ g=>BL T g
  obtain⟨n4,w4,k4⟩:=fH (p9:=aS) (wf:=Q9) (T.sl (qS,wj) (by simp)) (z wj [tu,tu,tb] (by simp)) (ae rfl) e4 fun _ _ _ g=>BL T g
  obtain⟨n5,w5,k5⟩:=fH (p9:=bC) (wf:=aaD) (T.sl (xk,zq) (by simp)) (z zq [tb,tL] (by simp)) (ae rfl) e5 fun _ _ _ g=>Ki T g
  obtain⟨n6,w6,k6⟩:=fH (p9:=aV) (wf:=aaE) (T.sl (xl,zu) (by simp)) (z zu [ts,ti,tu] (by simp)) (ae rfl) e6 fun _ _ _ g=>Kj T g
  obtain⟨n7,k7⟩:=ox T.ub e7
  obtain⟨n8,w8,k8⟩:=b9 I.ku e8
  obtain⟨n9,w9,k9⟩:=fH (p9:=aT) (wf:=aaF) (T.sl (xm,zw) (by simp)) (z zw [tL,tt] (by simp)) (ae rfl) e9 fun _ _ _ g=>Kk T g
  obtain⟨n10,w10,k10⟩:=fH (p9:=bz) (wf:=aaG) (T.sl (xp,zx) (by simp)) (z zx [tL,t8] (by simp)) (ae rfl) e10 fun _ _ _ g=>Kl T g
  exact⟨⟨n0,n1,n2,n3,n4,n5,n6,n7,n8,n9,n10⟩,⟨w0,w1,w2,w3,w4,w5,w6,w8,w9,w10⟩,k0.cat (k1.cat (k2.cat (k3.cat (k4.cat (k5.cat (k6.cat (k7.cat (k8.cat (k9.cat (k10))))))))))⟩
end
end Go.Am
end
section
set_option linter.unusedSimpArgs false
set_option linter.unusedVariables false
namespace Go.Proofs.YtdmmllcjgjmbbaaGreatDoor.N
open Go Go.Am
def wk (M:Mo):Mem:=[.ac [.fn (.func 87) [] [.mp 1 0]],.pc M.aH]
def haC (M:Mo) (g N i:Nat) (s e a:Int) (f:FuncId) (args:List AV) (m:Mem):Option (AV×Mem):=some (.aD [sI .i64 e,sI .i64 a],[.ac [.fn (.func 87) [] [.mp 1 0]],.pc M.aH])
def HG (M:Mo):Mem:=[.ac [.fn (.func 88) [] []],.pc M.aH]
def hbC (M:Mo) (g N i:Nat) (s e a:Int) (f:FuncId) (args:List AV) (m:Mem):Option (AV×Mem):=some (.aD [sI .i64 e,sI .i64 a],[.ac [.fn (.func 88) [] []],.pc M.aH])
def HH (M:Mo):Mem:=[.pc M.aH]
def hcC (M:Mo) (g N i:Nat) (s e a:Int) (f:FuncId) (args:List AV) (m:Mem):Option (AV×Mem):=some (.aD [sI .i64 e,sI .i64 a],[.pc M.aH])
def CX (M:Mo):Mem:=[.pc M.aH,.ac [.fn (.func 88) [] []]]
def hdC (M:Mo) (g N i:Nat) (s e a:Int) (f:FuncId) (args:List AV) (m:Mem):Option (AV×Mem):=some (.aD [sI .i64 e,sI .i64 a],[.pc M.aH,.ac [.fn (.func 88) [] []]])
def wm (M:Mo) (L L1:List ByteArray) (c0 c1 c2 c3:Int):Mem:=[.pc M.aH,.ac [.vm 3],.ac [.vm 4],.ob (.map [.int .i64 0,.int .i64 1,.int .i64 2,.int .i64 3] [0,1,2,3] 4) [sI .i64 c0,sI .i64 c1,sI .i64 c2,sI .i64 c3],.ob (.smap L) []]
def heC (M:Mo) (g N i:Nat) (s e a:Int) (L L1:List ByteArray) (c0 c1 c2 c3:Int) (f:FuncId) (args:List AV) (m:Mem):Option (AV×Mem):=some (.aD [sI .i64 e,sI .i64 a],[.pc M.aH,.ac [.vm 3],.ac [.vm 4],.ob (.map [.int .i64 0,.int .i64 1,.int .i64 2,.int .i64 3] [0,1,2,3] 4) [sI .i64 c0,sI .i64 c1,sI .i64 c2,sI .i64 c3],.ob (.smap L1) []])
theorem WT (M:Mo) (g:Nat) (N:Nat) (s:Int):aE aeB env (aJ aB av [(90,0)] [] []) 1000000 90 ([sI tp s,sI tp (↑N:Int),AV.fn (aeD g) [] [AV.mp 0 0,AV.mp 1 0]]) ([bf.ac [AV.fn (aeD 87) [] [AV.mp 1 0]],bf.pc M.aH]) (.fin) =
(.at (ah aeB env 90 0 [sI .i64 s,.fn (aeD g) [] [.mp 0 0,.mp 1 0],.mp 2 0,sI .i64 (↑N:Int),sI .i64 0] ([.ac [.fn (aeD 87) [] [.mp 1 0]],.pc M.aH,.pc [sP 0,sP 0,sP 0,sP 0]]) 2 29)):=by kernel_rfl
abbrev eg (x0:Int) (x1:Int):AV:= .aD [sI .i64 x0,sI .i64 x1]
abbrev gF (x0:Mo):Mem:=[.ac [.fn (aeD 87) [] [.mp 1 0]],.pc x0.aH]
abbrev bh (x0:Nat) (x1:Nat):Bool:=decide ((↑x0:Int)<(↑x1:Int))
theorem Mf (M:Mo) (g:Nat) (N:Nat) (i:Nat) (s e a:Int):grow aeB env (aJ (haC M g N i s e a) av [(90,0)] [(90,0,1),(90,0,2)] []) 1000000 true (ah aeB env 90 0 ([sI tp s,AV.fn (aeD g) [] [AV.mp 0 0,AV.mp 1 0],AV.mp 2 0,sI tp (↑N:Int),sI tp (↑i:Int)]) ([bf.ac [AV.fn (aeD 87) [] [AV.mp 1 0]],bf.pc M.aH]++[bf.pc [sP 0,sP 0,sP 0,sP 0]]) 2 29) (.fin) atEnd =
(.test ((bh i N))
 (.call ⟨g,[sI .i64 (↑i:Int),.mp 0 0,.mp 1 0],(gF M),(eg e a),(gF M)⟩
 (.test (e != 0)
 (.out (.ret (.agg [sI .i64 e,sI .i64 s,sI .i64 (↑i:Int),sI .i64 a]) (gF M)))
 (.at (ah aeB env 90 0 [sI .i64 s,.fn (aeD g) [] [.mp 0 0,.mp 1 0],.mp 2 0,sI .i64 (↑N:Int),sI .i64 (tp.wrap ((↑i:Int)+1))] ([.ac [.fn (aeD 87) [] [.mp 1 0]],.pc M.aH,.pc [sP 0,sP 0,sP 0,sP 0]]) 2 29))))
 (.out (.ret (.agg [sI .i64 0,sI .i64 0,sI .i64 0,sI .i64 0]) (gF M)))):=by kernel_rfl
theorem WU (M:Mo) (g:Nat) (N:Nat) (s:Int):aE aeB env (aJ aB av [(90,0)] [] []) 1000000 90 ([sI tp s,sI tp (↑N:Int),AV.fn (aeD g) [] [AV.mp 0 0,AV.mp 1 0]]) ([bf.ac [AV.fn (aeD 88) [] []],bf.pc M.aH]) (.fin) =
(.at (ah aeB env 90 0 [sI .i64 s,.fn (aeD g) [] [.mp 0 0,.mp 1 0],.mp 2 0,sI .i64 (↑N:Int),sI .i64 0] ([.ac [.fn (aeD 88) [] []],.pc M.aH,.pc [sP 0,sP 0,sP 0,sP 0]]) 2 29)):=by kernel_rfl
abbrev jd (x0:Mo):Mem:=[.ac [.fn (aeD 88) [] []],.pc x0.aH]
theorem Mg (M:Mo) (g:Nat) (N:Nat) (i:Nat) (s e a:Int):grow aeB env (aJ (hbC M g N i s e a) av [(90,0)] [(90,0,1),(90,0,2)] []) 1000000 true (ah aeB env 90 0 ([sI tp s,AV.fn (aeD g) [] [AV.mp 0 0,AV.mp 1 0],AV.mp 2 0,sI tp (↑N:Int),sI tp (↑i:Int)]) ([bf.ac [AV.fn (aeD 88) [] []],bf.pc M.aH]++[bf.pc [sP 0,sP 0,sP 0,sP 0]]) 2 29) (.fin) atEnd =
(.test ((bh i N))
 (.call ⟨g,[sI .i64 (↑i:Int),.mp 0 0,.mp 1 0],(jd M),(eg e a),(jd M)⟩
 (.test (e != 0)
 (.out (.ret (.agg [sI .i64 e,sI .i64 s,sI .i64 (↑i:Int),sI .i64 a]) (jd M)))
 (.at (ah aeB env 90 0 [sI .i64 s,.fn (aeD g) [] [.mp 0 0,.mp 1 0],.mp 2 0,sI .i64 (↑N:Int),sI .i64 (tp.wrap ((↑i:Int)+1))] ([.ac [.fn (aeD 88) [] []],.pc M.aH,.pc [sP 0,sP 0,sP 0,sP 0]]) 2 29))))
 (.out (.ret (.agg [sI .i64 0,sI .i64 0,sI .i64 0,sI .i64 0]) (jd M)))):=by kernel_rfl
abbrev cU (x0:Mo):Mem:=[.pc x0.aH,.pc [sP 0,sP 0,sP 0,sP 0]]
theorem WV (M:Mo) (g:Nat) (N:Nat) (s:Int):aE aeB env (aJ aB av [(90,0)] [] []) 1000000 90 ([sI tp s,sI tp (↑N:Int),AV.fn (aeD g) [] [AV.mp 0 0]]) ([bf.pc M.aH]) (.fin) =
(.at (ah aeB env 90 0 [sI .i64 s,.fn (aeD g) [] [.mp 0 0],.mp 1 0,sI .i64 (↑N:Int),sI .i64 0] ((cU M)) 1 29)):=by kernel_rfl
theorem Mh (M:Mo) (g:Nat) (N:Nat) (i:Nat) (s e a:Int):grow aeB env (aJ (hcC M g N i s e a) av [(90,0)] [(90,0,1),(90,0,2)] []) 1000000 true (ah aeB env 90 0 ([sI tp s,AV.fn (aeD g) [] [AV.mp 0 0],AV.mp 1 0,sI tp (↑N:Int),sI tp (↑i:Int)]) ([bf.pc M.aH]++[bf.pc [sP 0,sP 0,sP 0,sP 0]]) 1 29) (.fin) atEnd =
(.test ((bh i N))
 (.call ⟨g,[sI .i64 (↑i:Int),.mp 0 0],[.pc M.aH],(eg e a),[.pc M.aH]⟩
 (.test (e != 0)
 (.out (.ret (.agg [sI .i64 e,sI .i64 s,sI .i64 (↑i:Int),sI .i64 a]) [.pc M.aH]))
 (.at (ah aeB env 90 0 [sI .i64 s,.fn (aeD g) [] [.mp 0 0],.mp 1 0,sI .i64 (↑N:Int),sI .i64 (tp.wrap ((↑i:Int)+1))] ((cU M)) 1 29))))
 (.out (.ret (.agg [sI .i64 0,sI .i64 0,sI .i64 0,sI .i64 0]) [.pc M.aH]))):=by kernel_rfl
theorem WW (M:Mo) (g:Nat) (N:Nat) (s:Int):aE aeB env (aJ aB av [(90,0)] [] []) 1000000 90 ([sI tp s,sI tp (↑N:Int),AV.fn (aeD g) [] [AV.mp 0 0,AV.mp 1 0]]) ([bf.pc M.aH,bf.ac [AV.fn (aeD 88) [] []]]) (.fin) =
(.at (ah aeB env 90 0 [sI .i64 s,.fn (aeD g) [] [.mp 0 0,.mp 1 0],.mp 2 0,sI .i64 (↑N:Int),sI .i64 0] ([.pc M.aH,.ac [.fn (aeD 88) [] []],.pc [sP 0,sP 0,sP 0,sP 0]]) 2 29)):=by kernel_rfl
abbrev gm (x0:Mo):Mem:=[.pc x0.aH,.ac [.fn (aeD 88) [] []]]
theorem Mi (M:Mo) (g:Nat) (N:Nat) (i:Nat) (s e a:Int):grow aeB env (aJ (hdC M g N i s e a) av [(90,0)] [(90,0,1),(90,0,2)] []) 1000000 true (ah aeB env 90 0 ([sI tp s,AV.fn (aeD g) [] [AV.mp 0 0,AV.mp 1 0],AV.mp 2 0,sI tp (↑N:Int),sI tp (↑i:Int)]) ([bf.pc M.aH,bf.ac [AV.fn (aeD 88) [] []]]++[bf.pc [sP 0,sP 0,sP 0,sP 0]]) 2 29) (.fin) atEnd =
(.test ((bh i N))
 (.call ⟨g,[sI .i64 (↑i:Int),.mp 0 0,.mp 1 0],(gm M),(eg e a),(gm M)⟩
 (.test (e != 0)
 (.out (.ret (.agg [sI .i64 e,sI .i64 s,sI .i64 (↑i:Int),sI .i64 a]) (gm M)))
 (.at (ah aeB env 90 0 [sI .i64 s,.fn (aeD g) [] [.mp 0 0,.mp 1 0],.mp 2 0,sI .i64 (↑N:Int),sI .i64 (tp.wrap ((↑i:Int)+1))] ([.pc M.aH,.ac [.fn (aeD 88) [] []],.pc [sP 0,sP 0,sP 0,sP 0]]) 2 29))))
 (.out (.ret (.agg [sI .i64 0,sI .i64 0,sI .i64 0,sI .i64 0]) (gm M)))):=by kernel_rfl
abbrev HI (x0:Mo) (x1:Int) (x2:Int) (x3:Int) (x4:Int) (x5:List ByteArray):Mem:=[.pc x0.aH,.ac [.vm 3],.ac [.vm 4],.ob (eG.map [vd tp 0,vd tp 1,vd tp 2,vd tp 3] [0,1,2,3] 4) [sI .i64 x1,sI .i64 x2,sI .i64 x3,sI .i64 x4],.ob (eG.smap x5) [],.pc [sP 0,sP 0,sP 0,sP 0]]
theorem WX (M:Mo) (g:Nat) (N:Nat) (s:Int) (L:List ByteArray) (L1:List ByteArray) (c0 c1 c2 c3:Int):aE aeB env (aJ aB av [(90,0)] [] []) 1000000 90 ([sI tp s,sI tp (↑N:Int),AV.fn (aeD g) [] [AV.mp 0 0,AV.mp 1 0,AV.mp 2 0]]) ([bf.pc M.aH,bf.ac [AV.vm 3],bf.ac [AV.vm 4],bf.ob (eG.map [vd tp 0,vd tp 1,vd tp 2,vd tp 3] [0,1,2,3] 4) [sI tp c0,sI tp c1,sI tp c2,sI tp c3],bf.ob (eG.smap L) []]) (.fin) =
(.at (ah aeB env 90 0 [sI .i64 s,.fn (aeD g) [] [.mp 0 0,.mp 1 0,.mp 2 0],.mp 5 0,sI .i64 (↑N:Int),sI .i64 0] ((HI M c0 c1 c2 c3 L)) 5 29)):=by kernel_rfl
abbrev nu (x0:Mo) (x1:Int) (x2:Int) (x3:Int) (x4:Int) (x5:List ByteArray):Mem:=[.pc x0.aH,.ac [.vm 3],.ac [.vm 4],.ob (eG.map [vd tp 0,vd tp 1,vd tp 2,vd tp 3] [0,1,2,3] 4) [sI .i64 x1,sI .i64 x2,sI .i64 x3,sI .i64 x4],.ob (eG.smap x5) []]
theorem F7 (M:Mo) (g:Nat) (N:Nat) (i:Nat) (s e a:Int) (L:List ByteArray) (L1:List ByteArray) (c0 c1 c2 c3:Int):grow aeB env (aJ (heC M g N i s e a L L1 c0 c1 c2 c3) av [(90,0)] [(90,0,1),(90,0,2)] []) 1000000 true (ah aeB env 90 0 ([sI tp s,AV.fn (aeD g) [] [AV.mp 0 0,AV.mp 1 0,AV.mp 2 0],AV.mp 5 0,sI tp (↑N:Int),sI tp (↑i:Int)]) ([bf.pc M.aH,bf.ac [AV.vm 3],bf.ac [AV.vm 4],bf.ob (eG.map [vd tp 0,vd tp 1,vd tp 2,vd tp 3] [0,1,2,3] 4) [sI tp c0,sI tp c1,sI tp c2,sI tp c3],bf.ob (eG.smap L) []]++[bf.pc [sP 0,sP 0,sP 0,sP 0]]) 5 29) (.fin) atEnd =
(.test ((bh i N))
 (.call ⟨g,[sI .i64 (↑i:Int),.mp 0 0,.mp 1 0,.mp 2 0],(nu M c0 c1 c2 c3 L),(eg e a),(nu M c0 c1 c2 c3 L1)⟩
 (.test (e != 0)
 (.out (.ret (.agg [sI .i64 e,sI .i64 s,sI .i64 (↑i:Int),sI .i64 a]) (nu M c0 c1 c2 c3 L1)))
 (.at (ah aeB env 90 0 [sI .i64 s,.fn (aeD g) [] [.mp 0 0,.mp 1 0,.mp 2 0],.mp 5 0,sI .i64 (↑N:Int),sI .i64 (tp.wrap ((↑i:Int)+1))] ((HI M c0 c1 c2 c3 L1)) 5 29))))
 (.out (.ret (.agg [sI .i64 0,sI .i64 0,sI .i64 0,sI .i64 0]) (nu M c0 c1 c2 c3 L)))):=by kernel_rfl
def lV (s:Int) (e a:Nat→Int):Nat→Nat→AV
 |0,_=> .agg [sI .i64 0,sI .i64 0,sI .i64 0,sI .i64 0]
 |r+1,i=>if e i≠0 then .agg [sI .i64 (e i),sI .i64 s,sI .i64 i,sI .i64 (a i)] else lV s e a r (i+1)
theorem Mj {M:Mo} {g N:Nat} (hN:N≤1000000000) (s:Int) (e a:Nat→Int) (h : ∀i,i<N→an aeB env g [sI .i64 i,.mp 0 0,.mp 1 0] (wk M) (.aD [sI .i64 (e i),sI .i64 (a i)]) (wk M)) :
  an aeB env 90 [sI .i64 s,sI .i64 N,.fn (.func g) [] [.mp 0 0,.mp 1 0]] (wk M) (lV s e a N 0) (wk M):=by
 have loop : ∀r i:Nat,i+r=N→bp aeB env (ah aeB env 90 0 [sI .i64 s,.fn (.func g) [] [.mp 0 0,.mp 1 0],.mp 2 0,sI .i64 N,sI .i64 i] (wk M++[.pc [sP 0,sP 0,sP 0,sP 0]]) 2 29) (.ret (lV s e a r i) (wk M)):=by
  intro r
  induction r with
  |zero=>
   intro i hi
   obtain rfl:i=N:=by omega
   have hd:=lP i
   refine af aI (Mf M g i i s 0 0) ?_
   simp only[bh,gF,eg,aG.ok,hd]
   exact⟨fun q=>(by cases q),fun _=>(by first | exact aeQ | rfl)⟩
  |succ r ih=>
   intro i hi
   have hd:=kj (i:=i) (n:=N) (by omega)
   have w:=fk i (by omega)
   have k:=ih (i+1) (by omega)
   refine af aI (Mf M g N i s (e i) (a i)) ?_
   simp only[bh,gF,eg,aG.ok,hd,w]
   refine⟨fun _=>⟨h i (by omega),fun q=> ?_,fun q=> ?_⟩,nofun⟩
   · rw[lV,if_pos (by simpa using q)];rfl
   · rw[lV,if_neg (by simpa using q)];exact k
 exact aa aI (WT M g N s) (loop N 0 (by omega))
theorem WY {M:Mo} {g N:Nat} (hN:N≤1000000000) (s:Int) (e a:Nat→Int) (h : ∀i,i<N→an aeB env g [sI .i64 i,.mp 0 0,.mp 1 0] (HG M) (.aD [sI .i64 (e i),sI .i64 (a i)]) (HG M)) :
  an aeB env 90 [sI .i64 s,sI .i64 N,.fn (.func g) [] [.mp 0 0,.mp 1 0]] (HG M) (lV s e a N 0) (HG M):=by
 have loop : ∀r i:Nat,i+r=N→bp aeB env (ah aeB env 90 0 [sI .i64 s,.fn (.func g) [] [.mp 0 0,.mp 1 0],.mp 2 0,sI .i64 N,sI .i64 i] (HG M++[.pc [sP 0,sP 0,sP 0,sP 0]]) 2 29) (.ret (lV s e a r i) (HG M)):=by
  intro r
  induction r with
  |zero=>
   intro i hi
   obtain rfl:i=N:=by omega
   have hd:=lP i
   refine af aI (Mg M g i i s 0 0) ?_
   simp only[bh,jd,eg,aG.ok,hd]
   exact⟨fun q=>(by cases q),fun _=>(by first | exact aeQ | rfl)⟩
  |succ r ih=>
   intro i hi
   have hd:=kj (i:=i) (n:=N) (by omega)
   have w:=fk i (by omega)
   have k:=ih (i+1) (by omega)
   refine af aI (Mg M g N i s (e i) (a i)) ?_
   simp only[bh,jd,eg,aG.ok,hd,w]
   refine⟨fun _=>⟨h i (by omega),fun q=> ?_,fun q=> ?_⟩,nofun⟩
   · rw[lV,if_pos (by simpa using q)];rfl
   · rw[lV,if_neg (by simpa using q)];exact k
 exact aa aI (WU M g N s) (loop N 0 (by omega))
theorem Ml {M:Mo} {g N:Nat} (hN:N≤1000000000) (s:Int) (e a:Nat→Int) (h : ∀i,i<N→an aeB env g [sI .i64 i,.mp 0 0] (HH M) (.aD [sI .i64 (e i),sI .i64 (a i)]) (HH M)) :
  an aeB env 90 [sI .i64 s,sI .i64 N,.fn (.func g) [] [.mp 0 0]] (HH M) (lV s e a N 0) (HH M):=by
 have loop : ∀r i:Nat,i+r=N→bp aeB env (ah aeB env 90 0 [sI .i64 s,.fn (.func g) [] [.mp 0 0],.mp 1 0,sI .i64 N,sI .i64 i] (HH M++[.pc [sP 0,sP 0,sP 0,sP 0]]) 1 29) (.ret (lV s e a r i) (HH M)):=by
  intro r
  induction r with
  |zero=>
   intro i hi
   obtain rfl:i=N:=by omega
   have hd:=lP i
   refine af aI (Mh M g i i s 0 0) ?_
   simp only[bh,cU,eg,aG.ok,hd]
   exact⟨fun q=>(by cases q),fun _=>(by first | exact aeQ | rfl)⟩
  |succ r ih=>
   intro i hi
   have hd:=kj (i:=i) (n:=N) (by omega)
   have w:=fk i (by omega)
   have k:=ih (i+1) (by omega)
   refine af aI (Mh M g N i s (e i) (a i)) ?_
   simp only[bh,cU,eg,aG.ok,hd,w]
   refine⟨fun _=>⟨h i (by omega),fun q=> ?_,fun q=> ?_⟩,nofun⟩
   · rw[lV,if_pos (by simpa using q)];rfl
   · rw[lV,if_neg (by simpa using q)];exact k
 exact aa aI (WV M g N s) (loop N 0 (by omega))
theorem Mm {M:Mo} {g N:Nat} (hN:N≤1000000000) (s:Int) (e a:Nat→Int) (h : ∀i,i<N→an aeB env g [sI .i64 i,.mp 0 0,.mp 1 0] (CX M) (.aD [sI .i64 (e i),sI .i64 (a i)]) (CX M)) :
  an aeB env 90 [sI .i64 s,sI .i64 N,.fn (.func g) [] [.mp 0 0,.mp 1 0]] (CX M) (lV s e a N 0) (CX M):=by
 have loop : ∀r i:Nat,i+r=N→bp aeB env (ah aeB env 90 0 [sI .i64 s,.fn (.func g) [] [.mp 0 0,.mp 1 0],.mp 2 0,sI .i64 N,sI .i64 i] (CX M++[.pc [sP 0,sP 0,sP 0,sP 0]]) 2 29) (.ret (lV s e a r i) (CX M)):=by
  intro r
  induction r with
  |zero=>
   intro i hi
   obtain rfl:i=N:=by omega
   have hd:=lP i
   refine af aI (Mi M g i i s 0 0) ?_
   simp only[bh,gm,eg,aG.ok,hd]
   exact⟨fun q=>(by cases q),fun _=>(by first | exact aeQ | rfl)⟩
  |succ r ih=>
   intro i hi
   have hd:=kj (i:=i) (n:=N) (by omega)
   have w:=fk i (by omega)
   have k:=ih (i+1) (by omega)
   refine af aI (Mi M g N i s (e i) (a i)) ?_
   simp only[bh,gm,eg,aG.ok,hd,w]
   refine⟨fun _=>⟨h i (by omega),fun q=> ?_,fun q=> ?_⟩,nofun⟩
   · rw[lV,if_pos (by simpa using q)];rfl
   · rw[lV,if_neg (by simpa using q)];exact k
 exact aa aI (WW M g N s) (loop N 0 (by omega))
theorem WZ {M:Mo} {g N:Nat} (hN:N≤1000000000) (s:Int) (e a:Nat→Int) (L:Nat→List ByteArray) (c0 c1 c2 c3:Int) (h : ∀i,i<N→an aeB env g [sI .i64 i,.mp 0 0,.mp 1 0,.mp 2 0] (wm M (L i) [] c0 c1 c2 c3) (.aD [sI .i64 (e i),sI .i64 (a i)]) (wm M (L (i+1)) [] c0 c1 c2 c3)) :
  ∃L',an aeB env 90 [sI .i64 s,sI .i64 N,.fn (.func g) [] [.mp 0 0,.mp 1 0,.mp 2 0]] (wm M (L 0) [] c0 c1 c2 c3) (lV s e a N 0) (wm M L' [] c0 c1 c2 c3):=by
 have loop : ∀r i:Nat,i+r=N → ∃L',bp aeB env (ah aeB env 90 0 [sI .i64 s,.fn (.func g) [] [.mp 0 0,.mp 1 0,.mp 2 0],.mp 5 0,sI .i64 N,sI .i64 i] (wm M (L i) [] c0 c1 c2 c3++[.pc [sP 0,sP 0,sP 0,sP 0]]) 5 29) (.ret (lV s e a r i) (wm M L' [] c0 c1 c2 c3)):=by
  intro r
  induction r with
  |zero=>
   intro i hi
   obtain rfl:i=N:=by omega
   have hd:=lP i
   refine⟨L i,af aI (F7 M g i i s 0 0 (L i) [] c0 c1 c2 c3) ?_⟩
   simp only[nu,bh,HI,eg,aG.ok,hd]
   exact⟨fun q=>(by cases q),fun _=>(by first | exact aeQ | rfl)⟩
  |succ r ih=>
   intro i hi
   have hd:=kj (i:=i) (n:=N) (by omega)
   have w:=fk i (by omega)
   obtain⟨L',k⟩:=ih (i+1) (by omega)
   by_cases z:e i=0
   · refine⟨L',af aI (F7 M g N i s (e i) (a i) (L i) (L (i+1)) c0 c1 c2 c3) ?_⟩
     simp only[nu,bh,HI,eg,aG.ok,hd,w]
     refine⟨fun _=>⟨h i (by omega),fun q=>absurd z (by simpa using q),fun q=> ?_⟩,nofun⟩
     rw[lV,if_neg (by simpa using q)];exact k
   · refine⟨L (i+1),af aI (F7 M g N i s (e i) (a i) (L i) (L (i+1)) c0 c1 c2 c3) ?_⟩
     simp only[nu,bh,HI,eg,aG.ok,hd,w]
     refine⟨fun _=>⟨h i (by omega),fun q=> ?_,fun q=>absurd (by simpa using q) z⟩,nofun⟩
     rw[lV,if_pos (by simpa using q)];rfl
 obtain⟨L',k⟩:=loop N 0 (by omega)
 exact⟨L',aa aI (WX M g N s (L 0) [] c0 c1 c2 c3) k⟩
theorem Ra (M:Mo):aE aeB env (aJ aB av [(56,0)] [] []) 1000000 56 ([AV.agg (adP AV.p M.aH)]) ([]) (.fin) =
(.at (ah aeB env 56 0 [.mp 0 0,bP,.p (.ps M.aP.length 3 (adw bg M.aP)),sI .i64 (↑M.aP.length:Int),sI .i64 0] ([.pc M.aH]) 0 37)):=by kernel_rfl
theorem Rb (M:Mo):aE aeB env (aJ aB av [(34,0)] [] []) 1000000 34 ([AV.agg (adP AV.p M.aH)]) ([]) (.fin) =
(.at (ah aeB env 34 0 [.mp 0 0,bP,.p (.ps M.fns.length 3 (adw aM M.fns)),sI .i64 (↑M.fns.length:Int),sI .i64 0] ([.pc M.aH]) 0 66)):=by kernel_rfl
abbrev wo (x0:List PV) (x1:Nat):Bool:=isStr (aA x0 (aF x1*3))&&(isStr (aA x0 (aF x1*3+1))&&(isInt tp (aA x0 (aF x1*3+1+1))&&true))&&true
abbrev bA (x0:Nat) (x1:Nat):Bool:=bE (↑x0:Int) x1&&true&&true
theorem DL (M:Mo) (n:Nat) (k:Nat) (i:Nat) (cs:List PV) (a:List PV):grow aeB env (aJ aB av [(56,0),(56,2)] [(56,0,1)] [(56,5,0),(56,5,1)]) 1000000 true (ah aeB env 56 0 ([AV.mp 0 0,AV.os aeE 0 0 [],AV.p (PV.ps k 3 cs),sI tp (↑k:Int),sI tp (↑i:Int)]) ([bf.pc M.aH]) 0 37) (.fin) atEnd =
(.test ((bh i k))
 (.must ((bA i k))
 (.must ((wo cs i))
 (.at (ah aeB env 56 0 [.mp 0 0,.os (some 1) 2 1 [.sc (.string (aY (aA cs (aF i*3)))),.sc (.string (aY (aA cs (aF i*3+1))))],.p (.ps k 3 cs),sI .i64 (↑k:Int),sI .i64 (tp.wrap ((↑i:Int)+1))] ([.pc M.aH,.tok]) 0 37))))
 (.at (ah aeB env 56 2 [bP,.p (.ps M.exs.length 3 (adw aV M.exs)),sI .i64 (↑M.exs.length:Int),sI .i64 0] ([]) 0 37))):=by kernel_rfl
theorem DM (M:Mo) (n:Nat) (k:Nat) (i:Nat) (cs:List PV) (a:List PV):grow aeB env (aJ aB av [(56,0),(56,2)] [(56,0,1)] (fm 56 [(5,0),(5,1),(6,6)])) 1000000 true (ah aeB env 56 0 ([AV.mp 0 0,AV.os (aeF 1) n 1 a,AV.p (PV.ps k 3 cs),sI tp (↑k:Int),sI tp (↑i:Int)]) ([bf.pc M.aH,bf.tok]) 0 37) (.fin) atEnd =
(.test ((bh i k))
 (.must ((bA i k))
 (.must ((wo cs i))
 (.must (((n+2)*16).ble eY&&(n+2).ble eY&&true)
 (.at (ah aeB env 56 0 [.mp 0 0,.os (some 1) (n+2) 1 (a++[.sc (.string (aY (aA cs (aF i*3)))),.sc (.string (aY (aA cs (aF i*3+1))))]),.p (.ps k 3 cs),sI .i64 (↑k:Int),sI .i64 (tp.wrap ((↑i:Int)+1))] ([.pc M.aH,.tok]) 0 37)))))
 (.at (ah aeB env 56 2 [.os (some 0) n 1 a,.p (.ps M.exs.length 3 (adw aV M.exs)),sI .i64 (↑M.exs.length:Int),sI .i64 0] ([.tok]) 0 37))):=by kernel_rfl
abbrev wq (x0:List PV) (x1:Nat):Bool:=isStr (aA x0 (aF x1*3))&&(isInt tp (aA x0 (aF x1*3+1))&&(isInt acU (aA x0 (aF x1*3+1+1))&&true))&&true
theorem DN (n:Nat) (k:Nat) (i:Nat) (cs:List PV) (a:List PV):grow aeB env (aJ aB av [(56,0),(56,2)] [(56,0,3)] [(56,10,0),(56,10,1)]) 1000000 true (ah aeB env 56 2 ([AV.os aeE 0 0 [],AV.p (PV.ps k 3 cs),sI tp (↑k:Int),sI tp (↑i:Int)]) ([]) 0 37) (.fin) atEnd =
(.test ((bh i k))
 (.must ((bA i k))
 (.must ((wq cs i))
 (.at (ah aeB env 56 2 [.os (some 0) 1 1 [.sc (.string (aY (aA cs (aF i*3))))],.p (.ps k 3 cs),sI .i64 (↑k:Int),sI .i64 (tp.wrap ((↑i:Int)+1))] ([.tok]) 0 37))))
 (.out (.ret (bP) []))):=by kernel_rfl
theorem DO (n:Nat) (k:Nat) (i:Nat) (cs:List PV) (a:List PV):grow aeB env (aJ aB av [(56,0),(56,2)] [(56,0,3)] (fm 56 [(10,0),(10,1),(11,4)])) 1000000 true (ah aeB env 56 2 ([AV.os (aeF 0) n 1 a,AV.p (PV.ps k 3 cs),sI tp (↑k:Int),sI tp (↑i:Int)]) ([bf.tok]) 0 37) (.fin) atEnd =
(.test ((bh i k))
 (.must ((bA i k))
 (.must ((wq cs i))
 (.must (((n+1)*16).ble eY&&(n+1).ble eY&&true)
 (.at (ah aeB env 56 2 [.os (some 0) (n+1) 1 (a++[.sc (.string (aY (aA cs (aF i*3))))]),.p (.ps k 3 cs),sI .i64 (↑k:Int),sI .i64 (tp.wrap ((↑i:Int)+1))] ([.tok]) 0 37)))))
 (.out (.ret (.os (some 0) n 1 a) [.tok]))):=by kernel_rfl
abbrev wu (x0:List PV) (x1:Nat):Bool:=isInt tp (aA x0 (aF x1*3))&&(isInt tp (aA x0 (aF x1*3+1))&&(aX (aA x0 (aF x1*3+1+1))&&true))&&true
theorem DP (M:Mo) (n:Nat) (k:Nat) (i:Nat) (cs:List PV) (a:List PV):grow aeB env (aJ aB av [(34,0),(34,2)] [(34,0,1)] [(34,5,0),(34,5,1)]) 1000000 true (ah aeB env 34 0 ([AV.mp 0 0,AV.os aeE 0 0 [],AV.p (PV.ps k 3 cs),sI tp (↑k:Int),sI tp (↑i:Int)]) ([bf.pc M.aH]) 0 66) (.fin) atEnd =
(.test ((bh i k))
 (.must ((bA i k))
 (.must ((wu cs i))
 (.at (ah aeB env 34 0 [.mp 0 0,.os (some 1) 1 1 [.ps (aq (aA cs (aF i*3+1+1))) (aK (aA cs (aF i*3+1+1))) (aj (aA cs (aF i*3+1+1)))],.p (.ps k 3 cs),sI .i64 (↑k:Int),sI .i64 (tp.wrap ((↑i:Int)+1))] ([.pc M.aH,.tok]) 0 66))))
 (.at (ah aeB env 34 2 [.mp 0 0,bP,.p (.ps M.gls.length 2 (adw bC M.gls)),sI .i64 (↑M.gls.length:Int),sI .i64 0] ([.pc M.aH]) 0 66))):=by kernel_rfl
abbrev lW (x0:Nat):Bool:=((x0+1)*24).ble eY&&(x0+1).ble eY&&true
theorem DQ (M:Mo) (n:Nat) (k:Nat) (i:Nat) (cs:List PV) (a:List PV):grow aeB env (aJ aB av [(34,0),(34,2)] [(34,0,1)] (fm 34 [(5,0),(5,1),(6,5)])) 1000000 true (ah aeB env 34 0 ([AV.mp 0 0,AV.os (aeF 1) n 1 a,AV.p (PV.ps k 3 cs),sI tp (↑k:Int),sI tp (↑i:Int)]) ([bf.pc M.aH,bf.tok]) 0 66) (.fin) atEnd =
(.test ((bh i k))
 (.must ((bA i k))
 (.must ((wu cs i))
 (.must ((lW n))
 (.at (ah aeB env 34 0 [.mp 0 0,.os (some 1) (n+1) 1 (a++[.ps (aq (aA cs (aF i*3+1+1))) (aK (aA cs (aF i*3+1+1))) (aj (aA cs (aF i*3+1+1)))]),.p (.ps k 3 cs),sI .i64 (↑k:Int),sI .i64 (tp.wrap ((↑i:Int)+1))] ([.pc M.aH,.tok]) 0 66)))))
 (.at (ah aeB env 34 2 [.mp 0 0,.os (some 1) n 1 a,.p (.ps M.gls.length 2 (adw bC M.gls)),sI .i64 (↑M.gls.length:Int),sI .i64 0] ([.pc M.aH,.tok]) 0 66))):=by kernel_rfl
theorem DR (M:Mo) (n:Nat) (k:Nat) (i:Nat) (cs:List PV) (a:List PV):grow aeB env (aJ aB av [(34,2),(34,4)] [(34,0,3)] [(34,10,0),(34,10,1)]) 1000000 true (ah aeB env 34 2 ([AV.mp 0 0,AV.os aeE 0 0 [],AV.p (PV.ps k 2 cs),sI tp (↑k:Int),sI tp (↑i:Int)]) ([bf.pc M.aH]) 0 66) (.fin) atEnd =
(.test ((bh i k))
 (.must ((bA i k))
 (.must (isBool (aA cs (aF i*2))&&(aX (aA cs (aF i*2+1))&&true)&&true)
 (.at (ah aeB env 34 2 [.mp 0 0,.os (some 1) 1 1 [.ps (aq (aA cs (aF i*2+1))) (aK (aA cs (aF i*2+1))) (aj (aA cs (aF i*2+1)))],.p (.ps k 2 cs),sI .i64 (↑k:Int),sI .i64 (tp.wrap ((↑i:Int)+1))] ([.pc M.aH,.tok]) 0 66))))
 (.at (ah aeB env 34 4 [.mp 0 0,bP,.p (.ps M.els.length 2 (adw aT M.els)),sI .i64 (↑M.els.length:Int),sI .i64 0] ([.pc M.aH]) 0 66))):=by kernel_rfl
theorem DS (M:Mo) (n:Nat) (k:Nat) (i:Nat) (cs:List PV) (a:List PV):grow aeB env (aJ aB av [(34,2),(34,4)] [(34,0,3)] (fm 34 [(10,0),(10,1),(11,4)])) 1000000 true (ah aeB env 34 2 ([AV.mp 0 0,AV.os (aeF 1) n 1 a,AV.p (PV.ps k 2 cs),sI tp (↑k:Int),sI tp (↑i:Int)]) ([bf.pc M.aH,bf.tok]) 0 66) (.fin) atEnd =
(.test ((bh i k))
 (.must ((bA i k))
 (.must (isBool (aA cs (aF i*2))&&(aX (aA cs (aF i*2+1))&&true)&&true)
 (.must ((lW n))
 (.at (ah aeB env 34 2 [.mp 0 0,.os (some 1) (n+1) 1 (a++[.ps (aq (aA cs (aF i*2+1))) (aK (aA cs (aF i*2+1))) (aj (aA cs (aF i*2+1)))]),.p (.ps k 2 cs),sI .i64 (↑k:Int),sI .i64 (tp.wrap ((↑i:Int)+1))] ([.pc M.aH,.tok]) 0 66)))))
 (.at (ah aeB env 34 4 [.mp 0 0,.os (some 1) n 1 a,.p (.ps M.els.length 2 (adw aT M.els)),sI .i64 (↑M.els.length:Int),sI .i64 0] ([.pc M.aH,.tok]) 0 66))):=by kernel_rfl
abbrev kC (x0:List PV) (x1:Nat):Bool:=aX (aA x0 (aF x1*2))&&(aX (aA x0 (aF x1*2+1))&&true)&&true
theorem DT (M:Mo) (n:Nat) (k:Nat) (i:Nat) (cs:List PV) (a:List PV):grow aeB env (aJ aB av [(34,4),(34,6)] [(34,0,5)] [(34,15,0),(34,15,1)]) 1000000 true (ah aeB env 34 4 ([AV.mp 0 0,AV.os aeE 0 0 [],AV.p (PV.ps k 2 cs),sI tp (↑k:Int),sI tp (↑i:Int)]) ([bf.pc M.aH]) 0 66) (.fin) atEnd =
(.test ((bh i k))
 (.must ((bA i k))
 (.must ((kC cs i))
 (.at (ah aeB env 34 4 [.mp 0 0,.os (some 1) 1 1 [.ps (aq (aA cs (aF i*2))) (aK (aA cs (aF i*2))) (aj (aA cs (aF i*2)))],.p (.ps k 2 cs),sI .i64 (↑k:Int),sI .i64 (tp.wrap ((↑i:Int)+1))] ([.pc M.aH,.tok]) 0 66))))
 (.at (ah aeB env 34 6 [bP,.p (.ps M.bw.length 2 (adw bz M.bw)),sI .i64 (↑M.bw.length:Int),sI .i64 0] ([]) 0 66))):=by kernel_rfl
theorem DU (M:Mo) (n:Nat) (k:Nat) (i:Nat) (cs:List PV) (a:List PV):grow aeB env (aJ aB av [(34,4),(34,6)] [(34,0,5)] (fm 34 [(15,0),(15,1),(16,4)])) 1000000 true (ah aeB env 34 4 ([AV.mp 0 0,AV.os (aeF 1) n 1 a,AV.p (PV.ps k 2 cs),sI tp (↑k:Int),sI tp (↑i:Int)]) ([bf.pc M.aH,bf.tok]) 0 66) (.fin) atEnd =
(.test ((bh i k))
 (.must ((bA i k))
 (.must ((kC cs i))
 (.must ((lW n))
 (.at (ah aeB env 34 4 [.mp 0 0,.os (some 1) (n+1) 1 (a++[.ps (aq (aA cs (aF i*2))) (aK (aA cs (aF i*2))) (aj (aA cs (aF i*2)))]),.p (.ps k 2 cs),sI .i64 (↑k:Int),sI .i64 (tp.wrap ((↑i:Int)+1))] ([.pc M.aH,.tok]) 0 66)))))
 (.at (ah aeB env 34 6 [.os (some 0) n 1 a,.p (.ps M.bw.length 2 (adw bz M.bw)),sI .i64 (↑M.bw.length:Int),sI .i64 0] ([.tok]) 0 66))):=by kernel_rfl
theorem DV (n:Nat) (k:Nat) (i:Nat) (cs:List PV) (a:List PV):grow aeB env (aJ aB av [(34,6)] [(34,0,7)] [(34,20,0),(34,20,1)]) 1000000 true (ah aeB env 34 6 ([AV.os aeE 0 0 [],AV.p (PV.ps k 2 cs),sI tp (↑k:Int),sI tp (↑i:Int)]) ([]) 0 66) (.fin) atEnd =
(.test ((bh i k))
 (.must ((bA i k))
 (.must ((kC cs i))
 (.at (ah aeB env 34 6 [.os (some 0) 1 1 [.ps (aq (aA cs (aF i*2))) (aK (aA cs (aF i*2))) (aj (aA cs (aF i*2)))],.p (.ps k 2 cs),sI .i64 (↑k:Int),sI .i64 (tp.wrap ((↑i:Int)+1))] ([.tok]) 0 66))))
 (.out (.ret (bP) []))):=by kernel_rfl
theorem DW (n:Nat) (k:Nat) (i:Nat) (cs:List PV) (a:List PV):grow aeB env (aJ aB av [(34,6)] [(34,0,7)] (fm 34 [(20,0),(20,1),(21,4)])) 1000000 true (ah aeB env 34 6 ([AV.os (aeF 0) n 1 a,AV.p (PV.ps k 2 cs),sI tp (↑k:Int),sI tp (↑i:Int)]) ([bf.tok]) 0 66) (.fin) atEnd =
(.test ((bh i k))
 (.must ((bA i k))
 (.must ((kC cs i))
 (.must ((lW n))
 (.at (ah aeB env 34 6 [.os (some 0) (n+1) 1 (a++[.ps (aq (aA cs (aF i*2))) (aK (aA cs (aF i*2))) (aj (aA cs (aF i*2)))]),.p (.ps k 2 cs),sI .i64 (↑k:Int),sI .i64 (tp.wrap ((↑i:Int)+1))] ([.tok]) 0 66)))))
 (.out (.ret (.os (some 0) n 1 a) [.tok]))):=by kernel_rfl
structure _root_.Go.Am.Mo.fit (M:Mo):Prop where
 tys:M.tys.length≤1000000
 aP:M.aP.length≤1000000
 fns:M.fns.length≤1000000
 cN:M.cN.length≤1000000
 cL:M.cL.length≤1000000
 gls:M.gls.length≤1000000
 exs:M.exs.length≤1000000
 els:M.els.length≤1000000
 bw:M.bw.length≤1000000
theorem F8:(1000000000:Nat)≤eY:=ae (by kernel_rfl)
theorem nY {α:Type} {l:List α} {f:α→List PV} {D:List PV→Nat→cw} {K:List PV→Prop} {o:Out} {B:Nat}
  (step : ∀(a:List PV) (i:Nat) (x:α),l[i]? = some x→(a++f x).length≤B→bp aeB env (D (a++f x) (i+1)) o→bp aeB env (D a i) o)
  (fin : ∀a:List PV,K a→bp aeB env (D a l.length) o) :
  ∀(r i:Nat) (a:List PV),i+r=l.length→(a++(l.drop i).flatMap f).length≤B→K (a++(l.drop i).flatMap f)→bp aeB env (D a i) o:=by
 intro r
 induction r with
 |zero=>
  intro i a hi hB h
  obtain rfl:i=l.length:=by omega
  rw[aes,List.flatMap_nil,QR] at h
  exact fin a h
 |succ r ih=>
  intro i a hi hB h
  have hl:i<l.length:=by omega
  rw[aeo hl,adY,←pa] at h hB
  refine step a i l[i] (df hl) ?_ (ih (i+1) _ (by omega) hB h)
  rw[du] at hB
  omega
def Ko (a:List PV):Out:=if a=[] then .ret (.os none 0 0 []) [] else .ret (.os (some 0) a.length 1 a) [.tok]
def Nt (x:Im):List PV:=[.sc (.string x.mo),.sc (.string x.nm)]
def V2 (x:Ex):List PV:=[.sc (.string x.nm)]
def Zi (x:Fu):List PV:=[pL x.l]
def cdG (x:Gl):List PV:=[pL x.l]
def cdE (x:El):List PV:=[pL x.l]
def cdD (x:Da):List PV:=[pL x.l]
def Nu (M:Mo) (a:List PV) (i:Nat):cw:=
 if a=[] then ah aeB env 56 0 [.mp 0 0,.os none 0 0 [],.p (.ps M.aP.length 3 (M.aP.flatMap bg)),sI .i64 M.aP.length,sI .i64 i] [.pc M.aH] 0 37
 else ah aeB env 56 0 [.mp 0 0,.os (some 1) a.length 1 a,.p (.ps M.aP.length 3 (M.aP.flatMap bg)),sI .i64 M.aP.length,sI .i64 i] [.pc M.aH,.tok] 0 37
def Kp (M:Mo) (a:List PV) (i:Nat):cw:=
 if a=[] then ah aeB env 56 2 [.os none 0 0 [],.p (.ps M.exs.length 3 (M.exs.flatMap aV)),sI .i64 M.exs.length,sI .i64 i] [] 0 37
 else ah aeB env 56 2 [.os (some 0) a.length 1 a,.p (.ps M.exs.length 3 (M.exs.flatMap aV)),sI .i64 M.exs.length,sI .i64 i] [.tok] 0 37
theorem Nv (M:Mo) (hM:M.fit) (o:Out) (a:List PV) (i:Nat) (x:Im) (hx:M.aP[i]? = some x) (hB:(a++Nt x).length≤10000000) (h:bp aeB env (Nu M (a++Nt x) (i+1)) o):bp aeB env (Nu M a i) o:=by
 have hi:i<M.aP.length:=(dt.1 hx).1
 have c:=aQ (z:=3) (enc:=bg) (fun _=>rfl) hx
 have c0:(M.aP.flatMap bg).getD (i*3) .aU = .sc (.string x.mo):=c 0 (by decide)
 have c1:(M.aP.flatMap bg).getD (i*3+1) .aU = .sc (.string x.nm):=c 1 (by decide)
 have c2:(M.aP.flatMap bg).getD (i*3+1+1) .aU = .sc (.int .i64 x.ty):=c 2 (by decide)
 have hl:=hM.aP
 have hL:=F8
 have w:=fk i (by omega)
 have hd:decide ((i:Int)<(M.aP.length:Int))=true:=by simp;omega
 unfold Nu at h ⊢
 by_cases e:a=[]
 · subst e
   rw[if_neg (by simp[Nt]),H0] at h
   rw[if_pos rfl]
   refine af aI (DL M 0 M.aP.length i (M.aP.flatMap bg) []) ?_
   simp only[bh,bA,wo,br,aG.ok,isStr,isInt,aX,isBool,aY,au,aW,aq,aK,aj,bE,aeL,c0,c1,c2,hd,w]
   exact⟨fun _=>⟨by first | (simp;done) | (simp;omega),rfl,h⟩,fun q=>by cases q⟩
 · rw[if_neg (by simp[e])] at h
   rw[if_neg e]
   refine af aI (DM M a.length M.aP.length i (M.aP.flatMap bg) a) ?_
   rw[du] at h hB
   have hB:a.length+2≤10000000:=hB
   simp only[bh,bA,wo,br,aG.ok,isStr,isInt,aX,isBool,aY,au,aW,aq,aK,aj,bE,aeL,c0,c1,c2,hd,w]
   exact⟨fun _=>⟨by first | (simp;done) | (simp;omega),rfl,by simp only[aeN,jn,aey];omega,h⟩,fun q=>by cases q⟩
theorem Rc (M:Mo) (o:Out) (a:List PV) (h:bp aeB env (Kp M a 0) o):bp aeB env (Nu M a M.aP.length) o:=by
 have hd:decide ((M.aP.length:Int)<(M.aP.length:Int))=false:=by simp
 unfold Kp at h
 unfold Nu
 by_cases e:a=[]
 · subst e
   rw[if_pos rfl] at h ⊢
   refine af aI (DL M 0 M.aP.length M.aP.length (M.aP.flatMap bg) []) ?_
   simp only[bh,bA,wo,br,aG.ok,hd]
   exact⟨nofun,fun _=>h⟩
 · rw[if_neg e] at h ⊢
   refine af aI (DM M a.length M.aP.length M.aP.length (M.aP.flatMap bg) a) ?_
   simp only[bh,bA,wo,br,aG.ok,hd]
   exact⟨nofun,fun _=>h⟩
theorem Nw (M:Mo) (hM:M.fit) (o:Out) (a:List PV) (i:Nat) (x:Ex) (hx:M.exs[i]? = some x) (hB:(a++V2 x).length≤10000000) (h:bp aeB env (Kp M (a++V2 x) (i+1)) o):bp aeB env (Kp M a i) o:=by
 have hi:i<M.exs.length:=(dt.1 hx).1
 have c:=aQ (z:=3) (enc:=aV) (fun _=>rfl) hx
 have c0:(M.exs.flatMap aV).getD (i*3) .aU = .sc (.string x.nm):=c 0 (by decide)
 have c1:(M.exs.flatMap aV).getD (i*3+1) .aU = .sc (.int .i64 x.kind):=c 1 (by decide)
 have c2:(M.exs.flatMap aV).getD (i*3+1+1) .aU = .sc (.int .u32 x.ix):=c 2 (by decide)
 have hl:=hM.exs
 have hL:=F8
 have w:=fk i (by omega)
 have hd:decide ((i:Int)<(M.exs.length:Int))=true:=by simp;omega
 unfold Kp at h ⊢
 by_cases e:a=[]
 · subst e
   rw[if_neg (by simp[V2]),H0] at h
   rw[if_pos rfl]
   refine af aI (DN 0 M.exs.length i (M.exs.flatMap aV) []) ?_
   simp only[bh,bA,wq,br,aG.ok,isStr,isInt,aX,isBool,aY,au,aW,aq,aK,aj,bE,aeL,c0,c1,c2,hd,w]
   exact⟨fun _=>⟨by first | (simp;done) | (simp;omega),rfl,h⟩,fun q=>by cases q⟩
 · rw[if_neg (by simp[e])] at h
   rw[if_neg e]
   refine af aI (DO a.length M.exs.length i (M.exs.flatMap aV) a) ?_
   rw[du] at h hB
   have hB:a.length+1≤10000000:=hB
   simp only[bh,bA,wq,br,aG.ok,isStr,isInt,aX,isBool,aY,au,aW,aq,aK,aj,bE,aeL,c0,c1,c2,hd,w]
   exact⟨fun _=>⟨by first | (simp;done) | (simp;omega),rfl,by simp only[aeN,jn,aey];omega,h⟩,fun q=>by cases q⟩
theorem Rd (M:Mo) (o:Out) (a:List PV) (h:Ko a=o):bp aeB env (Kp M a M.exs.length) o:=by
 have hd:decide ((M.exs.length:Int)<(M.exs.length:Int))=false:=by simp
 unfold Ko at h
 unfold Kp
 by_cases e:a=[]
 · subst e
   rw[if_pos rfl] at h ⊢
   refine af aI (DN 0 M.exs.length M.exs.length (M.exs.flatMap aV) []) ?_
   simp only[bh,bA,wq,br,aG.ok,hd]
   exact⟨nofun,fun _=>h⟩
 · rw[if_neg e] at h ⊢
   refine af aI (DO a.length M.exs.length M.exs.length (M.exs.flatMap aV) a) ?_
   simp only[bh,bA,wq,br,aG.ok,hd]
   exact⟨nofun,fun _=>h⟩
def Nx (M:Mo) (a:List PV) (i:Nat):cw:=
 if a=[] then ah aeB env 34 0 [.mp 0 0,.os none 0 0 [],.p (.ps M.fns.length 3 (M.fns.flatMap aM)),sI .i64 M.fns.length,sI .i64 i] [.pc M.aH] 0 66
 else ah aeB env 34 0 [.mp 0 0,.os (some 1) a.length 1 a,.p (.ps M.fns.length 3 (M.fns.flatMap aM)),sI .i64 M.fns.length,sI .i64 i] [.pc M.aH,.tok] 0 66
def Kq (M:Mo) (a:List PV) (i:Nat):cw:=
 if a=[] then ah aeB env 34 2 [.mp 0 0,.os none 0 0 [],.p (.ps M.gls.length 2 (M.gls.flatMap bC)),sI .i64 M.gls.length,sI .i64 i] [.pc M.aH] 0 66
 else ah aeB env 34 2 [.mp 0 0,.os (some 1) a.length 1 a,.p (.ps M.gls.length 2 (M.gls.flatMap bC)),sI .i64 M.gls.length,sI .i64 i] [.pc M.aH,.tok] 0 66
def Kr (M:Mo) (a:List PV) (i:Nat):cw:=
 if a=[] then ah aeB env 34 4 [.mp 0 0,.os none 0 0 [],.p (.ps M.els.length 2 (M.els.flatMap aT)),sI .i64 M.els.length,sI .i64 i] [.pc M.aH] 0 66
 else ah aeB env 34 4 [.mp 0 0,.os (some 1) a.length 1 a,.p (.ps M.els.length 2 (M.els.flatMap aT)),sI .i64 M.els.length,sI .i64 i] [.pc M.aH,.tok] 0 66
def Ks (M:Mo) (a:List PV) (i:Nat):cw:=
 if a=[] then ah aeB env 34 6 [.os none 0 0 [],.p (.ps M.bw.length 2 (M.bw.flatMap bz)),sI .i64 M.bw.length,sI .i64 i] [] 0 66
 else ah aeB env 34 6 [.os (some 0) a.length 1 a,.p (.ps M.bw.length 2 (M.bw.flatMap bz)),sI .i64 M.bw.length,sI .i64 i] [.tok] 0 66
theorem Ny (M:Mo) (hM:M.fit) (o:Out) (a:List PV) (i:Nat) (x:Fu) (hx:M.fns[i]? = some x) (hB:(a++Zi x).length≤10000000) (h:bp aeB env (Nx M (a++Zi x) (i+1)) o):bp aeB env (Nx M a i) o:=by
 have hi:i<M.fns.length:=(dt.1 hx).1
 have c:=aQ (z:=3) (enc:=aM) (fun _=>rfl) hx
 have c0:(M.fns.flatMap aM).getD (i*3) .aU = .sc (.int .i64 x.ty):=c 0 (by decide)
 have c1:(M.fns.flatMap aM).getD (i*3+1) .aU = .sc (.int .i64 x.lo):=c 1 (by decide)
 have c2:(M.fns.flatMap aM).getD (i*3+1+1) .aU=pL x.l:=c 2 (by decide)
 have hl:=hM.fns
 have hL:=F8
 have w:=fk i (by omega)
 have hd:decide ((i:Int)<(M.fns.length:Int))=true:=by simp;omega
 unfold Nx at h ⊢
 by_cases e:a=[]
 · subst e
   rw[if_neg (by simp[Zi]),H0] at h
   rw[if_pos rfl]
   refine af aI (DP M 0 M.fns.length i (M.fns.flatMap aM) []) ?_
   simp only[bh,bA,wu,br,aG.ok,isStr,isInt,aX,isBool,aY,au,aW,aq,aK,aj,bE,aeL,c0,c1,c2,hd,w]
   exact⟨fun _=>⟨by first | (simp;done) | (simp;omega),rfl,h⟩,fun q=>by cases q⟩
 · rw[if_neg (by simp[e])] at h
   rw[if_neg e]
   refine af aI (DQ M a.length M.fns.length i (M.fns.flatMap aM) a) ?_
   rw[du] at h hB
   have hB:a.length+1≤10000000:=hB
   simp only[bh,bA,wu,lW,br,aG.ok,isStr,isInt,aX,isBool,aY,au,aW,aq,aK,aj,bE,aeL,c0,c1,c2,hd,w]
   exact⟨fun _=>⟨by first | (simp;done) | (simp;omega),rfl,by simp only[aeN,jn,aey];omega,h⟩,fun q=>by cases q⟩
theorem Re (M:Mo) (o:Out) (a:List PV) (h:bp aeB env (Kq M a 0) o):bp aeB env (Nx M a M.fns.length) o:=by
 have hd:decide ((M.fns.length:Int)<(M.fns.length:Int))=false:=by simp
 unfold Kq at h
 unfold Nx
 by_cases e:a=[]
 · subst e
   rw[if_pos rfl] at h ⊢
   refine af aI (DP M 0 M.fns.length M.fns.length (M.fns.flatMap aM) []) ?_
   simp only[bh,bA,wu,br,aG.ok,hd]
   exact⟨nofun,fun _=>h⟩
 · rw[if_neg e] at h ⊢
   refine af aI (DQ M a.length M.fns.length M.fns.length (M.fns.flatMap aM) a) ?_
   simp only[bh,bA,wu,lW,br,aG.ok,hd]
   exact⟨nofun,fun _=>h⟩
theorem Nz (M:Mo) (hM:M.fit) (o:Out) (a:List PV) (i:Nat) (x:Gl) (hx:M.gls[i]? = some x) (hB:(a++cdG x).length≤10000000) (h:bp aeB env (Kq M (a++cdG x) (i+1)) o):bp aeB env (Kq M a i) o:=by
 have hi:i<M.gls.length:=(dt.1 hx).1
 have c:=aQ (z:=2) (enc:=bC) (fun _=>rfl) hx
 have c0:(M.gls.flatMap bC).getD (i*2) .aU = .sc (.bool x.mu):=c 0 (by decide)
 have c1:(M.gls.flatMap bC).getD (i*2+1) .aU=pL x.l:=c 1 (by decide)
 have hl:=hM.gls
 have hL:=F8
 have w:=fk i (by omega)
 have hd:decide ((i:Int)<(M.gls.length:Int))=true:=by simp;omega
 unfold Kq at h ⊢
 by_cases e:a=[]
 · subst e
   rw[if_neg (by simp[cdG]),H0] at h
   rw[if_pos rfl]
   refine af aI (DR M 0 M.gls.length i (M.gls.flatMap bC) []) ?_
   simp only[bh,bA,br,aG.ok,isStr,isInt,aX,isBool,aY,au,aW,aq,aK,aj,bE,aeL,c0,c1,hd,w]
   exact⟨fun _=>⟨by first | (simp;done) | (simp;omega),rfl,h⟩,fun q=>by cases q⟩
 · rw[if_neg (by simp[e])] at h
   rw[if_neg e]
   refine af aI (DS M a.length M.gls.length i (M.gls.flatMap bC) a) ?_
   rw[du] at h hB
   have hB:a.length+1≤10000000:=hB
   simp only[bh,bA,lW,br,aG.ok,isStr,isInt,aX,isBool,aY,au,aW,aq,aK,aj,bE,aeL,c0,c1,hd,w]
   exact⟨fun _=>⟨by first | (simp;done) | (simp;omega),rfl,by simp only[aeN,jn,aey];omega,h⟩,fun q=>by cases q⟩
theorem Rf (M:Mo) (o:Out) (a:List PV) (h:bp aeB env (Kr M a 0) o):bp aeB env (Kq M a M.gls.length) o:=by
 have hd:decide ((M.gls.length:Int)<(M.gls.length:Int))=false:=by simp
 unfold Kr at h
 unfold Kq
 by_cases e:a=[]
 · subst e
   rw[if_pos rfl] at h ⊢
   refine af aI (DR M 0 M.gls.length M.gls.length (M.gls.flatMap bC) []) ?_
   simp only[bh,bA,br,aG.ok,hd]
   exact⟨nofun,fun _=>h⟩
 · rw[if_neg e] at h ⊢
   refine af aI (DS M a.length M.gls.length M.gls.length (M.gls.flatMap bC) a) ?_
   simp only[bh,bA,lW,br,aG.ok,hd]
   exact⟨nofun,fun _=>h⟩
theorem NA (M:Mo) (hM:M.fit) (o:Out) (a:List PV) (i:Nat) (x:El) (hx:M.els[i]? = some x) (hB:(a++cdE x).length≤10000000) (h:bp aeB env (Kr M (a++cdE x) (i+1)) o):bp aeB env (Kr M a i) o:=by
 have hi:i<M.els.length:=(dt.1 hx).1
 have c:=aQ (z:=2) (enc:=aT) (fun _=>rfl) hx
 have c0:(M.els.flatMap aT).getD (i*2) .aU=pL x.l:=c 0 (by decide)
 have c1:(M.els.flatMap aT).getD (i*2+1) .aU=pT .u32 x.fs:=c 1 (by decide)
 have hl:=hM.els
 have hL:=F8
 have w:=fk i (by omega)
 have hd:decide ((i:Int)<(M.els.length:Int))=true:=by simp;omega
 unfold Kr at h ⊢
 by_cases e:a=[]
 · subst e
   rw[if_neg (by simp[cdE]),H0] at h
   rw[if_pos rfl]
   refine af aI (DT M 0 M.els.length i (M.els.flatMap aT) []) ?_
   simp only[bh,bA,kC,br,aG.ok,isStr,isInt,aX,isBool,aY,au,aW,aq,aK,aj,bE,aeL,c0,c1,hd,w]
   exact⟨fun _=>⟨by first | (simp;done) | (simp;omega),rfl,h⟩,fun q=>by cases q⟩
 · rw[if_neg (by simp[e])] at h
   rw[if_neg e]
   refine af aI (DU M a.length M.els.length i (M.els.flatMap aT) a) ?_
   rw[du] at h hB
   have hB:a.length+1≤10000000:=hB
   simp only[bh,bA,kC,lW,br,aG.ok,isStr,isInt,aX,isBool,aY,au,aW,aq,aK,aj,bE,aeL,c0,c1,hd,w]
   exact⟨fun _=>⟨by first | (simp;done) | (simp;omega),rfl,by simp only[aeN,jn,aey];omega,h⟩,fun q=>by cases q⟩
theorem Rg (M:Mo) (o:Out) (a:List PV) (h:bp aeB env (Ks M a 0) o):bp aeB env (Kr M a M.els.length) o:=by
 have hd:decide ((M.els.length:Int)<(M.els.length:Int))=false:=by simp
 unfold Ks at h
 unfold Kr
 by_cases e:a=[]
 · subst e
   rw[if_pos rfl] at h ⊢
   refine af aI (DT M 0 M.els.length M.els.length (M.els.flatMap aT) []) ?_
   simp only[bh,bA,kC,br,aG.ok,hd]
   exact⟨nofun,fun _=>h⟩
 · rw[if_neg e] at h ⊢
   refine af aI (DU M a.length M.els.length M.els.length (M.els.flatMap aT) a) ?_
   simp only[bh,bA,kC,lW,br,aG.ok,hd]
   exact⟨nofun,fun _=>h⟩
theorem NC (M:Mo) (hM:M.fit) (o:Out) (a:List PV) (i:Nat) (x:Da) (hx:M.bw[i]? = some x) (hB:(a++cdD x).length≤10000000) (h:bp aeB env (Ks M (a++cdD x) (i+1)) o):bp aeB env (Ks M a i) o:=by
 have hi:i<M.bw.length:=(dt.1 hx).1
 have c:=aQ (z:=2) (enc:=bz) (fun _=>rfl) hx
 have c0:(M.bw.flatMap bz).getD (i*2) .aU=pL x.l:=c 0 (by decide)
 have c1:(M.bw.flatMap bz).getD (i*2+1) .aU=pT .u8 x.bs:=c 1 (by decide)
 have hl:=hM.bw
 have hL:=F8
 have w:=fk i (by omega)
 have hd:decide ((i:Int)<(M.bw.length:Int))=true:=by simp;omega
 unfold Ks at h ⊢
 by_cases e:a=[]
 · subst e
   rw[if_neg (by simp[cdD]),H0] at h
   rw[if_pos rfl]
   refine af aI (DV 0 M.bw.length i (M.bw.flatMap bz) []) ?_
   simp only[bh,bA,kC,br,aG.ok,isStr,isInt,aX,isBool,aY,au,aW,aq,aK,aj,bE,aeL,c0,c1,hd,w]
   exact⟨fun _=>⟨by first | (simp;done) | (simp;omega),rfl,h⟩,fun q=>by cases q⟩
 · rw[if_neg (by simp[e])] at h
   rw[if_neg e]
   refine af aI (DW a.length M.bw.length i (M.bw.flatMap bz) a) ?_
   rw[du] at h hB
   have hB:a.length+1≤10000000:=hB
   simp only[bh,bA,kC,lW,br,aG.ok,isStr,isInt,aX,isBool,aY,au,aW,aq,aK,aj,bE,aeL,c0,c1,hd,w]
   exact⟨fun _=>⟨by first | (simp;done) | (simp;omega),rfl,by simp only[aeN,jn,aey];omega,h⟩,fun q=>by cases q⟩
theorem Rh (M:Mo) (o:Out) (a:List PV) (h:Ko a=o):bp aeB env (Ks M a M.bw.length) o:=by
 have hd:decide ((M.bw.length:Int)<(M.bw.length:Int))=false:=by simp
 unfold Ko at h
 unfold Ks
 by_cases e:a=[]
 · subst e
   rw[if_pos rfl] at h ⊢
   refine af aI (DV 0 M.bw.length M.bw.length (M.bw.flatMap bz) []) ?_
   simp only[bh,bA,kC,br,aG.ok,hd]
   exact⟨nofun,fun _=>h⟩
 · rw[if_neg e] at h ⊢
   refine af aI (DW a.length M.bw.length M.bw.length (M.bw.flatMap bz) a) ?_
   simp only[bh,bA,kC,lW,br,aG.ok,hd]
   exact⟨nofun,fun _=>h⟩
theorem gG {α:Type} {f:α→List PV} {n:Nat} (h : ∀x,(f x).length=n) (l:List α):(l.flatMap f).length=l.length*n:=HF h l
theorem xY {f:FuncId} {args:List AV} {a:List PV} (h : ∀v m',Ko a = .ret v m'→an aeB env f args [] v m'):an aeB env f args [] (.p (.ps a.length 1 a)) []:=by
 by_cases e:a=[]
 · subst e
   exact an.nil (h _ _ (if_pos rfl)) (aw 1)
 · exact an.pure (h _ _ (if_neg e))
def Ri (M:Mo):List PV:=M.aP.flatMap Nt++M.exs.flatMap V2
def W0 (M:Mo):List PV:=M.fns.flatMap Zi++M.gls.flatMap cdG++M.els.flatMap cdE++M.bw.flatMap cdD
theorem Kt (M:Mo) (hM:M.fit):an aeB env 56 [.agg (M.aH.map .p)] [] (.p (.ps (Ri M).length 1 (Ri M))) []:=by
 have h1:=hM.aP
 have h2:=hM.exs
 have l1:=gG (f:=Nt) (n:=2) (fun _=>rfl) M.aP
 have l2:=gG (f:=V2) (n:=1) (fun _=>rfl) M.exs
 refine xY fun v m' e=> ?_
 refine aa aI (Ra M) ?_
 have k2:=nY (B:=10000000) (Nw M hM (.ret v m')) (Rd M _) M.exs.length 0 (M.aP.flatMap Nt) (by omega) (by simp only[adr,du];omega) e
 have k1:=nY (B:=10000000) (Nv M hM (.ret v m')) (Rc M _) M.aP.length 0 [] (by omega) (by simp only[adr,du,aep];omega) k2
 unfold Nu at k1
 rw[if_pos rfl] at k1
 exact k1
theorem Ku (M:Mo) (hM:M.fit):an aeB env 34 [.agg (M.aH.map .p)] [] (.p (.ps (W0 M).length 1 (W0 M))) []:=by
 have h1:=hM.fns
 have h2:=hM.gls
 have h3:=hM.els
 have h4:=hM.bw
 have l1:=gG (f:=Zi) (n:=1) (fun _=>rfl) M.fns
 have l2:=gG (f:=cdG) (n:=1) (fun _=>rfl) M.gls
 have l3:=gG (f:=cdE) (n:=1) (fun _=>rfl) M.els
 have l4:=gG (f:=cdD) (n:=1) (fun _=>rfl) M.bw
 refine xY fun v m' e=> ?_
 refine aa aI (Rb M) ?_
 have k4:=nY (B:=10000000) (NC M hM (.ret v m')) (Rh M _) M.bw.length 0 (M.fns.flatMap Zi++M.gls.flatMap cdG++M.els.flatMap cdE) (by omega) (by simp only[adr,du];omega) e
 have k3:=nY (B:=10000000) (NA M hM (.ret v m')) (Rg M _) M.els.length 0 (M.fns.flatMap Zi++M.gls.flatMap cdG) (by omega) (by simp only[adr,du];omega) k4
 have k2:=nY (B:=10000000) (Nz M hM (.ret v m')) (Rf M _) M.gls.length 0 (M.fns.flatMap Zi) (by omega) (by simp only[adr,du];omega) k3
 have k1:=nY (B:=10000000) (Ny M hM (.ret v m')) (Re M _) M.fns.length 0 [] (by omega) (by simp only[adr,du,aep];omega) k2
 unfold Nx at k1
 rw[if_pos rfl] at k1
 exact k1
def vcQ (M:Mo) (i:Nat) (b:Bool) (e:Int) (k:Nat) (f:FuncId) (args:List AV) (m:Mem):Option (AV×Mem):=cond (ai f 87) (some (sB b,m)) (cond (ai f 92) (some (.aD [sI .i64 e,sI .i64 0],m)) none)
theorem W1 (M:Mo) (n:Int):aE aeB env (aJ aB av [] [] []) 1000000 87 ([sI tp n,AV.mp 0 0]) ([bf.pc M.aH]) (.fin) =
(.out (.ret (.p (.sc (.bool (decide (n<(↑M.tys.length:Int)))))) [.pc M.aH])):=by kernel_rfl
theorem W2 (b:Bool) (e:Int):aE aeB env (aJ aB av [] [(92,0,0)] []) 1000000 92 ([sB b,sI tp e]) ([]) (.fin) =
(.test (b)
 (.out (.ret (.aD [sI .i64 0,sI .i64 0]) []))
 (.out (.ret (.aD [sI .i64 e,sI .i64 0]) []))):=by kernel_rfl
abbrev BM (x0:Nat) (x1:Mo):Bool:=bE (↑x0:Int) x1.aP.length&&true&&true&&(isInt tp (aA (adw bg x1.aP) (aF x0*3+2))&&true&&true)&&true
abbrev fO (x0:Int):AV:= .aD [sI .i64 x0,sI .i64 0]
theorem W3 (M:Mo) (i:Nat) (b:Bool) (e:Int):aE aeB env (aJ aB av [] [] [(91,0,0)]) 1000000 91 ([sI tp (↑i:Int),AV.mp 0 0,AV.mp 1 0]) ([bf.ac [AV.fn (aeD 87) [] [AV.mp 1 0]],bf.pc M.aH]) (.ou 91 1 (vcQ M i b e 0) .fin) =
(.call ⟨87,[sI .i64 (au (aA (adw bg M.aP) (aF i*3+2))),.mp 0 0],[.pc M.aH],.p (.sc (.bool b)),[.pc M.aH]⟩
 (.call ⟨92,[.p (.sc (.bool b)),sI .i64 6],[],(fO e),[]⟩
 (.must ((BM i M))
 (.must true
 (.out (.ret (.aD [sI .i64 e,sI .i64 0]) (gF M))))))):=by kernel_rfl
abbrev BN (x0:Nat) (x1:Mo):Bool:=bE (↑x0:Int) x1.fns.length&&true&&true&&(isInt tp (aA (adw aM x1.fns) (aF x0*3+0))&&true&&true)&&true
theorem W4 (M:Mo) (i:Nat) (b:Bool) (e:Int):aE aeB env (aJ aB av [] [] [(93,0,0)]) 1000000 93 ([sI tp (↑i:Int),AV.mp 0 0,AV.mp 1 0]) ([bf.ac [AV.fn (aeD 87) [] [AV.mp 1 0]],bf.pc M.aH]) (.ou 93 1 (vcQ M i b e 0) .fin) =
(.call ⟨87,[sI .i64 (au (aA (adw aM M.fns) (aF i*3+0))),.mp 0 0],[.pc M.aH],.p (.sc (.bool b)),[.pc M.aH]⟩
 (.call ⟨92,[.p (.sc (.bool b)),sI .i64 6],[],(fO e),[]⟩
 (.must ((BN i M))
 (.must true
 (.out (.ret (.aD [sI .i64 e,sI .i64 0]) (gF M))))))):=by kernel_rfl
theorem BO (M:Mo) (n:Int):an aeB env 87 [sI .i64 n,.mp 0 0] [.pc M.aH] (sB (decide (n<(M.tys.length:Int)))) [.pc M.aH]:=aa aI (W1 M n) (by rfl)
theorem fI (b:Bool) (e:Int):an aeB env 92 [sB b,sI .i64 e] [] (.aD [sI .i64 (if b=true then 0 else e),sI .i64 0]) []:=by
 refine aa aI (W2 b e) ?_
 cases b<;>simp only[aG.ok]
 · exact⟨nofun,fun _=>rfl⟩
 · exact⟨fun _=>rfl,nofun⟩
def xq (M:Mo) (n:Int):Int:=if decide (n<(M.tys.length:Int))=true then 0 else 6
theorem W5 (M:Mo) {i:Nat} (hi:i<M.aP.length):an aeB env 91 [sI .i64 i,.mp 0 0,.mp 1 0] (wk M) (.aD [sI .i64 (xq M M.aP[i].ty),sI .i64 0]) (wk M):=by
 have hx:M.aP[i]? = some M.aP[i]:=df hi
 have c:=aQ (z:=3) (enc:=bg) (fun _=>rfl) hx
 have c0:(M.aP.flatMap bg).getD (i*3+2) .aU = .sc (.int .i64 M.aP[i].ty):=c 2 (by decide)
 have hin:=kg (i:=i) (n:=M.aP.length) (by omega)
 refine aa aI (W3 M i (decide (M.aP[i].ty<(M.tys.length:Int))) (xq M M.aP[i].ty)) ?_
 simp only[gF,fO,BM,br,aG.ok,isInt,au,aeL,c0,hin,aeN,aeO]
 exact⟨BO M _,fI _ 6,(by first|rfl|trivial),(by first|rfl|trivial),(by first|rfl|trivial)⟩
theorem ND (M:Mo) (hN:M.aP.length≤1000000000):an aeB env 90 [sI .i64 2,sI .i64 M.aP.length,.fn (.func 91) [] [.mp 0 0,.mp 1 0]] (wk M) (lV 2 (fun i=>(M.aP[i]?).elim 0 fun x=>xq M x.ty) (fun _=>0) M.aP.length 0) (wk M):=
 Mj hN 2 _ _ fun i hi=>by
  rw[df hi]
  exact W5 M hi
theorem W6 (M:Mo) {i:Nat} (hi:i<M.fns.length):an aeB env 93 [sI .i64 i,.mp 0 0,.mp 1 0] (wk M) (.aD [sI .i64 (xq M M.fns[i].ty),sI .i64 0]) (wk M):=by
 have hx:M.fns[i]? = some M.fns[i]:=df hi
 have c:=aQ (z:=3) (enc:=aM) (fun _=>rfl) hx
 have c0:(M.fns.flatMap aM).getD (i*3+0) .aU = .sc (.int .i64 M.fns[i].ty):=c 0 (by decide)
 have hin:=kg (i:=i) (n:=M.fns.length) (by omega)
 refine aa aI (W4 M i (decide (M.fns[i].ty<(M.tys.length:Int))) (xq M M.fns[i].ty)) ?_
 simp only[gF,fO,BN,br,aG.ok,isInt,au,aeL,c0,hin,aeN,aeO]
 exact⟨BO M _,fI _ 6,(by first|rfl|trivial),(by first|rfl|trivial),(by first|rfl|trivial)⟩
theorem NF (M:Mo) (hN:M.fns.length≤1000000000):an aeB env 90 [sI .i64 3,sI .i64 M.fns.length,.fn (.func 93) [] [.mp 0 0,.mp 1 0]] (wk M) (lV 3 (fun i=>(M.fns[i]?).elim 0 fun x=>xq M x.ty) (fun _=>0) M.fns.length 0) (wk M):=
 Mj hN 3 _ _ fun i hi=>by
  rw[df hi]
  exact W6 M hi
def NG:ct:=⟨182,[.p (.sc (.string ⟨#[101,113,122,32,101,113,32,110,101,32,108,116,95,115,32,108,116,95,117,32,103,116,95,115,32,103,116,95,117,32,108,101,95,115,32,108,101,95,117,32,103,101,95,115,32,103,101,95,117]⟩))],[],.p (.ps 11 1 [.sc (.string ⟨#[101,113,122]⟩),.sc (.string ⟨#[101,113]⟩),.sc (.string ⟨#[110,101]⟩),.sc (.string ⟨#[108,116,95,115]⟩),.sc (.string ⟨#[108,116,95,117]⟩),.sc (.string ⟨#[103,116,95,115]⟩),.sc (.string ⟨#[103,116,95,117]⟩),.sc (.string ⟨#[108,101,95,115]⟩),.sc (.string ⟨#[108,101,95,117]⟩),.sc (.string ⟨#[103,101,95,115]⟩),.sc (.string ⟨#[103,101,95,117]⟩)]),[]⟩
theorem afJ:an aeB env NG.g NG.args NG.m NG.v NG.m':=cj aI (K:=[]) fZ (n:=10000000) (by kernel_rfl)
def aaI:List ct:=NG::[]
theorem Rj:eS aeB env aaI:=dH afJ fZ
def NH:ct:=⟨182,[.p (.sc (.string ⟨#[99,108,122,32,99,116,122,32,112,111,112,99,110,116,32,97,100,100,32,115,117,98,32,109,117,108,32,100,105,118,95,115,32,100,105,118,95,117,32,114,101,109,95,115,32,114,101,109,95,117,32,97,110,100,32,111,114,32,120,111,114,32,115,104,108,32,115,104,114,95,115,32,115,104,114,95,117,32,114,111,116,108,32,114,111,116,114]⟩))],[],.p (.ps 18 1 [.sc (.string ⟨#[99,108,122]⟩),.sc (.string ⟨#[99,116,122]⟩),.sc (.string ⟨#[112,111,112,99,110,116]⟩),.sc (.string ⟨#[97,100,100]⟩),.sc (.string ⟨#[115,117,98]⟩),.sc (.string ⟨#[109,117,108]⟩),.sc (.string ⟨#[100,105,118,95,115]⟩),.sc (.string ⟨#[100,105,118,95,117]⟩),.sc (.string ⟨#[114,101,109,95,115]⟩),.sc (.string ⟨#[114,101,109,95,117]⟩),.sc (.string ⟨#[97,110,100]⟩),.sc (.string ⟨#[111,114]⟩),.sc (.string ⟨#[120,111,114]⟩),.sc (.string ⟨#[115,104,108]⟩),.sc (.string ⟨#[115,104,114,95,115]⟩),.sc (.string ⟨#[115,104,114,95,117]⟩),.sc (.string ⟨#[114,111,116,108]⟩),.sc (.string ⟨#[114,111,116,114]⟩)]),[]⟩
theorem afK:an aeB env NH.g NH.args NH.m NH.v NH.m':=cj aI (K:=aaI) Rj (n:=10000000) (by kernel_rfl)
def ady:List ct:=NH::aaI
theorem aaJ:eS aeB env ady:=dH afK Rj
def Rk:List ByteArray:=[⟨#[117,110,114,101,97,99,104,97,98,108,101]⟩,⟨#[110,111,112]⟩,⟨#[98,108,111,99,107]⟩,⟨#[108,111,111,112]⟩,⟨#[105,102]⟩,⟨#[]⟩,⟨#[]⟩,⟨#[]⟩,⟨#[]⟩,⟨#[]⟩,⟨#[]⟩,⟨#[]⟩,⟨#[98,114]⟩,⟨#[98,114,95,105,102]⟩,⟨#[98,114,95,116,97,98,108,101]⟩,⟨#[114,101,116,117,114,110]⟩,⟨#[99,97,108,108]⟩,⟨#[99,97,108,108,95,105,110,100,105,114,101,99,116]⟩,⟨#[]⟩,⟨#[]⟩,⟨#[]⟩,⟨#[]⟩,⟨#[]⟩,⟨#[]⟩,⟨#[]⟩,⟨#[]⟩,⟨#[100,114,111,112]⟩,⟨#[115,101,108,101,99,116]⟩,⟨#[]⟩,⟨#[]⟩,⟨#[]⟩,⟨#[]⟩,⟨#[108,111,99,97,108,46,103,101,116]⟩,⟨#[108,111,99,97,108,46,115,101,116]⟩,⟨#[108,111,99,97,108,46,116,101,101]⟩,⟨#[103,108,111,98,97,108,46,103,101,116]⟩,⟨#[103,108,111,98,97,108,46,115,101,116]⟩,⟨#[]⟩,⟨#[]⟩,⟨#[]⟩,⟨#[105,51,50,46,108,111,97,100]⟩,⟨#[]⟩,⟨#[]⟩,⟨#[]⟩,⟨#[105,51,50,46,108,111,97,100,56,95,115]⟩,⟨#[105,51,50,46,108,111,97,100,56,95,117]⟩,⟨#[105,51,50,46,108,111,97,100,49,54,95,115]⟩,⟨#[105,51,50,46,108,111,97,100,49,54,95,117]⟩,⟨#[]⟩,⟨#[]⟩,⟨#[]⟩,⟨#[]⟩,⟨#[]⟩,⟨#[]⟩,⟨#[105,51,50,46,115,116,111,114,101]⟩,⟨#[]⟩,⟨#[]⟩,⟨#[]⟩,⟨#[105,51,50,46,115,116,111,114,101,56]⟩,⟨#[105,51,50,46,115,116,111,114,101,49,54]⟩,⟨#[]⟩,⟨#[]⟩,⟨#[]⟩,⟨#[109,101,109,111,114,121,46,115,105,122,101]⟩,⟨#[109,101,109,111,114,121,46,103,114,111,119]⟩,⟨#[105,51,50,46,99,111,110,115,116]⟩,⟨#[]⟩,⟨#[]⟩,⟨#[]⟩,⟨#[105,51,50,46,101,113,122]⟩,⟨#[105,51,50,46,101,113]⟩,⟨#[105,51,50,46,110,101]⟩,⟨#[105,51,50,46,108,116,95,115]⟩,⟨#[105,51,50,46,108,116,95,117]⟩,⟨#[105,51,50,46,103,116,95,115]⟩,⟨#[105,51,50,46,103,116,95,117]⟩,⟨#[105,51,50,46,108,101,95,115]⟩,⟨#[105,51,50,46,108,101,95,117]⟩,⟨#[105,51,50,46,103,101,95,115]⟩,⟨#[105,51,50,46,103,101,95,117]⟩,⟨#[]⟩,⟨#[]⟩,⟨#[]⟩,⟨#[]⟩,⟨#[]⟩,⟨#[]⟩,⟨#[]⟩,⟨#[]⟩,⟨#[]⟩,⟨#[]⟩,⟨#[]⟩,⟨#[]⟩,⟨#[]⟩,⟨#[]⟩,⟨#[]⟩,⟨#[]⟩,⟨#[]⟩,⟨#[]⟩,⟨#[]⟩,⟨#[]⟩,⟨#[]⟩,⟨#[]⟩,⟨#[]⟩,⟨#[105,51,50,46,99,108,122]⟩,⟨#[105,51,50,46,99,116,122]⟩,⟨#[105,51,50,46,112,111,112,99,110,116]⟩,⟨#[105,51,50,46,97,100,100]⟩,⟨#[105,51,50,46,115,117,98]⟩,⟨#[105,51,50,46,109,117,108]⟩,⟨#[105,51,50,46,100,105,118,95,115]⟩,⟨#[105,51,50,46,100,105,118,95,117]⟩,⟨#[105,51,50,46,114,101,109,95,115]⟩,⟨#[105,51,50,46,114,101,109,95,117]⟩,⟨#[105,51,50,46,97,110,100]⟩,⟨#[105,51,50,46,111,114]⟩,⟨#[105,51,50,46,120,111,114]⟩,⟨#[105,51,50,46,115,104,108]⟩,⟨#[105,51,50,46,115,104,114,95,115]⟩,⟨#[105,51,50,46,115,104,114,95,117]⟩,⟨#[105,51,50,46,114,111,116,108]⟩,⟨#[105,51,50,46,114,111,116,114]⟩,⟨#[]⟩,⟨#[]⟩,⟨#[]⟩,⟨#[]⟩,⟨#[]⟩,⟨#[]⟩,⟨#[]⟩,⟨#[]⟩,⟨#[]⟩,⟨#[]⟩,⟨#[]⟩,⟨#[]⟩,⟨#[]⟩,⟨#[]⟩,⟨#[]⟩,⟨#[]⟩,⟨#[]⟩,⟨#[]⟩,⟨#[]⟩,⟨#[]⟩,⟨#[]⟩,⟨#[]⟩,⟨#[]⟩,⟨#[]⟩,⟨#[]⟩,⟨#[]⟩,⟨#[]⟩,⟨#[]⟩,⟨#[]⟩,⟨#[]⟩,⟨#[]⟩,⟨#[]⟩,⟨#[]⟩,⟨#[]⟩,⟨#[]⟩,⟨#[]⟩,⟨#[]⟩,⟨#[]⟩,⟨#[]⟩,⟨#[]⟩,⟨#[]⟩,⟨#[]⟩,⟨#[]⟩,⟨#[]⟩,⟨#[]⟩,⟨#[]⟩,⟨#[]⟩,⟨#[]⟩,⟨#[]⟩,⟨#[]⟩,⟨#[]⟩,⟨#[]⟩,⟨#[]⟩,⟨#[]⟩,⟨#[]⟩,⟨#[]⟩,⟨#[]⟩,⟨#[]⟩,⟨#[]⟩,⟨#[]⟩,⟨#[]⟩,⟨#[]⟩,⟨#[]⟩,⟨#[]⟩,⟨#[]⟩,⟨#[]⟩,⟨#[]⟩,⟨#[]⟩,⟨#[]⟩,⟨#[]⟩,⟨#[]⟩,⟨#[]⟩,⟨#[]⟩,⟨#[]⟩,⟨#[]⟩,⟨#[]⟩,⟨#[]⟩,⟨#[]⟩,⟨#[]⟩,⟨#[]⟩,⟨#[]⟩,⟨#[]⟩,⟨#[]⟩,⟨#[]⟩,⟨#[]⟩,⟨#[]⟩,⟨#[]⟩,⟨#[]⟩,⟨#[]⟩,⟨#[]⟩,⟨#[]⟩,⟨#[]⟩,⟨#[]⟩,⟨#[]⟩,⟨#[]⟩,⟨#[]⟩,⟨#[]⟩,⟨#[]⟩,⟨#[]⟩,⟨#[]⟩,⟨#[]⟩,⟨#[]⟩,⟨#[]⟩,⟨#[]⟩,⟨#[]⟩,⟨#[]⟩,⟨#[]⟩,⟨#[]⟩,⟨#[]⟩,⟨#[]⟩,⟨#[]⟩,⟨#[]⟩,⟨#[]⟩,⟨#[]⟩,⟨#[]⟩,⟨#[]⟩,⟨#[]⟩,⟨#[]⟩,⟨#[]⟩,⟨#[]⟩,⟨#[]⟩,⟨#[]⟩,⟨#[]⟩,⟨#[]⟩,⟨#[]⟩,⟨#[]⟩,⟨#[]⟩,⟨#[]⟩,⟨#[]⟩,⟨#[]⟩,⟨#[]⟩,⟨#[]⟩,⟨#[]⟩,⟨#[]⟩,⟨#[]⟩]
theorem aaK:an aeB env 170 [] [] (.agg (Rk.map fun s=> .p (.sc (.string s)))) []:=cj aI (K:=ady) aaJ (n:=10000000) (by kernel_rfl)
def afL (f:FuncId) (_:List AV) (_:Mem):Option (AV×Mem):=cond (ai f 170) (some (.agg (Rk.map fun s=> .p (.sc (.string s))),[])) none
def afM (op:Int):FuncId→Nat→Nat→Option (AV→AV):=cJ [(149,4,2,.p (.sc (.string (Rk.getD op.toNat ⟨#[]⟩))))]
def afN (_op:Int) (n:Int) (st:Bool) (f:FuncId) (_:List AV) (_:Mem):Option (AV×Mem):=cond (ai f 162) (some (.aD [sI .u32 n,sB st],[])) none
def afO (_op _r _a _b _nn:Int) (_tg:List Int) (_ll _le:List Ins) (s:ByteArray) (u1 u2 u3 u4 u5 u6:Bool) (f:FuncId) (_:List AV) (_:Mem):Option (AV×Mem):=cond (ai f 149) (some (.p (.sc (.string s)),[])) (cond (ai f 148) (some (.agg [sB u1,sB u2,sB u3,sB u4,sB u5,sB u6],[])) none)
theorem Rl (op:Int):aE aeB env (fc afL av [] [(149,2,3),(149,0,0)] [(149,4,2)] (afM op)) 1000000 149 ([sI tp op]) ([]) (jv 3 9).1 =
(.test (decide (op<0))
 (.out (.ret (.p (.sc (.string (aeV #[])))) []))
 (.test (decide (op≥256))
 (.out (.ret (.p (.sc (.string (aeV #[])))) []))
 (.call ⟨170,[],[],.agg (Rk.map fun s=> .p (.sc (.string s))),[]⟩
 (.must (bE op 256&&(op.toNat*1).blt 256&&true)
 (.need ((Rk.map fun s=>AV.p (PV.sc (.string s))).getD (op.toNat*1) AV.az=AV.p (PV.sc (aeH (Rk.getD op.toNat (aeV #[])))))
 (.out (.ret (.p (.sc (.string (Rk.getD op.toNat (aeV #[]))))) []))))))):=by kernel_rfl
theorem Rm (op:Int):aE aeB env (aJ aB av [] (fm 162 [(0,0),(0,1),(0,2),(0,4),(0,3),(0,5),(0,7),(0,6)]) []) 1000000 162 ([sI tp op]) ([]) (jv 9 2153521138014).1 =
(.test (op==40)
 (.must (op==40)
 (.out (.ret (.aD [sI .u32 2,sB true]) [])))
 (.test (op==54)
 (.out (.ret (.aD [sI .u32 2,sB true]) []))
 (.test (op==46)
 (.must (op==46)
 (.out (.ret (.aD [sI .u32 1,sB true]) [])))
 (.test (op==47)
 (.must (op==47)
 (.out (.ret (.aD [sI .u32 1,sB true]) [])))
 (.test (op==59)
 (.out (.ret (.aD [sI .u32 1,sB true]) []))
 (.test (op==44)
 (.must (op==44)
 (.out (.ret (.aD [sI .u32 0,sB true]) [])))
 (.test (op==45)
 (.must (op==45)
 (.out (.ret (.aD [sI .u32 0,sB true]) [])))
 (.test (op==58)
 (.out (.ret (.aD [sI .u32 0,sB true]) []))
 (.out (.ret (.aD [sI .u32 0,sB false]) [])))))))))):=by kernel_rfl
theorem Rn (op:Int):aE aeB env (aJ aB av [] (fm 167 [(0,0),(0,1),(0,2),(0,4),(0,3),(0,5),(0,7),(0,6)]) []) 1000000 167 ([sI tp op]) ([]) (jv 9 2153521138014).1 =
(.test (op==40)
 (.must (op==40)
 (.out (.ret (.aD [sI .u32 2,sB true]) [])))
 (.test (op==54)
 (.out (.ret (.aD [sI .u32 2,sB true]) []))
 (.test (op==46)
 (.must (op==46)
 (.out (.ret (.aD [sI .u32 1,sB true]) [])))
 (.test (op==47)
 (.must (op==47)
 (.out (.ret (.aD [sI .u32 1,sB true]) [])))
 (.test (op==59)
 (.out (.ret (.aD [sI .u32 1,sB true]) []))
 (.test (op==44)
 (.must (op==44)
 (.out (.ret (.aD [sI .u32 0,sB true]) [])))
 (.test (op==45)
 (.must (op==45)
 (.out (.ret (.aD [sI .u32 0,sB true]) [])))
 (.test (op==58)
 (.out (.ret (.aD [sI .u32 0,sB true]) []))
 (.out (.ret (.aD [sI .u32 0,sB false]) [])))))))))):=by kernel_rfl
theorem Ro (op:Int):aE aeB env (aJ aB av [] [(180,2,3),(180,2,7)] []) 1000000 180 ([sI tp op]) ([]) (jv 3 9).1 =
(.test (op==2)
 iT
 (.test (op==3)
 iT
 (.out (.ret (.p (.sc (.bool (op==4)))) [])))):=by kernel_rfl
theorem Rp (op:Int):aE aeB env (aJ aB av [] (fm 181 [(2,3),(2,7),(2,11),(2,15),(2,18)]) []) 1000000 181 ([sI tp op]) ([]) (jv 5 17684534).1 =
(.test (op==12)
 iT
 (.test (op==13)
 iT
 (.test (op==16)
 iT
 (.test (op==17)
 iT
 (.test (decide (op≥32))
 (.out (.ret (.p (.sc (.bool (decide (op≤36))))) []))
 (.out (.ret (sB false) []))))))):=by kernel_rfl
abbrev ff (x0:Int) (x1:Bool):AV:= .aD [sI .u32 x0,.p (.sc (.bool x1))]
def aaL (op n:Int) (st:Bool):oP:=aJ (afN op n st) av [] (fm 148 [(0,0),(0,1),(0,2),(0,3),(0,4),(0,12),(0,5),(0,6),(0,7),(0,8),(0,9),(0,10),(0,11),(0,13),(0,14)]) []
def adz:Sc:=(jv 14 13143665367557156575354).1
def gL:aG:=
 (.out (.ret (.agg [sB false,sB false,sB true,sB false,sB false,sB false]) []))
def Mn (op n:Int) (st:Bool):aG:=
 (.call ⟨162,[sI .i64 op],[],(ff n st),[]⟩
 (.test (st)
 (.out (.ret (.agg [sB false,sB false,sB true,sB true,sB false,sB false]) []))
 (.test (op==2)
 (.must (op==2)
 (.out (.ret (.agg [sB true,sB false,sB false,sB false,sB false,sB false]) [])))
 (.test (op==3)
 (.out (.ret (.agg [sB true,sB false,sB false,sB false,sB false,sB false]) []))
 (.test (op==4)
 (.out (.ret (.agg [sB true,sB true,sB false,sB false,sB false,sB false]) []))
 (.test (op==12)
 (.must (op==12)
 (gL))
 (.test (op==13)
 (.must (op==13)
 (gL))
 (.test (op==16)
 (.must (op==16)
 (gL))
 (.test (op==17)
 (.must (op==17)
 (gL))
 (.test (op==32)
 (.must (op==32)
 (gL))
 (.test (op==33)
 (.must (op==33)
 (gL))
 (.test (op==34)
 (.must (op==34)
 (gL))
 (.test (op==35)
 (.must (op==35)
 (gL))
 (.test (op==36)
 (gL)
 (.test (op==14)
 (.out (.ret (.agg [sB false,sB false,sB true,sB false,sB false,sB true]) []))
 (.test (op==65)
 (.out (.ret (.agg [sB false,sB false,sB false,sB false,sB true,sB false]) []))
 (.out (.ret (.agg [sB false,sB false,sB false,sB false,sB false,sB false]) []))))))))))))))))))
theorem Rq (op n:Int) (st:Bool):aE aeB env (aaL op n st) 1000000 148 ([sI tp op]) ([]) adz=Mn op n st:=by kernel_rfl
def aaM (op r a b nn:Int) (tg:List Int) (ll:List Ins) (le:List Ins) (s:ByteArray) (u1:Bool) (u2:Bool) (u3:Bool) (u4:Bool) (u5:Bool) (u6:Bool):oP:=aJ (afO op r a b nn tg ll le s u1 u2 u3 u4 u5 u6) av [] (fm 125 [(0,0),(0,3),(4,4),(0,1),(5,4),(5,8),(0,2),(6,4),(8,3),(8,11),(8,20),(8,29),(8,26),(8,17),(8,8)]) []
def adA:Sc:=(jv 15 105809023605815355613799814249757155624820416693339041095728692097230850247824508901112529449078035147582389).1
def xZ (b nn:Int) (tg:List Int) (u4:Bool) (u5:Bool) (u6:Bool):aG:=
 (.test (u4) (.test (u5) (.test (u6) iT (.out (.ret (.p (.sc (.bool ((↑tg.length:Int)==0)))) []))) (.test (nn==0) (.test (u6) iT (.out (.ret (.p (.sc (.bool ((↑tg.length:Int)==0)))) []))) (.out (.ret (sB false) [])))) (.test (b==0) (.test (u5) (.test (u6) iT (.out (.ret (.p (.sc (.bool ((↑tg.length:Int)==0)))) []))) (.test (nn==0) (.test (u6) iT (.out (.ret (.p (.sc (.bool ((↑tg.length:Int)==0)))) []))) (.out (.ret (sB false) [])))) (.out (.ret (sB false) []))))
def iA:aG:=
 (.out (.ret (sB false) []))
def oV (a b nn:Int) (tg:List Int) (u3:Bool) (u4:Bool) (u5:Bool) (u6:Bool):aG:=
 (.test (u3) (xZ b nn tg u4 u5 u6) (.test (a==0) (xZ b nn tg u4 u5 u6) (iA)))
def Mp (op r a b nn:Int) (tg:List Int) (ll:List Ins) (le:List Ins) (s:ByteArray) (u1:Bool) (u2:Bool) (u3:Bool) (u4:Bool) (u5:Bool) (u6:Bool):aG:=
 (.call ⟨148,[sI .i64 op],[],.agg [.p (.sc (.bool u1)),.p (.sc (.bool u2)),.p (.sc (.bool u3)),.p (.sc (.bool u4)),.p (.sc (.bool u5)),.p (.sc (.bool u6))],[]⟩
 (.call ⟨149,[sI .i64 op],[],.p (.sc (.string s)),[]⟩
 (.test (s.data.toList==(aeV #[]).data.toList)
 (.must (s.data.toList==(aeV #[]).data.toList)
 (iA))
 (.test (decide (r<0))
 (iA)
 (.test (decide (r>1))
 (.must (decide (r>1))
 (iA))
 (.test (!u1)
 (.test (r != 0)
 (iA)
 (.test ((j4 ll))
 (.must ((j4 ll))
 (iA))
 (.test (!u2)
 (.test ((j4 le))
 (iA)
 (oV a b nn tg u3 u4 u5 u6))
 (oV a b nn tg u3 u4 u5 u6))))
 (.test (!u2)
 (.test ((j4 le))
 (iA)
 (oV a b nn tg u3 u4 u5 u6))
 (oV a b nn tg u3 u4 u5 u6))))))))
theorem Rr (op r a b nn:Int) (tg:List Int) (ll:List Ins) (le:List Ins) (s:ByteArray) (u1:Bool) (u2:Bool) (u3:Bool) (u4:Bool) (u5:Bool) (u6:Bool):aE aeB env (aaM op r a b nn tg ll le s u1 u2 u3 u4 u5 u6) 1000000 125 ([cr op r a b nn tg ll le]) ([]) adA=Mp op r a b nn tg ll le s u1 u2 u3 u4 u5 u6:=by kernel_rfl
def nm (op:Int):ByteArray:=if op<0∨256≤op then⟨#[]⟩ else Rk.getD op.toNat ⟨#[]⟩
theorem NI (op:Int):an aeB env 149 [sI .i64 op] [] (.p (.sc (.string (nm op)))) []:=by
 refine aa aI (Rl op) ?_
 simp only[aG.ok,decide_eq_true_eq,decide_eq_false_iff_not]
 have hlen:(Rk.map fun s=>(AV.p (PV.sc (.string s)))).length=256:=by kernel_rfl
 refine⟨fun h=> ?_,fun h=>⟨fun h2=> ?_,fun h2=>⟨aaK,?_,?_,?_⟩⟩⟩
 · rw[nm,if_pos (.inl h)]
 · rw[nm,if_pos (.inr h2)]
 · simp[bE];omega
 · have hl:op.toNat<(Rk.map fun s=>(AV.p (PV.sc (.string s)))).length:=by rw[hlen];omega
   rw[aez,de,df hl,km,List.getElem_map,de,df (by simpa using hl),km]
 · rw[nm,if_neg (by omega)]
def tK (op:Int):Bool:=decide (op=40∨op=44∨op=45∨op=46∨op=47∨op=54∨op=58∨op=59)
def BP (op:Int):Int:=if op=40∨op=54 then 2 else if op=46∨op=47∨op=59 then 1 else 0
def Kv (op:Int):Bool:=decide (op=2∨op=3∨op=4)
def Kw (op:Int):Bool:=decide (op=12∨op=13∨op=16∨op=17∨(32≤op∧op≤36))
theorem uP (op:Int):an aeB env 162 [sI .i64 op] [] (.aD [sI .u32 (BP op),sB (tK op)]) []:=by
 refine aa aI (Rm op) ?_
 simp only[aG.ok,beq_iff_eq,beq_eq_false_iff_ne]
 repeat' first | apply aeX | (intro h)
 all_goals first | assumption | (simp only[BP,tK];simp_all;done)
theorem HJ (op:Int):an aeB env 167 [sI .i64 op] [] (.aD [sI .u32 (BP op),sB (tK op)]) []:=by
 refine aa aI (Rn op) ?_
 simp only[aG.ok,beq_iff_eq,beq_eq_false_iff_ne]
 repeat' first | apply aeX | (intro h)
 all_goals first | assumption | (simp only[BP,tK];simp_all;done)
theorem Kx (op:Int):an aeB env 180 [sI .i64 op] [] (sB (Kv op)) []:=by
 refine aa aI (Ro op) ?_
 simp only[br,aG.ok,beq_iff_eq,beq_eq_false_iff_ne]
 repeat' first | apply aeX | (intro h)
 all_goals (simp only[Kv];congr 4;rw[aeM];simp only[beq_iff_eq,decide_eq_true_eq,true_iff];omega)
theorem Ky (op:Int):an aeB env 181 [sI .i64 op] [] (sB (Kw op)) []:=by
 refine aa aI (Rp op) ?_
 simp only[br,aG.ok,beq_iff_eq,beq_eq_false_iff_ne,decide_eq_true_eq,decide_eq_false_iff_not]
 repeat' first | apply aeX | (intro h)
 all_goals (simp only[Kw];congr 4;simp only[true_eq_decide_iff,false_eq_decide_iff,decide_eq_decide];omega)
def adB (op:Int):AV:= .agg [sB (Kv op),sB (decide (op=4)),sB (tK op||Kw op||decide (op=14)),sB (tK op),sB (decide (op=65)),sB (decide (op=14))]
theorem aaN {op:Int} {x1 x2 x3 x4 x5 x6:Bool} (h1:x1=true↔Kv op=true) (h2:x2=true↔op=4) (h3:x3=true↔tK op=true∨Kw op=true∨op=14) (h4:x4=true↔tK op=true) (h5:x5=true↔op=65) (h6:x6=true↔op=14) :
  Out.ret (.agg [.p (.sc (.bool x1)),.p (.sc (.bool x2)),.p (.sc (.bool x3)),.p (.sc (.bool x4)),.p (.sc (.bool x5)),.p (.sc (.bool x6))]) []=Out.ret (adB op) []:=by
 obtain rfl:x1=Kv op:=aeM.2 h1
 obtain rfl:x2=decide (op=4):=aeM.2 (by rw[h2,decide_eq_true_eq])
 obtain rfl:x3=(tK op||Kw op||decide (op=14)):=aeM.2 (by rw[h3,j1,j1,decide_eq_true_eq,or_assoc])
 obtain rfl:x4=tK op:=aeM.2 h4
 obtain rfl:x5=decide (op=65):=aeM.2 (by rw[h5,decide_eq_true_eq])
 obtain rfl:x6=decide (op=14):=aeM.2 (by rw[h6,decide_eq_true_eq])
 rfl
theorem HK {op:Int}:tK op=true↔(op=40∨op=44∨op=45∨op=46∨op=47∨op=54∨op=58∨op=59):=decide_eq_true_iff
theorem Rs {op:Int}:Kv op=true↔(op=2∨op=3∨op=4):=decide_eq_true_iff
theorem Rt {op:Int}:Kw op=true↔(op=12∨op=13∨op=16∨op=17∨(32≤op∧op≤36)):=decide_eq_true_iff
set_option maxHeartbeats 2000000 in
theorem NJ (op:Int):an aeB env 148 [sI .i64 op] [] (adB op) []:=by
 refine aa aI (Rq op (BP op) (tK op)) ?_
 simp only[Mn,ff,gL,aG.ok,beq_iff_eq,beq_eq_false_iff_ne]
 refine⟨uP op,?_⟩
 rw[←Bool.not_eq_true,HK]
 repeat' first | apply aeX | (intro h)
 all_goals first | assumption | (refine aaN ?_ ?_ ?_ ?_ ?_ ?_<;>simp only[HK,Rs,Rt,true_iff,pD,false_iff]<;>omega)
def ya (e0 u1 u2 u3 u4 u5 u6 e1 e2 e3 e4 e5 e6 e7 e8 e9:Bool):Bool:= !e0&&(!e1&&(!e2&&((u1 || !(e3||e4))&&((u2 || !e5)&&((u3||e6)&&((u4||e7)&&((u5||e8)&&(u6||e9))))))))
set_option maxHeartbeats 4000000 in
theorem aaO (op r a b nn:Int) (tg:List Int) (ll le:List Ins) (s:ByteArray) (u1 u2 u3 u4 u5 u6:Bool) (h1:an aeB env 148 [sI .i64 op] [] (.agg [sB u1,sB u2,sB u3,sB u4,sB u5,sB u6]) []) (h2:an aeB env 149 [sI .i64 op] [] (.p (.sc (.string s))) []) :
  an aeB env 125 [cr op r a b nn tg ll le] [] (sB (ya (s.data.toList==(aeV #[]).data.toList) u1 u2 u3 u4 u5 u6 (decide (r<0)) (decide (r>1)) (r != 0) (decide ((ll.length:Int)>0)) (decide ((le.length:Int)>0)) (a==0) (b==0) (nn==0) ((tg.length:Int)==0))) []:=by
 refine aa aI (Rr op r a b nn tg ll le s u1 u2 u3 u4 u5 u6) ?_
 simp only[Mp,j4,xZ,iA,oV,br,aG.ok]
 refine⟨h1,h2,?_⟩
 generalize (s.data.toList==(aeV #[]).data.toList)=e0
 generalize decide (r<0)=e1
 generalize decide (r>1)=e2
 generalize (r != 0)=e3
 generalize decide ((ll.length:Int)>0)=e4
 generalize decide ((le.length:Int)>0)=e5
 generalize (a==0)=e6
 generalize (b==0)=e7
 generalize (nn==0)=e8
 generalize ((tg.length:Int)==0)=e9
 cases e0
 case true=>simp[ya]
 cases e1
 case true=>simp[ya]
 cases e2
 case true=>simp[ya]
 cases u1<;>cases e3<;>cases e4<;>(try (simp[ya];done))<;>cases u2<;>cases e5<;>(try (simp[ya];done))<;>cases u3<;>cases e6<;>(try (simp[ya];done))<;>cases u4<;>cases e7<;>(try (simp[ya];done))<;>cases u5<;>cases e8<;>(try (simp[ya];done))<;>cases u6<;>simp[ya]
def afP (_op _r _a _b _nn:Int) (_tg:List Int) (_ll _le:List Ins) (s:ByteArray) (n:Int) (st li wh:Bool) (f:FuncId) (_:List AV) (_:Mem):Option (AV×Mem):=cond (ai f 179) (some (.p (.sc (.string s)),[])) (cond (ai f 167) (some (.aD [sI .u32 n,sB st],[])) (cond (ai f 180) (some (sB li,[])) (cond (ai f 181) (some (sB wh,[])) none)))
def aaP (op r a b nn:Int) (tg:List Int) (ll:List Ins) (le:List Ins) (s:ByteArray) (n:Int) (st:Bool) (li:Bool) (wh:Bool):oP:=aJ (afP op r a b nn tg ll le s n st li wh) av [] (fm 169 [(3,5),(3,10),(3,15),(3,19),(3,26),(3,31),(3,38),(3,43),(0,0),(5,5),(5,10),(5,14),(5,20),(5,24),(0,1),(7,4),(7,7),(7,12)]) []
def adC:Sc:=(jv 19 48662886779148666047315612596772979854789446001822310499991819176832723967479616079727057790111577012600713249424081452214264530507266024734400810366068019506682145698481903830741879130606012277941347457040528784085129718425478085950576385911966184989947291585737723702643033147699994352856081991462565887638286194066409).1
def oW (op a b nn:Int) (tg:List Int) (le:List Ins) (st:Bool) (wh:Bool):aG:=
 (.test ((j4 le)) (.test (op != 4) (.out (.ret (sB false) [])) (.test (decide ((↑tg.length:Int)>0)) (.must (op != 14) (.out (.ret (sB false) []))) (.test (nn != 0) (.must (op != 65) (.out (.ret (sB false) []))) (.test (b != 0) (.test (!st) (.out (.ret (sB false) [])) (.test (a==0) iT (.must (st) iT))) (.test (a==0) iT (.test (st) iT (.call ⟨181,[sI .i64 op],[],.p (.sc (.bool wh)),[]⟩ (.test (wh) iT (.out (.ret (.p (.sc (.bool (op==14)))) [])))))))))) (.test (decide ((↑tg.length:Int)>0)) (.test (op != 14) (.out (.ret (sB false) [])) (.test (nn != 0) (.must (op != 65) (.out (.ret (sB false) []))) (.test (b != 0) (.test (!st) (.out (.ret (sB false) [])) (.test (a==0) iT (.must (st) iT))) (.test (a==0) iT (.test (st) iT (.call ⟨181,[sI .i64 op],[],.p (.sc (.bool wh)),[]⟩ (.test (wh) iT (.out (.ret (.p (.sc (.bool (op==14)))) []))))))))) (.test (nn != 0) (.test (op != 65) (.out (.ret (sB false) [])) (.test (b != 0) (.test (!st) (.out (.ret (sB false) [])) (.test (a==0) iT (.must (st) iT))) (.test (a==0) iT (.test (st) iT (.call ⟨181,[sI .i64 op],[],.p (.sc (.bool wh)),[]⟩ (.test (wh) iT (.out (.ret (.p (.sc (.bool (op==14)))) [])))))))) (.test (b != 0) (.test (!st) (.out (.ret (sB false) [])) (.test (a==0) iT (.must (st) iT))) (.test (a==0) iT (.test (st) iT (.call ⟨181,[sI .i64 op],[],.p (.sc (.bool wh)),[]⟩ (.test (wh) iT (.out (.ret (.p (.sc (.bool (op==14)))) []))))))))))
def Mq (op r a b nn:Int) (tg:List Int) (ll:List Ins) (le:List Ins) (s:ByteArray) (n:Int) (st:Bool) (li:Bool) (wh:Bool):aG:=
 (.call ⟨167,[sI .i64 op],[],(ff n st),[]⟩
 (.call ⟨179,[sI .i64 op],[],.p (.sc (.string s)),[]⟩
 (.test (s.data.toList==(aeV #[]).data.toList)
 (.out (.ret (sB false) []))
 (.test (decide (r<0))
 (.out (.ret (sB false) []))
 (.test (decide (r>1))
 (.out (.ret (sB false) []))
 (.test (decide (r>0))
 (.call ⟨180,[sI .i64 op],[],.p (.sc (.bool li)),[]⟩
 (.test (!li)
 (.out (.ret (sB false) []))
 (.test ((j4 ll))
 (.call ⟨180,[sI .i64 op],[],.p (.sc (.bool li)),[]⟩
 (.must (!(!li))
 (oW op a b nn tg le st wh)))
 (oW op a b nn tg le st wh))))
 (.test ((j4 ll))
 (.call ⟨180,[sI .i64 op],[],.p (.sc (.bool li)),[]⟩
 (.test (!li)
 (.out (.ret (sB false) []))
 (oW op a b nn tg le st wh)))
 (oW op a b nn tg le st wh))))))))
theorem Ru (op r a b nn:Int) (tg:List Int) (ll:List Ins) (le:List Ins) (s:ByteArray) (n:Int) (st:Bool) (li:Bool) (wh:Bool):aE aeB env (aaP op r a b nn tg ll le s n st li wh) 1000000 169 ([cr op r a b nn tg ll le]) ([]) adC=Mq op r a b nn tg ll le s n st li wh:=by kernel_rfl
def kP (e0 e1 e2 e3 e4 e5 li n4 e6 V3 e8 Zj e7 st a0 wh:Bool):Bool:=
 !e0&&(!e1&&(!e2&&(!(e3 && !li)&&(!(e4 && !li)&&(!(e5&&n4)&&(!(e6&&V3)&&(!(e8&&Zj)&&(!(e7 && !st)&&(a0||(st||(wh || !V3)))))))))))
set_option maxHeartbeats 8000000 in
theorem aaQ (op r a b nn:Int) (tg:List Int) (ll le:List Ins) (s:ByteArray) (n:Int) (st li wh:Bool) (h1:an aeB env 167 [sI .i64 op] [] (.aD [sI .u32 n,sB st]) []) (h2:an aeB env 179 [sI .i64 op] [] (.p (.sc (.string s))) [])
  (h3:an aeB env 180 [sI .i64 op] [] (sB li) []) (h4:an aeB env 181 [sI .i64 op] [] (sB wh) []) :
  an aeB env 169 [cr op r a b nn tg ll le] [] (sB (kP (s.data.toList==(aeV #[]).data.toList) (decide (r<0)) (decide (r>1)) (decide (r>0)) (decide ((ll.length:Int)>0)) (decide ((le.length:Int)>0)) li (op != 4) (decide ((tg.length:Int)>0)) (op != 14) (nn != 0) (op != 65) (b != 0) st (a==0) wh)) []:=by
 refine aa aI (Ru op r a b nn tg ll le s n st li wh) ?_
 simp only[Mq,j4,ff,oW,j4,br,aG.ok]
 have e14:(op==14) = !(op != 14):=by simp[bne]
 simp only[e14]
 have c1:(op != 14)=false→(op != 65)=true:=by simp only[bne_eq_false_iff_eq,bne_iff_ne,ne_eq];omega
 have c2:(op != 4)=false→(op != 14)=true:=by simp only[bne_eq_false_iff_eq,bne_iff_ne,ne_eq];omega
 have c3:(op != 4)=false→(op != 65)=true:=by simp only[bne_eq_false_iff_eq,bne_iff_ne,ne_eq];omega
 clear e14
 generalize (s.data.toList==(aeV #[]).data.toList)=e0
 generalize decide (r<0)=e1
 generalize decide (r>1)=e2
 generalize decide (r>0)=e3
 generalize decide ((ll.length:Int)>0)=e4
 generalize decide ((le.length:Int)>0)=e5
 generalize (op != 4)=n4 at c2 c3 ⊢
 generalize decide ((tg.length:Int)>0)=e6
 generalize (op != 14)=V3 at c1 c2 ⊢
 generalize (nn != 0)=e8
 generalize (op != 65)=Zj at c1 c3 ⊢
 generalize (b != 0)=e7
 generalize (a==0)=a0
 refine⟨h1,h2,?_⟩
 cases e0
 case true=>simp[kP]
 cases e1
 case true=>simp[kP]
 cases e2
 case true=>simp[kP]
 cases n4
 case false=>
  obtain rfl:=c2 rfl
  obtain rfl:=c3 rfl
  clear c1 c2 c3
  cases e3<;>cases li<;>(try (simp[kP,h3];done))<;>cases e4<;>(try (simp[kP,h3];done))<;>cases e5<;>cases e6<;>(try (simp[kP,h3];done))<;>cases e8<;>(try (simp[kP,h3];done))<;>cases e7<;>cases st<;>(try (simp[kP,h3];done))<;>cases a0<;>(try (simp[kP,h3];done))<;>cases wh<;>simp[kP,h3,h4]
 clear c2 c3
 cases V3
 case false=>
  obtain rfl:=c1 rfl
  clear c1
  cases e3<;>cases li<;>(try (simp[kP,h3];done))<;>cases e4<;>(try (simp[kP,h3];done))<;>cases e5<;>(try (simp[kP,h3];done))<;>cases e6<;>cases e8<;>(try (simp[kP,h3];done))<;>cases e7<;>cases st<;>(try (simp[kP,h3];done))<;>cases a0<;>(try (simp[kP,h3];done))<;>cases wh<;>simp[kP,h3,h4]
 clear c1
 cases e3<;>cases li<;>(try (simp[kP,h3];done))<;>cases e4<;>(try (simp[kP,h3];done))<;>cases e5<;>(try (simp[kP,h3];done))<;>cases e6<;>(try (simp[kP,h3];done))<;>cases e8<;>cases Zj<;>(try (simp[kP,h3];done))<;>cases e7<;>cases st<;>(try (simp[kP,h3];done))<;>cases a0<;>(try (simp[kP,h3];done))<;>cases wh<;>simp[kP,h3,h4]
theorem Rx (op:Int):aE aeB env (aJ aB av [] [(179,3,3),(179,6,3),(185,0,0),(185,0,1),(185,0,2),(185,0,3),(185,0,4),(185,0,5),(185,0,6),(185,0,7),(185,0,8),(185,0,9),(185,0,10),(185,0,11),(185,0,12),(189,0,0),(189,0,1),(189,0,2),(189,0,3),(189,0,4),(189,0,5),(189,0,6),(189,0,7),(189,0,8),(189,0,9),(189,0,10),(189,0,11),(189,0,12),(189,0,13),(189,0,14),(189,0,15)] []) 1000000 179 ([sI tp op]) ([]) (jv 32 3492459654808044433593).1 =
(.must (!(decide (op≥69)))
 (.must (!(decide (op≥103)))
 (.must (!(op==0))
 (.must (!(op==1))
 (.must (!(op==2))
 (.must (!(op==3))
 (.must (!(op==4))
 (.must (!(op==12))
 (.must (!(op==13))
 (.must (!(op==14))
 (.must (!(op==15))
 (.must (!(op==16))
 (.must (!(op==17))
 (.must (!(op==26))
 (.must (!(op==27))
 (.must (!(op==32))
 (.must (!(op==33))
 (.must (!(op==34))
 (.must (!(op==35))
 (.must (!(op==36))
 (.must (!(op==40))
 (.must (!(op==44))
 (.must (!(op==45))
 (.must (!(op==46))
 (.must (!(op==47))
 (.must (!(op==54))
 (.must (!(op==58))
 (.must (!(op==59))
 (.must (!(op==63))
 (.must (!(op==64))
 (.must (!(op==65))
 (.out (.ret (.p (.sc (.string (aeV #[])))) []))))))))))))))))))))))))))))))))):=by kernel_rfl
theorem Ry (op:Int):aE aeB env (aJ aB av [] [(179,3,3),(179,0,0),(179,6,3),(179,0,1),(185,0,0),(185,0,1),(185,0,2),(185,0,3),(185,0,4),(185,0,5),(185,0,6),(185,0,7),(185,0,8),(185,0,9),(185,0,10),(185,0,11),(185,0,12),(189,0,0),(189,0,1),(189,0,2),(189,0,3),(189,0,4),(189,0,5),(189,0,6),(189,0,7),(189,0,8),(189,0,9),(189,0,10),(189,0,11),(189,0,12),(189,0,13),(189,0,14),(189,0,15)] []) 1000000 179 ([sI tp op]) ([]) (jv 34 87311491370201110839817).1 =
(.must (decide (op≥69))
 (.must (!(decide (op≤79)))
 (.must (decide (op≥103))
 (.must (!(decide (op≤120)))
 (.must (!(op==0))
 (.must (!(op==1))
 (.must (!(op==2))
 (.must (!(op==3))
 (.must (!(op==4))
 (.must (!(op==12))
 (.must (!(op==13))
 (.must (!(op==14))
 (.must (!(op==15))
 (.must (!(op==16))
 (.must (!(op==17))
 (.must (!(op==26))
 (.must (!(op==27))
 (.must (!(op==32))
 (.must (!(op==33))
 (.must (!(op==34))
 (.must (!(op==35))
 (.must (!(op==36))
 (.must (!(op==40))
 (.must (!(op==44))
 (.must (!(op==45))
 (.must (!(op==46))
 (.must (!(op==47))
 (.must (!(op==54))
 (.must (!(op==58))
 (.must (!(op==59))
 (.must (!(op==63))
 (.must (!(op==64))
 (.must (!(op==65))
 (.out (.ret (.p (.sc (.string (aeV #[])))) []))))))))))))))))))))))))))))))))))):=by kernel_rfl
def qE (n:Nat):Bool:=
 match xT aeB env [] 100000 179 [sI .i64 n] [] with
 |some (.ret v m)=>dy v (.p (.sc (.string (Rk.getD n ⟨#[]⟩))))&&qW m []
 |_=>false
theorem aaR:(pw 0 32).all qE=true:=by kernel_rfl
theorem aaS:(pw 32 32).all qE=true:=by kernel_rfl
theorem aaT:(pw 64 32).all qE=true:=by kernel_rfl
theorem aaU:(pw 96 32).all qE=true:=by kernel_rfl
theorem aaV:(pw 128 32).all qE=true:=by kernel_rfl
theorem aaW:(pw 160 32).all qE=true:=by kernel_rfl
theorem aaX:(pw 192 32).all qE=true:=by kernel_rfl
theorem aaY:(pw 224 32).all qE=true:=by kernel_rfl
theorem NK {n:Nat} (h:n<256):qE n=true:=by
 have get : ∀a,(pw a 32).all qE=true→a≤n→n<a+32→qE n=true:=fun a ha h1 h2=>QQ.1 ha n (List.mem_range'_1.2 ⟨h1,h2⟩)
 rcases be n 32 with q | q
 · exact get 0 aaR (by omega) (by omega)
 rcases be n 64 with q | q
 · exact get 32 aaS (by omega) (by omega)
 rcases be n 96 with q | q
 · exact get 64 aaT (by omega) (by omega)
 rcases be n 128 with q | q
 · exact get 96 aaU (by omega) (by omega)
 rcases be n 160 with q | q
 · exact get 128 aaV (by omega) (by omega)
 rcases be n 192 with q | q
 · exact get 160 aaW (by omega) (by omega)
 rcases be n 224 with q | q
 · exact get 192 aaX (by omega) (by omega)
 · exact get 224 aaY (by omega) (by omega)
theorem Kz (op:Int):an aeB env 179 [sI .i64 op] [] (.p (.sc (.string (nm op)))) []:=by
 by_cases h0:op<0
 · refine aa aI (Rx op) ?_
   rw[nm,if_pos (.inl h0)]
   simp only[aG.ok,ka,beq_eq_false_iff_ne,decide_eq_false_iff_not]
   repeat' first | exact aeQ | exact rfl | apply aeX
   all_goals omega
 · by_cases h1:256≤op
   · refine aa aI (Ry op) ?_
     rw[nm,if_pos (.inr h1)]
     simp only[aG.ok,ka,beq_eq_false_iff_ne,decide_eq_false_iff_not,decide_eq_true_eq]
     repeat' first | exact aeQ | exact rfl | apply aeX
     all_goals omega
   · obtain⟨n,rfl⟩:=Int.eq_ofNat_of_zero_le (by omega:0≤op)
     have hr:=NK (n:=n) (by omega)
     unfold qE at hr
     split at hr
     · rename_i v m hx
       rw[jn] at hr
       rw[kZ hr.1,lD hr.2] at hx
       rw[nm,if_neg (by omega)]
       exact cj aI fZ hx
     · cases hr
def je:Ins→Bool
 |.mk op r a b nn tg ll le=>ya ((nm op).data.toList==(aeV #[]).data.toList) (Kv op) (decide (op=4)) (tK op||Kw op||decide (op=14)) (tK op) (decide (op=65)) (decide (op=14)) (decide (r<0)) (decide (r>1)) (r != 0) (decide ((ll.length:Int)>0)) (decide ((le.length:Int)>0)) (a==0) (b==0) (nn==0) ((tg.length:Int)==0)
theorem DX (x:Ins):an aeB env 125 [HB x] [] (sB (je x)) []:=by
 obtain⟨op,r,a,b,nn,tg,ll,le⟩:=x
 exact aaO op r a b nn tg ll le (nm op) _ _ _ _ _ _ (NJ op) (NI op)
theorem NL : ∀e0 e1 e2 e3 e4 e5 li n4 e6 V3 e8 Zj e7 st a0 wh:Bool,(e1=true→e3=false)→ya e0 li (!n4) (st||wh || !V3) st (!Zj) (!V3) e1 e2 (e1||e3) e4 e5 a0 (!e7) (!e8) (!e6)=kP e0 e1 e2 e3 e4 e5 li n4 e6 V3 e8 Zj e7 st a0 wh:=by
 intro e0 e1 e2 e3 e4 e5 li n4 e6 V3 e8 Zj e7 st a0 wh
 cases e0
 case true=>intro _;rfl
 cases e1
 case true=>intro _;rfl
 cases e2
 case true=>intro _;rfl
 intro _
 revert e3 e4 e5 li n4 e6 V3 e8 Zj e7 st a0 wh
 decide +kernel
theorem zy (x:Ins):an aeB env 169 [HB x] [] (sB (je x)) []:=by
 obtain⟨op,r,a,b,nn,tg,ll,le⟩:=x
 have h:=aaQ op r a b nn tg ll le (nm op) _ _ _ _ (HJ op) (Kz op) (Kx op) (Ky op)
 rw[←NL] at h
 · have e1:(!(op != 4))=decide (op=4):=by rw[aeM];simp
   have e2:(!(op != 14))=decide (op=14):=by rw[aeM];simp
   have e3:(!(op != 65))=decide (op=65):=by rw[aeM];simp
   have e4:(!(b != 0))=(b==0):=by simp[bne]
   have e5:(!(nn != 0))=(nn==0):=by simp[bne]
   have e6:(!decide ((tg.length:Int)>0))=((tg.length:Int)==0):=by rw[aeM,ka,decide_eq_false_iff_not,beq_iff_eq];omega
   have e7:(decide (r<0)||decide (r>0))=(r != 0):=by rw[aeM,j1,decide_eq_true_eq,decide_eq_true_eq,bne_iff_ne];omega
   rw[e1,e2,e3,e4,e5,e6,e7] at h
   exact h
 · intro q;rw[decide_eq_true_eq] at q;rw[decide_eq_false_iff_not];omega
def adD (x:Li) (e:Int) (f:FuncId) (_:List AV) (m:Mem):Option (AV×Mem):=cond (ai f 70) (some (sI .i64 e,m)) none
def mcC (M:Mo) (a b c:Int) (fn:FuncId) (_:List AV) (m:Mem):Option (AV×Mem):=cond (ai fn 27) (some (sI .i64 a,m)) (cond (ai fn 28) (some (sI .i64 b,m)) (cond (ai fn 29) (some (sI .i64 c,m)) none))
theorem NM (k:Nat) (cs:List PV):aE aeB env (aJ aB av [(105,0)] [] []) 1000000 105 ([AV.p (PV.ps k 2 cs),AV.fn (aeD 53) [] []]) ([]) (.fin) =
(.at (ah aeB env 105 0 [.p (.ps k 2 cs),.fn (aeD 53) [] [],sI .i64 (↑k:Int),sI .i64 0] ([]) 0 19)):=by kernel_rfl
theorem HL (k:Nat) (i:Nat) (cs:List PV) (ok:Bool):grow aeB env (aJ (fun f _ m=>cond (ai f 53) (some (sB ok,m)) none) av [(105,0)] [(105,0,1),(105,0,2)] [(105,5,3),(105,5,4)]) 1000000 true (ah aeB env 105 0 ([AV.p (PV.ps k 2 cs),AV.fn (aeD 53) [] [],sI tp (↑k:Int),sI tp (↑i:Int)]) ([]) 0 19) (.fin) atEnd =
(.test ((bh i k))
 (.must ((bA i k))
 (.must ((kC cs i))
 (.call ⟨53,[.agg [.p (.ps (aq (aA cs (aF i*2))) (aK (aA cs (aF i*2))) (aj (aA cs (aF i*2)))),.p (.ps (aq (aA cs (aF i*2+1))) (aK (aA cs (aF i*2+1))) (aj (aA cs (aF i*2+1))))]],[],.p (.sc (.bool ok)),[]⟩
 (.test (ok)
 (.out (.ret (sI .i64 (↑i:Int)) []))
 (.at (ah aeB env 105 0 [.p (.ps k 2 cs),.fn (aeD 53) [] [],sI .i64 (↑k:Int),sI .i64 (tp.wrap ((↑i:Int)+1))] ([]) 0 19))))))
 (.out (.ret (sI .i64 (-1)) []))):=by kernel_rfl
theorem NN (k:Nat) (cs:List PV):aE aeB env (aJ aB av [(107,0)] [] []) 1000000 107 ([AV.p (PV.ps k 1 cs),AV.fn (aeD 57) [] []]) ([]) (.fin) =
(.at (ah aeB env 107 0 [.p (.ps k 1 cs),.fn (aeD 57) [] [],sI .i64 (↑k:Int),sI .i64 0] ([]) 0 19)):=by kernel_rfl
theorem HM (k:Nat) (i:Nat) (cs:List PV) (ok:Bool):grow aeB env (aJ (fun f _ m=>cond (ai f 57) (some (sB ok,m)) none) av [(107,0)] [(107,0,1),(107,0,2)] [(107,5,3),(107,5,4)]) 1000000 true (ah aeB env 107 0 ([AV.p (PV.ps k 1 cs),AV.fn (aeD 57) [] [],sI tp (↑k:Int),sI tp (↑i:Int)]) ([]) 0 19) (.fin) atEnd =
(.test ((bh i k))
 (.must ((bA i k))
 (.must (isStr (aA cs (aF i*1))&&true)
 (.call ⟨57,[.p (.sc (.string (aY (aA cs (aF i*1)))))],[],.p (.sc (.bool ok)),[]⟩
 (.test (ok)
 (.out (.ret (sI .i64 (↑i:Int)) []))
 (.at (ah aeB env 107 0 [.p (.ps k 1 cs),.fn (aeD 57) [] [],sI .i64 (↑k:Int),sI .i64 (tp.wrap ((↑i:Int)+1))] ([]) 0 19))))))
 (.out (.ret (sI .i64 (-1)) []))):=by kernel_rfl
theorem NO (k:Nat) (cs:List PV):aE aeB env (aJ aB av [(107,0)] [] []) 1000000 107 ([AV.p (PV.ps k 1 cs),AV.fn (aeD 66) [] []]) ([]) (.fin) =
(.at (ah aeB env 107 0 [.p (.ps k 1 cs),.fn (aeD 66) [] [],sI .i64 (↑k:Int),sI .i64 0] ([]) 0 19)):=by kernel_rfl
theorem HN (k:Nat) (i:Nat) (cs:List PV) (ok:Bool):grow aeB env (aJ (fun f _ m=>cond (ai f 66) (some (sB ok,m)) none) av [(107,0)] [(107,0,1),(107,0,2)] [(107,5,3),(107,5,4)]) 1000000 true (ah aeB env 107 0 ([AV.p (PV.ps k 1 cs),AV.fn (aeD 66) [] [],sI tp (↑k:Int),sI tp (↑i:Int)]) ([]) 0 19) (.fin) atEnd =
(.test ((bh i k))
 (.must ((bA i k))
 (.must (isStr (aA cs (aF i*1))&&true)
 (.call ⟨66,[.p (.sc (.string (aY (aA cs (aF i*1)))))],[],.p (.sc (.bool ok)),[]⟩
 (.test (ok)
 (.out (.ret (sI .i64 (↑i:Int)) []))
 (.at (ah aeB env 107 0 [.p (.ps k 1 cs),.fn (aeD 66) [] [],sI .i64 (↑k:Int),sI .i64 (tp.wrap ((↑i:Int)+1))] ([]) 0 19))))))
 (.out (.ret (sI .i64 (-1)) []))):=by kernel_rfl
theorem NP (k:Nat) (cs:List PV):aE aeB env (aJ aB av [(108,0)] [] []) 1000000 108 ([AV.p (PV.ps k 2 cs),AV.fn (aeD 59) [] []]) ([]) (.fin) =
(.at (ah aeB env 108 0 [.p (.ps k 2 cs),.fn (aeD 59) [] [],sI .i64 (↑k:Int),sI .i64 0] ([]) 0 19)):=by kernel_rfl
theorem HO (k:Nat) (i:Nat) (cs:List PV) (ok:Bool):grow aeB env (aJ (fun f _ m=>cond (ai f 59) (some (sB ok,m)) none) av [(108,0)] [(108,0,1),(108,0,2)] [(108,5,3),(108,5,4)]) 1000000 true (ah aeB env 108 0 ([AV.p (PV.ps k 2 cs),AV.fn (aeD 59) [] [],sI tp (↑k:Int),sI tp (↑i:Int)]) ([]) 0 19) (.fin) atEnd =
(.test ((bh i k))
 (.must ((bA i k))
 (.must (isInt tp (aA cs (aF i*2))&&(isInt tp (aA cs (aF i*2+1))&&true)&&true)
 (.call ⟨59,[.agg [sI .i64 (au (aA cs (aF i*2))),sI .i64 (au (aA cs (aF i*2+1)))]],[],.p (.sc (.bool ok)),[]⟩
 (.test (ok)
 (.out (.ret (sI .i64 (↑i:Int)) []))
 (.at (ah aeB env 108 0 [.p (.ps k 2 cs),.fn (aeD 59) [] [],sI .i64 (↑k:Int),sI .i64 (tp.wrap ((↑i:Int)+1))] ([]) 0 19))))))
 (.out (.ret (sI .i64 (-1)) []))):=by kernel_rfl
theorem NQ (k:Nat) (cs:List PV):aE aeB env (aJ aB av [(109,0)] [] []) 1000000 109 ([AV.p (PV.ps k 3 cs),AV.fn (aeD 62) [] []]) ([]) (.fin) =
(.at (ah aeB env 109 0 [.p (.ps k 3 cs),.fn (aeD 62) [] [],sI .i64 (↑k:Int),sI .i64 0] ([]) 0 19)):=by kernel_rfl
theorem HP (k:Nat) (i:Nat) (cs:List PV) (ok:Bool):grow aeB env (aJ (fun f _ m=>cond (ai f 62) (some (sB ok,m)) none) av [(109,0)] [(109,0,1),(109,0,2)] [(109,5,3),(109,5,4)]) 1000000 true (ah aeB env 109 0 ([AV.p (PV.ps k 3 cs),AV.fn (aeD 62) [] [],sI tp (↑k:Int),sI tp (↑i:Int)]) ([]) 0 19) (.fin) atEnd =
(.test ((bh i k))
 (.must ((bA i k))
 (.must ((wo cs i))
 (.call ⟨62,[.agg [.p (.sc (.string (aY (aA cs (aF i*3))))),.p (.sc (.string (aY (aA cs (aF i*3+1))))),sI .i64 (au (aA cs (aF i*3+1+1)))]],[],.p (.sc (.bool ok)),[]⟩
 (.test (ok)
 (.out (.ret (sI .i64 (↑i:Int)) []))
 (.at (ah aeB env 109 0 [.p (.ps k 3 cs),.fn (aeD 62) [] [],sI .i64 (↑k:Int),sI .i64 (tp.wrap ((↑i:Int)+1))] ([]) 0 19))))))
 (.out (.ret (sI .i64 (-1)) []))):=by kernel_rfl
theorem NR (k:Nat) (cs:List PV):aE aeB env (aJ aB av [(110,0)] [] []) 1000000 110 ([AV.p (PV.ps k 3 cs),AV.fn (aeD 65) [] []]) ([]) (.fin) =
(.at (ah aeB env 110 0 [.p (.ps k 3 cs),.fn (aeD 65) [] [],sI .i64 (↑k:Int),sI .i64 0] ([]) 0 19)):=by kernel_rfl
theorem HQ (k:Nat) (i:Nat) (cs:List PV) (ok:Bool):grow aeB env (aJ (fun f _ m=>cond (ai f 65) (some (sB ok,m)) none) av [(110,0)] [(110,0,1),(110,0,2)] [(110,5,3),(110,5,4)]) 1000000 true (ah aeB env 110 0 ([AV.p (PV.ps k 3 cs),AV.fn (aeD 65) [] [],sI tp (↑k:Int),sI tp (↑i:Int)]) ([]) 0 19) (.fin) atEnd =
(.test ((bh i k))
 (.must ((bA i k))
 (.must ((wu cs i))
 (.call ⟨65,[.agg [sI .i64 (au (aA cs (aF i*3))),sI .i64 (au (aA cs (aF i*3+1))),.p (.ps (aq (aA cs (aF i*3+1+1))) (aK (aA cs (aF i*3+1+1))) (aj (aA cs (aF i*3+1+1))))]],[],.p (.sc (.bool ok)),[]⟩
 (.test (ok)
 (.out (.ret (sI .i64 (↑i:Int)) []))
 (.at (ah aeB env 110 0 [.p (.ps k 3 cs),.fn (aeD 65) [] [],sI .i64 (↑k:Int),sI .i64 (tp.wrap ((↑i:Int)+1))] ([]) 0 19))))))
 (.out (.ret (sI .i64 (-1)) []))):=by kernel_rfl
theorem NS (k:Nat) (cs:List PV):aE aeB env (aJ aB av [(112,0)] [] []) 1000000 112 ([AV.p (PV.ps k 3 cs),AV.fn (aeD 69) [] []]) ([]) (.fin) =
(.at (ah aeB env 112 0 [.p (.ps k 3 cs),.fn (aeD 69) [] [],sI .i64 (↑k:Int),sI .i64 0] ([]) 0 19)):=by kernel_rfl
abbrev yc (x0:List PV) (x1:Nat):Bool:=isInt acU (aA x0 (aF x1*3))&&(isInt acU (aA x0 (aF x1*3+1))&&(isBool (aA x0 (aF x1*3+1+1))&&true))&&true
abbrev yd (x0:List PV) (x1:Nat):List AV:=[.agg [sI .u32 (au (aA x0 (aF x1*3))),sI .u32 (au (aA x0 (aF x1*3+1))),.p (.sc (.bool (aW (aA x0 (aF x1*3+1+1)))))]]
theorem HR (k:Nat) (i:Nat) (cs:List PV) (ok:Bool):grow aeB env (aJ (fun f _ m=>cond (ai f 69) (some (sB ok,m)) none) av [(112,0)] [(112,0,1),(112,0,2)] [(112,5,3),(112,5,4)]) 1000000 true (ah aeB env 112 0 ([AV.p (PV.ps k 3 cs),AV.fn (aeD 69) [] [],sI tp (↑k:Int),sI tp (↑i:Int)]) ([]) 0 19) (.fin) atEnd =
(.test ((bh i k))
 (.must ((bA i k))
 (.must ((yc cs i))
 (.call ⟨69,(yd cs i),[],.p (.sc (.bool ok)),[]⟩
 (.test (ok)
 (.out (.ret (sI .i64 (↑i:Int)) []))
 (.at (ah aeB env 112 0 [.p (.ps k 3 cs),.fn (aeD 69) [] [],sI .i64 (↑k:Int),sI .i64 (tp.wrap ((↑i:Int)+1))] ([]) 0 19))))))
 (.out (.ret (sI .i64 (-1)) []))):=by kernel_rfl
theorem NT (k:Nat) (cs:List PV):aE aeB env (aJ aB av [(112,0)] [] []) 1000000 112 ([AV.p (PV.ps k 3 cs),AV.fn (aeD 71) [] []]) ([]) (.fin) =
(.at (ah aeB env 112 0 [.p (.ps k 3 cs),.fn (aeD 71) [] [],sI .i64 (↑k:Int),sI .i64 0] ([]) 0 19)):=by kernel_rfl
theorem HS (k:Nat) (i:Nat) (cs:List PV) (ok:Bool):grow aeB env (aJ (fun f _ m=>cond (ai f 71) (some (sB ok,m)) none) av [(112,0)] [(112,0,1),(112,0,2)] [(112,5,3),(112,5,4)]) 1000000 true (ah aeB env 112 0 ([AV.p (PV.ps k 3 cs),AV.fn (aeD 71) [] [],sI tp (↑k:Int),sI tp (↑i:Int)]) ([]) 0 19) (.fin) atEnd =
(.test ((bh i k))
 (.must ((bA i k))
 (.must ((yc cs i))
 (.call ⟨71,(yd cs i),[],.p (.sc (.bool ok)),[]⟩
 (.test (ok)
 (.out (.ret (sI .i64 (↑i:Int)) []))
 (.at (ah aeB env 112 0 [.p (.ps k 3 cs),.fn (aeD 71) [] [],sI .i64 (↑k:Int),sI .i64 (tp.wrap ((↑i:Int)+1))] ([]) 0 19))))))
 (.out (.ret (sI .i64 (-1)) []))):=by kernel_rfl
theorem NU (k:Nat) (cs:List PV):aE aeB env (aJ aB av [(25,0)] [] []) 1000000 25 ([AV.p (PV.ps k 3 cs),AV.fn (aeD 73) [] []]) ([]) (.fin) =
(.at (ah aeB env 25 0 [.p (.ps k 3 cs),.fn (aeD 73) [] [],sI .i64 (↑k:Int),sI .i64 0] ([]) 0 19)):=by kernel_rfl
theorem HT (k:Nat) (i:Nat) (cs:List PV) (ok:Bool):grow aeB env (aJ (fun f _ m=>cond (ai f 73) (some (sB ok,m)) none) av [(25,0)] [(25,0,1),(25,0,2)] [(25,5,3),(25,5,4)]) 1000000 true (ah aeB env 25 0 ([AV.p (PV.ps k 3 cs),AV.fn (aeD 73) [] [],sI tp (↑k:Int),sI tp (↑i:Int)]) ([]) 0 19) (.fin) atEnd =
(.test ((bh i k))
 (.must ((bA i k))
 (.must ((wq cs i))
 (.call ⟨73,[.agg [.p (.sc (.string (aY (aA cs (aF i*3))))),sI .i64 (au (aA cs (aF i*3+1))),sI .u32 (au (aA cs (aF i*3+1+1)))]],[],.p (.sc (.bool ok)),[]⟩
 (.test (ok)
 (.out (.ret (sI .i64 (↑i:Int)) []))
 (.at (ah aeB env 25 0 [.p (.ps k 3 cs),.fn (aeD 73) [] [],sI .i64 (↑k:Int),sI .i64 (tp.wrap ((↑i:Int)+1))] ([]) 0 19))))))
 (.out (.ret (sI .i64 (-1)) []))):=by kernel_rfl
theorem Rz (k:Nat) (cs:List PV) (r:Int):aE aeB env (aJ (fun f _ m=>cond (ai f 105) (some (sI .i64 r,m)) none) av [] [] []) 1000000 52 ([AV.p (PV.ps k 2 cs),AV.fn (aeD 53) [] []]) ([]) (.fin) =
(.call ⟨105,[.p (.ps k 2 cs),.fn (aeD 53) [] []],[],sI .i64 r,[]⟩
 (.out (.ret (.p (.sc (.bool (decide (r≥0))))) []))):=by kernel_rfl
theorem RA (k:Nat) (cs:List PV) (r:Int):aE aeB env (aJ (fun f _ m=>cond (ai f 107) (some (sI .i64 r,m)) none) av [] [] []) 1000000 55 ([AV.p (PV.ps k 1 cs),AV.fn (aeD 57) [] []]) ([]) (.fin) =
(.call ⟨107,[.p (.ps k 1 cs),.fn (aeD 57) [] []],[],sI .i64 r,[]⟩
 (.out (.ret (.p (.sc (.bool (decide (r≥0))))) []))):=by kernel_rfl
theorem RB (k:Nat) (cs:List PV) (r:Int):aE aeB env (aJ (fun f _ m=>cond (ai f 107) (some (sI .i64 r,m)) none) av [] [] []) 1000000 55 ([AV.p (PV.ps k 1 cs),AV.fn (aeD 66) [] []]) ([]) (.fin) =
(.call ⟨107,[.p (.ps k 1 cs),.fn (aeD 66) [] []],[],sI .i64 r,[]⟩
 (.out (.ret (.p (.sc (.bool (decide (r≥0))))) []))):=by kernel_rfl
theorem RC (k:Nat) (cs:List PV) (r:Int):aE aeB env (aJ (fun f _ m=>cond (ai f 108) (some (sI .i64 r,m)) none) av [] [] []) 1000000 58 ([AV.p (PV.ps k 2 cs),AV.fn (aeD 59) [] []]) ([]) (.fin) =
(.call ⟨108,[.p (.ps k 2 cs),.fn (aeD 59) [] []],[],sI .i64 r,[]⟩
 (.out (.ret (.p (.sc (.bool (decide (r≥0))))) []))):=by kernel_rfl
theorem RD (k:Nat) (cs:List PV) (r:Int):aE aeB env (aJ (fun f _ m=>cond (ai f 109) (some (sI .i64 r,m)) none) av [] [] []) 1000000 61 ([AV.p (PV.ps k 3 cs),AV.fn (aeD 62) [] []]) ([]) (.fin) =
(.call ⟨109,[.p (.ps k 3 cs),.fn (aeD 62) [] []],[],sI .i64 r,[]⟩
 (.out (.ret (.p (.sc (.bool (decide (r≥0))))) []))):=by kernel_rfl
theorem RE (k:Nat) (cs:List PV) (r:Int):aE aeB env (aJ (fun f _ m=>cond (ai f 110) (some (sI .i64 r,m)) none) av [] [] []) 1000000 64 ([AV.p (PV.ps k 3 cs),AV.fn (aeD 65) [] []]) ([]) (.fin) =
(.call ⟨110,[.p (.ps k 3 cs),.fn (aeD 65) [] []],[],sI .i64 r,[]⟩
 (.out (.ret (.p (.sc (.bool (decide (r≥0))))) []))):=by kernel_rfl
theorem RF (k:Nat) (cs:List PV) (r:Int):aE aeB env (aJ (fun f _ m=>cond (ai f 112) (some (sI .i64 r,m)) none) av [] [] []) 1000000 68 ([AV.p (PV.ps k 3 cs),AV.fn (aeD 69) [] []]) ([]) (.fin) =
(.call ⟨112,[.p (.ps k 3 cs),.fn (aeD 69) [] []],[],sI .i64 r,[]⟩
 (.out (.ret (.p (.sc (.bool (decide (r≥0))))) []))):=by kernel_rfl
theorem RG (k:Nat) (cs:List PV) (r:Int):aE aeB env (aJ (fun f _ m=>cond (ai f 112) (some (sI .i64 r,m)) none) av [] [] []) 1000000 68 ([AV.p (PV.ps k 3 cs),AV.fn (aeD 71) [] []]) ([]) (.fin) =
(.call ⟨112,[.p (.ps k 3 cs),.fn (aeD 71) [] []],[],sI .i64 r,[]⟩
 (.out (.ret (.p (.sc (.bool (decide (r≥0))))) []))):=by kernel_rfl
theorem RH (k:Nat) (cs:List PV) (r:Int):aE aeB env (aJ (fun f _ m=>cond (ai f 25) (some (sI .i64 r,m)) none) av [] [] []) 1000000 72 ([AV.p (PV.ps k 3 cs),AV.fn (aeD 73) [] []]) ([]) (.fin) =
(.call ⟨25,[.p (.ps k 3 cs),.fn (aeD 73) [] []],[],sI .i64 r,[]⟩
 (.out (.ret (.p (.sc (.bool (decide (r≥0))))) []))):=by kernel_rfl
theorem RI (p r:Int):aE aeB env (aJ aB av [] [(60,0,0)] []) 1000000 60 ([AV.agg [sI tp p,sI tp r]]) ([]) (.fin) =
(.test (!(fun r=>(p==bif true then aeJ (bif false then aeJ p 0 else aeK p 0) 255 else aeK (bif false then aeJ p 0 else aeK p 0) 255)&&r) ((fun r_1=>(r==bif true then aeJ (bif false then aeJ r 0 else aeK r 0) 1 else aeK (bif false then aeJ r 0 else aeK r 0) 1)&&r_1) true))
 (.out (.ret (sI .i64 2) []))
 (.out (.ret (sI .i64 0) []))):=by kernel_rfl
theorem RJ (mn mx:Int) (cap:Bool) (most:Int):aE aeB env (aJ aB av [] (fm 70 [(2,5),(2,8),(2,14),(2,22),(2,26),(0,0)]) []) 1000000 70 ([AV.agg [sI acU mn,sI acU mx,sB cap],sI acU most]) ([]) (jv 7 337664171284).1 =
(.test (decide (mn>most))
 (.out (.ret (sI .i64 2) []))
 (.test (cap)
 (.test (decide (mx<mn))
 (.out (.ret (sI .i64 2) []))
 (.test (decide (mx>most))
 (.out (.ret (sI .i64 2) []))
 (.must (!(!cap))
 (.out (.ret (sI .i64 0) [])))))
 (.must (!cap)
 (.test (mx != 0)
 (.out (.ret (sI .i64 2) []))
 (.out (.ret (sI .i64 0) [])))))):=by kernel_rfl
theorem RK (x:El):aE aeB env (aJ aB av [] [] []) 1000000 53 ([AV.agg (adP AV.p (aT x))]) ([]) (.fin) =
(.out (.ret (.p (.sc (.bool (decide ((↑x.fs.length:Int)>16384))))) [])):=by kernel_rfl
theorem RL (s:ByteArray):aE aeB env (aJ aB av [] [] []) 1000000 57 ([AV.p (PV.sc (aeH s))]) ([]) (.fin) =
(.out (.ret (.p (.sc (.bool (decide ((↑s.data.toList.length:Int)>1000))))) [])):=by kernel_rfl
theorem RM (s:ByteArray) (r:Int):aE aeB env (aJ (fun f _ m=>cond (ai f 67) (some (sI .i64 r,m)) none) av [] [] []) 1000000 66 ([AV.p (PV.sc (aeH s))]) ([]) (.fin) =
(.call ⟨67,[.os (some 0) s.data.toList.length 1 (adP jx s.data.toList)],[.tok],sI .i64 r,[.tok]⟩
 (.out (.ret (.p (.sc (.bool (decide (r≥0))))) []))):=by kernel_rfl
theorem RN (x:Ty) (e:Int):aE aeB env (aJ (fun f _ m=>cond (ai f 60) (some (sI .i64 e,m)) none) av [] [] []) 1000000 59 ([AV.agg (adP AV.p (bB x))]) ([]) (.fin) =
(.call ⟨60,[.agg [sI .i64 x.p,sI .i64 x.r]],[],sI .i64 e,[]⟩
 (.out (.ret (.p (.sc (.bool (e != 0)))) []))):=by kernel_rfl
theorem RO (x:Im):aE aeB env (aJ aB av [] [(63,2,3)] []) 1000000 62 ([AV.agg (adP AV.p (bg x))]) ([]) (.fin) =
(.test (decide (x.ty≥0))
 (.out (.ret (.p (.sc (.bool !decide (x.ty≤2147483647)))) []))
 iT):=by kernel_rfl
theorem RP (x:Li) (e:Int):aE aeB env (aJ (adD x e) av [] [] []) 1000000 69 ([AV.agg (adP AV.p (aS x))]) ([]) (.fin) =
(.call ⟨70,[.agg [sI .u32 x.mn,sI .u32 x.mx,.p (.sc (.bool x.cap))],sI .u32 1048576],[],sI .i64 e,[]⟩
 (.out (.ret (.p (.sc (.bool (e != 0)))) []))):=by kernel_rfl
theorem RQ (x:Li) (e:Int):aE aeB env (aJ (adD x e) av [] [] []) 1000000 71 ([AV.agg (adP AV.p (aS x))]) ([]) (.fin) =
(.call ⟨70,[.agg [sI .u32 x.mn,sI .u32 x.mx,.p (.sc (.bool x.cap))],sI .u32 65536],[],sI .i64 e,[]⟩
 (.out (.ret (.p (.sc (.bool (e != 0)))) []))):=by kernel_rfl
theorem RR (x:Ex):aE aeB env (aJ aB av [] [(73,2,4)] []) 1000000 73 ([AV.agg (adP AV.p (aV x))]) ([]) (.fin) =
(.test (decide (x.kind<0))
 iT
 (.out (.ret (.p (.sc (.bool (decide (x.kind>3))))) []))):=by kernel_rfl
theorem RS (x:Fu):aE aeB env (aJ aB av [] [(63,2,3),(65,2,5),(65,2,11)] []) 1000000 65 ([AV.agg (adP AV.p (aM x))]) ([]) (jv 4 18799).1 =
(.test (decide (x.ty≥0))
 (.test (!decide (x.ty≤2147483647))
 iT
 (.test (decide (x.lo<0))
 iT
 (.out (.ret (.p (.sc (.bool (decide (x.lo>50000))))) []))))
 iT):=by kernel_rfl
abbrev bQ (x0:Mo):List AV:=[.agg (adP AV.p x0.aH)]
theorem RT (M:Mo) (e:Int) (n:Nat) (cs:List PV):aE aeB env (aJ (fun f _ m=>cond (ai f 34) (some (.p (.ps n 1 cs),m)) none) av [(54,0)] [] []) 1000000 54 ([AV.agg (adP AV.p M.aH),sI tp e]) ([]) (.fin) =
(.call ⟨34,(bQ M),[],.p (.ps n 1 cs),[]⟩
 (.at (ah aeB env 54 0 [sI .i64 e,.p (.ps n 1 cs),sI .i64 (↑n:Int),sI .i64 0] ([]) 0 20))):=by kernel_rfl
theorem HU (e:Int) (k:Nat) (i:Nat) (cs:List PV) (r:Int):grow aeB env (aJ (fun f _ m=>cond (ai f 106) (some (sI .i64 r,m)) none) av [(54,0)] [(54,0,1),(54,0,2)] [(54,4,0),(54,4,1)]) 1000000 true (ah aeB env 54 0 ([sI tp e,AV.p (PV.ps k 1 cs),sI tp (↑k:Int),sI tp (↑i:Int)]) ([]) 0 20) (.fin) atEnd =
(.test ((bh i k))
 (.must ((bA i k))
 (.must (aX (aA cs (aF i*1))&&true)
 (.call ⟨106,[.p (.ps (aq (aA cs (aF i*1))) (aK (aA cs (aF i*1))) (aj (aA cs (aF i*1))))],[],sI .i64 r,[]⟩
 (.test (r==e)
 (.out (.ret (sI .i64 e) []))
 (.at (ah aeB env 54 0 [sI .i64 e,.p (.ps k 1 cs),sI .i64 (↑k:Int),sI .i64 (tp.wrap ((↑i:Int)+1))] ([]) 0 20))))))
 (.out (.ret (sI .i64 0) []))):=by kernel_rfl
theorem RU (M:Mo):aE aeB env (aJ aB av [(28,0)] [] []) 1000000 28 ([AV.agg (adP AV.p M.aH)]) ([]) (.fin) =
(.at (ah aeB env 28 0 [.mp 0 0,sI .i64 1048576,.p (.ps M.bw.length 2 (adw bz M.bw)),sI .i64 (↑M.bw.length:Int),sI .i64 0] ([.pc M.aH]) 0 29)):=by kernel_rfl
theorem HV (M:Mo) (k:Nat) (i:Nat) (left:Int) (cs:List PV) (n:Nat) (ns:List PV) (lg:Bool):grow aeB env (aJ (fun f _ m=>cond (ai f 56) (some (.p (.ps n 1 ns),m)) (cond (ai f 55) (some (sB lg,m)) none)) av [(28,0)] (fm 28 [(0,1),(8,3),(0,2)]) [(28,5,0),(28,5,1)]) 1000000 true (ah aeB env 28 0 ([AV.mp 0 0,sI tp left,AV.p (PV.ps k 2 cs),sI tp (↑k:Int),sI tp (↑i:Int)]) ([bf.pc M.aH]) 0 29) (jv 4 229).1 atEnd =
(.test ((bh i k))
 (.must ((bA i k))
 (.must ((kC cs i))
 (.at (ah aeB env 28 0 [.mp 0 0,sI .i64 (tp.wrap (left-bif true then aeJ (↑(aq (aA cs (aF i*2+1))):Int) (tp.wrap (left+1)) else aeK (↑(aq (aA cs (aF i*2+1))):Int) (tp.wrap (left+1)))),.p (.ps k 2 cs),sI .i64 (↑k:Int),sI .i64 (tp.wrap ((↑i:Int)+1))] ([.pc M.aH]) 0 29))))
 (.test (decide (left<0))
 (.out (.ret (sI .i64 3) []))
 (.call ⟨56,(bQ M),[],.p (.ps n 1 ns),[]⟩
 (.call ⟨55,[.p (.ps n 1 ns),.fn (aeD 57) [] []],[],.p (.sc (.bool lg)),[]⟩
 (.test (lg)
 (.out (.ret (sI .i64 3) []))
 (.out (.ret (sI .i64 0) []))))))):=by kernel_rfl
theorem RV (M:Mo) (b:Bool) (e:Int):aE aeB env (aJ (fun f _ m=>cond (ai f 52) (some (sB b,m)) (cond (ai f 54) (some (sI .i64 e,m)) none)) av [] (fm 27 [(3,5),(3,11),(3,15),(0,0)]) []) 1000000 27 ([AV.agg (adP AV.p M.aH)]) ([]) (jv 5 17684534).1 =
(.test (decide ((↑M.cN.length:Int)>1))
 (.out (.ret (sI .i64 141) []))
 (.test (decide ((↑M.cL.length:Int)>1))
 (.out (.ret (sI .i64 141) []))
 (.test (decide ((bif false then aeJ (bif false then aeJ (bif false then aeJ (bif false then aeJ (bif false then aeJ (bif false then aeJ (↑M.tys.length:Int) (↑M.aP.length:Int) else aeK (↑M.tys.length:Int) (↑M.aP.length:Int)) (↑M.fns.length:Int) else aeK (bif false then aeJ (↑M.tys.length:Int) (↑M.aP.length:Int) else aeK (↑M.tys.length:Int) (↑M.aP.length:Int)) (↑M.fns.length:Int)) (↑M.gls.length:Int) else aeK (bif false then aeJ (bif false then aeJ (↑M.tys.length:Int) (↑M.aP.length:Int) else aeK (↑M.tys.length:Int) (↑M.aP.length:Int)) (↑M.fns.length:Int) else aeK (bif false then aeJ (↑M.tys.length:Int) (↑M.aP.length:Int) else aeK (↑M.tys.length:Int) (↑M.aP.length:Int)) (↑M.fns.length:Int)) (↑M.gls.length:Int)) (↑M.exs.length:Int) else aeK (bif false then aeJ (bif false then aeJ (bif false then aeJ (↑M.tys.length:Int) (↑M.aP.length:Int) else aeK (↑M.tys.length:Int) (↑M.aP.length:Int)) (↑M.fns.length:Int) else aeK (bif false then aeJ (↑M.tys.length:Int) (↑M.aP.length:Int) else aeK (↑M.tys.length:Int) (↑M.aP.length:Int)) (↑M.fns.length:Int)) (↑M.gls.length:Int) else aeK (bif false then aeJ (bif false then aeJ (↑M.tys.length:Int) (↑M.aP.length:Int) else aeK (↑M.tys.length:Int) (↑M.aP.length:Int)) (↑M.fns.length:Int) else aeK (bif false then aeJ (↑M.tys.length:Int) (↑M.aP.length:Int) else aeK (↑M.tys.length:Int) (↑M.aP.length:Int)) (↑M.fns.length:Int)) (↑M.gls.length:Int)) (↑M.exs.length:Int)) (↑M.els.length:Int) else aeK (bif false then aeJ (bif false then aeJ (bif false then aeJ (bif false then aeJ (↑M.tys.length:Int) (↑M.aP.length:Int) else aeK (↑M.tys.length:Int) (↑M.aP.length:Int)) (↑M.fns.length:Int) else aeK (bif false then aeJ (↑M.tys.length:Int) (↑M.aP.length:Int) else aeK (↑M.tys.length:Int) (↑M.aP.length:Int)) (↑M.fns.length:Int)) (↑M.gls.length:Int) else aeK (bif false then aeJ (bif false then aeJ (↑M.tys.length:Int) (↑M.aP.length:Int) else aeK (↑M.tys.length:Int) (↑M.aP.length:Int)) (↑M.fns.length:Int) else aeK (bif false then aeJ (↑M.tys.length:Int) (↑M.aP.length:Int) else aeK (↑M.tys.length:Int) (↑M.aP.length:Int)) (↑M.fns.length:Int)) (↑M.gls.length:Int)) (↑M.exs.length:Int) else aeK (bif false then aeJ (bif false then aeJ (bif false then aeJ (↑M.tys.length:Int) (↑M.aP.length:Int) else aeK (↑M.tys.length:Int) (↑M.aP.length:Int)) (↑M.fns.length:Int) else aeK (bif false then aeJ (↑M.tys.length:Int) (↑M.aP.length:Int) else aeK (↑M.tys.length:Int) (↑M.aP.length:Int)) (↑M.fns.length:Int)) (↑M.gls.length:Int) else aeK (bif false then aeJ (bif false then aeJ (↑M.tys.length:Int) (↑M.aP.length:Int) else aeK (↑M.tys.length:Int) (↑M.aP.length:Int)) (↑M.fns.length:Int) else aeK (bif false then aeJ (↑M.tys.length:Int) (↑M.aP.length:Int) else aeK (↑M.tys.length:Int) (↑M.aP.length:Int)) (↑M.fns.length:Int)) (↑M.gls.length:Int)) (↑M.exs.length:Int)) (↑M.els.length:Int)) (↑M.bw.length:Int) else aeK (bif false then aeJ (bif false then aeJ (bif false then aeJ (bif false then aeJ (bif false then aeJ (↑M.tys.length:Int) (↑M.aP.length:Int) else aeK (↑M.tys.length:Int) (↑M.aP.length:Int)) (↑M.fns.length:Int) else aeK (bif false then aeJ (↑M.tys.length:Int) (↑M.aP.length:Int) else aeK (↑M.tys.length:Int) (↑M.aP.length:Int)) (↑M.fns.length:Int)) (↑M.gls.length:Int) else aeK (bif false then aeJ (bif false then aeJ (↑M.tys.length:Int) (↑M.aP.length:Int) else aeK (↑M.tys.length:Int) (↑M.aP.length:Int)) (↑M.fns.length:Int) else aeK (bif false then aeJ (↑M.tys.length:Int) (↑M.aP.length:Int) else aeK (↑M.tys.length:Int) (↑M.aP.length:Int)) (↑M.fns.length:Int)) (↑M.gls.length:Int)) (↑M.exs.length:Int) else aeK (bif false then aeJ (bif false then aeJ (bif false then aeJ (↑M.tys.length:Int) (↑M.aP.length:Int) else aeK (↑M.tys.length:Int) (↑M.aP.length:Int)) (↑M.fns.length:Int) else aeK (bif false then aeJ (↑M.tys.length:Int) (↑M.aP.length:Int) else aeK (↑M.tys.length:Int) (↑M.aP.length:Int)) (↑M.fns.length:Int)) (↑M.gls.length:Int) else aeK (bif false then aeJ (bif false then aeJ (↑M.tys.length:Int) (↑M.aP.length:Int) else aeK (↑M.tys.length:Int) (↑M.aP.length:Int)) (↑M.fns.length:Int) else aeK (bif false then aeJ (↑M.tys.length:Int) (↑M.aP.length:Int) else aeK (↑M.tys.length:Int) (↑M.aP.length:Int)) (↑M.fns.length:Int)) (↑M.gls.length:Int)) (↑M.exs.length:Int)) (↑M.els.length:Int) else aeK (bif false then aeJ (bif false then aeJ (bif false then aeJ (bif false then aeJ (↑M.tys.length:Int) (↑M.aP.length:Int) else aeK (↑M.tys.length:Int) (↑M.aP.length:Int)) (↑M.fns.length:Int) else aeK (bif false then aeJ (↑M.tys.length:Int) (↑M.aP.length:Int) else aeK (↑M.tys.length:Int) (↑M.aP.length:Int)) (↑M.fns.length:Int)) (↑M.gls.length:Int) else aeK (bif false then aeJ (bif false then aeJ (↑M.tys.length:Int) (↑M.aP.length:Int) else aeK (↑M.tys.length:Int) (↑M.aP.length:Int)) (↑M.fns.length:Int) else aeK (bif false then aeJ (↑M.tys.length:Int) (↑M.aP.length:Int) else aeK (↑M.tys.length:Int) (↑M.aP.length:Int)) (↑M.fns.length:Int)) (↑M.gls.length:Int)) (↑M.exs.length:Int) else aeK (bif false then aeJ (bif false then aeJ (bif false then aeJ (↑M.tys.length:Int) (↑M.aP.length:Int) else aeK (↑M.tys.length:Int) (↑M.aP.length:Int)) (↑M.fns.length:Int) else aeK (bif false then aeJ (↑M.tys.length:Int) (↑M.aP.length:Int) else aeK (↑M.tys.length:Int) (↑M.aP.length:Int)) (↑M.fns.length:Int)) (↑M.gls.length:Int) else aeK (bif false then aeJ (bif false then aeJ (↑M.tys.length:Int) (↑M.aP.length:Int) else aeK (↑M.tys.length:Int) (↑M.aP.length:Int)) (↑M.fns.length:Int) else aeK (bif false then aeJ (↑M.tys.length:Int) (↑M.aP.length:Int) else aeK (↑M.tys.length:Int) (↑M.aP.length:Int)) (↑M.fns.length:Int)) (↑M.gls.length:Int)) (↑M.exs.length:Int)) (↑M.els.length:Int)) (↑M.bw.length:Int))>16384))
 (.out (.ret (sI .i64 141) []))
 (.call ⟨52,[.p (.ps M.els.length 2 (adw aT M.els)),.fn (aeD 53) [] []],[],.p (.sc (.bool b)),[]⟩
 (.test (b)
 (.out (.ret (sI .i64 141) []))
 (.call ⟨54,[.agg (adP AV.p M.aH),sI .i64 141],[],sI .i64 e,[]⟩
 (.out (.ret (sI .i64 e) [])))))))):=by kernel_rfl
def aaZ:oP:=aJ aB av [] (fm 29 [(3,2),(4,2),(5,2),(6,2),(7,2),(8,2),(9,2),(9,6),(0,0)]) []
def adE (M:Mo) (a:Bool) (b:Bool) (c:Bool) (d:Bool) (e:Bool) (f:Bool) (g:Bool) (n:Nat) (ns:List PV) (r:Int):Sc:=(.ans 58 (.p (.sc (.bool a))) ([]) (.fork (jv 8 19531).1 (.ans 61 (.p (.sc (.bool b))) ([]) (.fork (jv 7 3906).1 (.ans 64 (.p (.sc (.bool c))) ([]) (.fork (jv 6 781).1 (.ans 56 (.p (.ps n 1 ns)) ([]) (.ans 55 (.p (.sc (.bool d))) ([]) (.fork (jv 5 156).1 (.ans 68 (.p (.sc (.bool e))) ([]) (.fork (jv 4 31).1 (.ans 68 (.p (.sc (.bool f))) ([]) (.fork (.lit (.lit .fin)) (.ans 72 (.p (.sc (.bool g))) ([]) (.fork (.lit .fin) (.fork (.fork .fin (.ans 54 (sI .i64 r) ([]) .fin)) (.lit (.ans 54 (sI .i64 r) ([]) .fin))))))))))))))))))
def iB:aG:=
 (.out (.ret (sI .i64 2) []))
def Mr (M:Mo) (a:Bool) (b:Bool) (c:Bool) (d:Bool) (e:Bool) (f:Bool) (g:Bool) (n:Nat) (ns:List PV) (r:Int):aG:=
 (.call ⟨58,[.p (.ps M.tys.length 2 (adw bB M.tys)),.fn (aeD 59) [] []],[],.p (.sc (.bool a)),[]⟩
 (.test (a)
 (iB)
 (.call ⟨61,[.p (.ps M.aP.length 3 (adw bg M.aP)),.fn (aeD 62) [] []],[],.p (.sc (.bool b)),[]⟩
 (.test (b)
 (iB)
 (.call ⟨64,[.p (.ps M.fns.length 3 (adw aM M.fns)),.fn (aeD 65) [] []],[],.p (.sc (.bool c)),[]⟩
 (.test (c)
 (iB)
 (.call ⟨56,(bQ M),[],.p (.ps n 1 ns),[]⟩
 (.call ⟨55,[.p (.ps n 1 ns),.fn (aeD 66) [] []],[],.p (.sc (.bool d)),[]⟩
 (.test (d)
 (iB)
 (.call ⟨68,[.p (.ps M.cN.length 3 (adw aS M.cN)),.fn (aeD 69) [] []],[],.p (.sc (.bool e)),[]⟩
 (.test (e)
 (iB)
 (.call ⟨68,[.p (.ps M.cL.length 3 (adw aS M.cL)),.fn (aeD 71) [] []],[],.p (.sc (.bool f)),[]⟩
 (.test (f)
 (iB)
 (.call ⟨72,[.p (.ps M.exs.length 3 (adw aV M.exs)),.fn (aeD 73) [] []],[],.p (.sc (.bool g)),[]⟩
 (.test (g)
 (iB)
 (.test (!M.st)
 (.test (M.sn != 0)
 (iB)
 (.call ⟨54,[.agg (adP AV.p M.aH),sI .i64 2],[],sI .i64 r,[]⟩
 (.out (.ret (sI .i64 r) []))))
 (.call ⟨54,[.agg (adP AV.p M.aH),sI .i64 2],[],sI .i64 r,[]⟩
 (.out (.ret (sI .i64 r) [])))))))))))))))))))
theorem RW (M:Mo) (a:Bool) (b:Bool) (c:Bool) (d:Bool) (e:Bool) (f:Bool) (g:Bool) (n:Nat) (ns:List PV) (r:Int):aE aeB env aaZ 1000000 29 ([AV.agg (adP AV.p M.aH)]) ([]) (adE M a b c d e f g n ns r)=Mr M a b c d e f g n ns r:=by kernel_rfl
theorem NV (M:Mo) (a b c:Int):aE aeB env (aJ (mcC M a b c) av [] [(12,0,2)] []) 1000000 12 ([AV.agg (adP AV.p M.aH)]) ([]) (.fin) =
(.call ⟨27,(bQ M),[],sI .i64 a,[]⟩
 (.test (a != 0)
 (.out (.ret (sI .i64 a) []))
 (.call ⟨28,(bQ M),[],sI .i64 b,[]⟩
 (.test (b != 0)
 (.out (.ret (sI .i64 b) []))
 (.call ⟨29,(bQ M),[],sI .i64 c,[]⟩
 (.test (c != 0)
 (.out (.ret (sI .i64 c) []))
 (.out (.ret (sI .i64 0) [])))))))):=by kernel_rfl
def lY {α:Type} (p:α→Bool):List α→Nat→Int
 |[],_=> -1
 |x::r,i=>if p x=true then i else lY p r (i+1)
theorem lu {α:Type} (p:α→Bool) : ∀(l:List α) (i:Nat),decide (lY p l i≥0)=l.any p
 |[],_=>rfl
 |x::r,i=>by
  cases h:p x with
  |true=>simp[lY,h]
  |false=>simp only[lY,h,aew,xo];exact lu p r (i+1)
theorem mH {α:Type} {l:List α} {p:α→Bool} {D:Nat→cw}
  (step : ∀(i:Nat) (x:α) (o:Out),l[i]? = some x→(p x=true→Out.ret (sI .i64 i) []=o)→(p x=false→bp aeB env (D (i+1)) o)→bp aeB env (D i) o)
  (fin:bp aeB env (D l.length) (.ret (sI .i64 (-1)) [])) :
  ∀(r i:Nat),i+r=l.length→bp aeB env (D i) (.ret (sI .i64 (lY p (l.drop i) i)) []):=by
 intro r
 induction r with
 |zero=>
  intro i hi
  obtain rfl:i=l.length:=by omega
  rw[aes]
  exact fin
 |succ r ih=>
  intro i hi
  have hl:i<l.length:=by omega
  rw[aeo hl]
  refine step i l[i] _ (df hl) (fun q=> ?_) fun q=> ?_
  · simp only[lY,q,if_true]
  · simp only[lY,q,pD,if_false]
    exact ih (i+1) (by omega)
abbrev eF (s:ByteArray):List PV:=[.sc (.string s)]
abbrev HW (l:List Ins):List PV:=[pL l]
theorem RX (l:List El) (hl:l.length≤10000000) (p:El→Bool) (hp : ∀x∈l,an aeB env 53 [(.agg ((aT x).map .p))] [] (sB (p x)) []) :
  an aeB env 105 [.p (.ps l.length 2 (l.flatMap aT)),.fn (.func 53) [] []] [] (sI .i64 (lY p l 0)) []:=by
 refine aa aI (NM l.length (l.flatMap aT)) ?_
 refine mH (l:=l) (p:=p) (D:=fun i=>ah aeB env 105 0 [.p (.ps l.length 2 (l.flatMap aT)),.fn (.func 53) [] [],sI .i64 l.length,sI .i64 i] [] 0 19) ?_ ?_ l.length 0 (by omega)
 · intro i x o hx h1 h2
   have hi:i<l.length:=(dt.1 hx).1
   have c:=aQ (z:=2) (enc:=aT) (fun _=>rfl) hx
   have c0:(l.flatMap aT).getD (i*2) .aU=pL x.l:=c 0 (by decide)
   have c1:(l.flatMap aT).getD (i*2+1) .aU=pT .u32 x.fs:=c 1 (by decide)
   have w:=fk i (by omega)
   have hd:decide ((i:Int)<(l.length:Int))=true:=by simp;omega
   refine af aI (HL l.length i (l.flatMap aT) (p x)) ?_
   simp only[bh,bA,kC,br,aG.ok,isStr,isInt,aX,isBool,aY,au,aW,aq,aK,aj,bE,aeL,c0,c1,hd,w]
   exact⟨fun _=>⟨by first | (simp;done) | (simp;omega),rfl,hp x (mf hx),h1,h2⟩,fun q=>(by cases q)⟩
 · have hd:decide ((l.length:Int)<(l.length:Int))=false:=by simp
   refine af aI (HL l.length l.length (l.flatMap aT) true) ?_
   simp only[bh,bA,kC,br,aG.ok,hd]
   exact⟨nofun,fun _=>trivial⟩
theorem RY (l:List El) (hl:l.length≤10000000) (p:El→Bool) (hp : ∀x∈l,an aeB env 53 [(.agg ((aT x).map .p))] [] (sB (p x)) []) :
  an aeB env 52 [.p (.ps l.length 2 (l.flatMap aT)),.fn (.func 53) [] []] [] (sB (l.any p)) []:=by
 refine aa aI (Rz l.length (l.flatMap aT) (lY p l 0)) ?_
 simp only[aG.ok,lu]
 exact⟨RX l hl p hp,trivial⟩
theorem RZ (l:List ByteArray) (hl:l.length≤10000000) (p:ByteArray→Bool) (hp : ∀x∈l,an aeB env 57 [(.p (.sc (.string x)))] [] (sB (p x)) []) :
  an aeB env 107 [.p (.ps l.length 1 (l.flatMap eF)),.fn (.func 57) [] []] [] (sI .i64 (lY p l 0)) []:=by
 refine aa aI (NN l.length (l.flatMap eF)) ?_
 refine mH (l:=l) (p:=p) (D:=fun i=>ah aeB env 107 0 [.p (.ps l.length 1 (l.flatMap eF)),.fn (.func 57) [] [],sI .i64 l.length,sI .i64 i] [] 0 19) ?_ ?_ l.length 0 (by omega)
 · intro i x o hx h1 h2
   have hi:i<l.length:=(dt.1 hx).1
   have c:=aQ (z:=1) (enc:=eF) (fun _=>rfl) hx
   have c0:(l.flatMap eF).getD (i*1) .aU = .sc (.string x):=c 0 (by decide)
   have w:=fk i (by omega)
   have hd:decide ((i:Int)<(l.length:Int))=true:=by simp;omega
   refine af aI (HM l.length i (l.flatMap eF) (p x)) ?_
   simp only[bh,bA,br,aG.ok,isStr,isInt,aX,isBool,aY,au,aW,aq,aK,aj,bE,aeL,c0,hd,w]
   exact⟨fun _=>⟨by first | (simp;done) | (simp;omega),rfl,hp x (mf hx),h1,h2⟩,fun q=>(by cases q)⟩
 · have hd:decide ((l.length:Int)<(l.length:Int))=false:=by simp
   refine af aI (HM l.length l.length (l.flatMap eF) true) ?_
   simp only[bh,bA,br,aG.ok,hd]
   exact⟨nofun,fun _=>trivial⟩
theorem R0 (l:List ByteArray) (hl:l.length≤10000000) (p:ByteArray→Bool) (hp : ∀x∈l,an aeB env 57 [(.p (.sc (.string x)))] [] (sB (p x)) []) :
  an aeB env 55 [.p (.ps l.length 1 (l.flatMap eF)),.fn (.func 57) [] []] [] (sB (l.any p)) []:=by
 refine aa aI (RA l.length (l.flatMap eF) (lY p l 0)) ?_
 simp only[aG.ok,lu]
 exact⟨RZ l hl p hp,trivial⟩
theorem R8 (l:List ByteArray) (hl:l.length≤10000000) (p:ByteArray→Bool) (hp : ∀x∈l,an aeB env 66 [(.p (.sc (.string x)))] [] (sB (p x)) []) :
  an aeB env 107 [.p (.ps l.length 1 (l.flatMap eF)),.fn (.func 66) [] []] [] (sI .i64 (lY p l 0)) []:=by
 refine aa aI (NO l.length (l.flatMap eF)) ?_
 refine mH (l:=l) (p:=p) (D:=fun i=>ah aeB env 107 0 [.p (.ps l.length 1 (l.flatMap eF)),.fn (.func 66) [] [],sI .i64 l.length,sI .i64 i] [] 0 19) ?_ ?_ l.length 0 (by omega)
 · intro i x o hx h1 h2
   have hi:i<l.length:=(dt.1 hx).1
   have c:=aQ (z:=1) (enc:=eF) (fun _=>rfl) hx
   have c0:(l.flatMap eF).getD (i*1) .aU = .sc (.string x):=c 0 (by decide)
   have w:=fk i (by omega)
   have hd:decide ((i:Int)<(l.length:Int))=true:=by simp;omega
   refine af aI (HN l.length i (l.flatMap eF) (p x)) ?_
   simp only[bh,bA,br,aG.ok,isStr,isInt,aX,isBool,aY,au,aW,aq,aK,aj,bE,aeL,c0,hd,w]
   exact⟨fun _=>⟨by first | (simp;done) | (simp;omega),rfl,hp x (mf hx),h1,h2⟩,fun q=>(by cases q)⟩
 · have hd:decide ((l.length:Int)<(l.length:Int))=false:=by simp
   refine af aI (HN l.length l.length (l.flatMap eF) true) ?_
   simp only[bh,bA,br,aG.ok,hd]
   exact⟨nofun,fun _=>trivial⟩
theorem R9 (l:List ByteArray) (hl:l.length≤10000000) (p:ByteArray→Bool) (hp : ∀x∈l,an aeB env 66 [(.p (.sc (.string x)))] [] (sB (p x)) []) :
  an aeB env 55 [.p (.ps l.length 1 (l.flatMap eF)),.fn (.func 66) [] []] [] (sB (l.any p)) []:=by
 refine aa aI (RB l.length (l.flatMap eF) (lY p l 0)) ?_
 simp only[aG.ok,lu]
 exact⟨R8 l hl p hp,trivial⟩
theorem Sa (l:List Ty) (hl:l.length≤10000000) (p:Ty→Bool) (hp : ∀x∈l,an aeB env 59 [(.agg ((bB x).map .p))] [] (sB (p x)) []) :
  an aeB env 108 [.p (.ps l.length 2 (l.flatMap bB)),.fn (.func 59) [] []] [] (sI .i64 (lY p l 0)) []:=by
 refine aa aI (NP l.length (l.flatMap bB)) ?_
 refine mH (l:=l) (p:=p) (D:=fun i=>ah aeB env 108 0 [.p (.ps l.length 2 (l.flatMap bB)),.fn (.func 59) [] [],sI .i64 l.length,sI .i64 i] [] 0 19) ?_ ?_ l.length 0 (by omega)
 · intro i x o hx h1 h2
   have hi:i<l.length:=(dt.1 hx).1
   have c:=aQ (z:=2) (enc:=bB) (fun _=>rfl) hx
   have c0:(l.flatMap bB).getD (i*2) .aU = .sc (.int .i64 x.p):=c 0 (by decide)
   have c1:(l.flatMap bB).getD (i*2+1) .aU = .sc (.int .i64 x.r):=c 1 (by decide)
   have w:=fk i (by omega)
   have hd:decide ((i:Int)<(l.length:Int))=true:=by simp;omega
   refine af aI (HO l.length i (l.flatMap bB) (p x)) ?_
   simp only[bh,bA,br,aG.ok,isStr,isInt,aX,isBool,aY,au,aW,aq,aK,aj,bE,aeL,c0,c1,hd,w]
   exact⟨fun _=>⟨by first | (simp;done) | (simp;omega),rfl,hp x (mf hx),h1,h2⟩,fun q=>(by cases q)⟩
 · have hd:decide ((l.length:Int)<(l.length:Int))=false:=by simp
   refine af aI (HO l.length l.length (l.flatMap bB) true) ?_
   simp only[bh,bA,br,aG.ok,hd]
   exact⟨nofun,fun _=>trivial⟩
theorem Sb (l:List Ty) (hl:l.length≤10000000) (p:Ty→Bool) (hp : ∀x∈l,an aeB env 59 [(.agg ((bB x).map .p))] [] (sB (p x)) []) :
  an aeB env 58 [.p (.ps l.length 2 (l.flatMap bB)),.fn (.func 59) [] []] [] (sB (l.any p)) []:=by
 refine aa aI (RC l.length (l.flatMap bB) (lY p l 0)) ?_
 simp only[aG.ok,lu]
 exact⟨Sa l hl p hp,trivial⟩
theorem Sd (l:List Im) (hl:l.length≤10000000) (p:Im→Bool) (hp : ∀x∈l,an aeB env 62 [(.agg ((bg x).map .p))] [] (sB (p x)) []) :
  an aeB env 109 [.p (.ps l.length 3 (l.flatMap bg)),.fn (.func 62) [] []] [] (sI .i64 (lY p l 0)) []:=by
 refine aa aI (NQ l.length (l.flatMap bg)) ?_
 refine mH (l:=l) (p:=p) (D:=fun i=>ah aeB env 109 0 [.p (.ps l.length 3 (l.flatMap bg)),.fn (.func 62) [] [],sI .i64 l.length,sI .i64 i] [] 0 19) ?_ ?_ l.length 0 (by omega)
 · intro i x o hx h1 h2
   have hi:i<l.length:=(dt.1 hx).1
   have c:=aQ (z:=3) (enc:=bg) (fun _=>rfl) hx
   have c0:(l.flatMap bg).getD (i*3) .aU = .sc (.string x.mo):=c 0 (by decide)
   have c1:(l.flatMap bg).getD (i*3+1) .aU = .sc (.string x.nm):=c 1 (by decide)
   have c2:(l.flatMap bg).getD (i*3+1+1) .aU = .sc (.int .i64 x.ty):=c 2 (by decide)
   have w:=fk i (by omega)
   have hd:decide ((i:Int)<(l.length:Int))=true:=by simp;omega
   refine af aI (HP l.length i (l.flatMap bg) (p x)) ?_
   simp only[bh,bA,wo,br,aG.ok,isStr,isInt,aX,isBool,aY,au,aW,aq,aK,aj,bE,aeL,c0,c1,c2,hd,w]
   exact⟨fun _=>⟨by first | (simp;done) | (simp;omega),rfl,hp x (mf hx),h1,h2⟩,fun q=>(by cases q)⟩
 · have hd:decide ((l.length:Int)<(l.length:Int))=false:=by simp
   refine af aI (HP l.length l.length (l.flatMap bg) true) ?_
   simp only[bh,bA,wo,br,aG.ok,hd]
   exact⟨nofun,fun _=>trivial⟩
theorem Se (l:List Im) (hl:l.length≤10000000) (p:Im→Bool) (hp : ∀x∈l,an aeB env 62 [(.agg ((bg x).map .p))] [] (sB (p x)) []) :
  an aeB env 61 [.p (.ps l.length 3 (l.flatMap bg)),.fn (.func 62) [] []] [] (sB (l.any p)) []:=by
 refine aa aI (RD l.length (l.flatMap bg) (lY p l 0)) ?_
 simp only[aG.ok,lu]
 exact⟨Sd l hl p hp,trivial⟩
theorem Sf (l:List Fu) (hl:l.length≤10000000) (p:Fu→Bool) (hp : ∀x∈l,an aeB env 65 [(.agg ((aM x).map .p))] [] (sB (p x)) []) :
  an aeB env 110 [.p (.ps l.length 3 (l.flatMap aM)),.fn (.func 65) [] []] [] (sI .i64 (lY p l 0)) []:=by
 refine aa aI (NR l.length (l.flatMap aM)) ?_
 refine mH (l:=l) (p:=p) (D:=fun i=>ah aeB env 110 0 [.p (.ps l.length 3 (l.flatMap aM)),.fn (.func 65) [] [],sI .i64 l.length,sI .i64 i] [] 0 19) ?_ ?_ l.length 0 (by omega)
 · intro i x o hx h1 h2
   have hi:i<l.length:=(dt.1 hx).1
   have c:=aQ (z:=3) (enc:=aM) (fun _=>rfl) hx
   have c0:(l.flatMap aM).getD (i*3) .aU = .sc (.int .i64 x.ty):=c 0 (by decide)
   have c1:(l.flatMap aM).getD (i*3+1) .aU = .sc (.int .i64 x.lo):=c 1 (by decide)
   have c2:(l.flatMap aM).getD (i*3+1+1) .aU=pL x.l:=c 2 (by decide)
   have w:=fk i (by omega)
   have hd:decide ((i:Int)<(l.length:Int))=true:=by simp;omega
   refine af aI (HQ l.length i (l.flatMap aM) (p x)) ?_
   simp only[bh,bA,wu,br,aG.ok,isStr,isInt,aX,isBool,aY,au,aW,aq,aK,aj,bE,aeL,c0,c1,c2,hd,w]
   exact⟨fun _=>⟨by first | (simp;done) | (simp;omega),rfl,hp x (mf hx),h1,h2⟩,fun q=>(by cases q)⟩
 · have hd:decide ((l.length:Int)<(l.length:Int))=false:=by simp
   refine af aI (HQ l.length l.length (l.flatMap aM) true) ?_
   simp only[bh,bA,wu,br,aG.ok,hd]
   exact⟨nofun,fun _=>trivial⟩
theorem Sg (l:List Fu) (hl:l.length≤10000000) (p:Fu→Bool) (hp : ∀x∈l,an aeB env 65 [(.agg ((aM x).map .p))] [] (sB (p x)) []) :
  an aeB env 64 [.p (.ps l.length 3 (l.flatMap aM)),.fn (.func 65) [] []] [] (sB (l.any p)) []:=by
 refine aa aI (RE l.length (l.flatMap aM) (lY p l 0)) ?_
 simp only[aG.ok,lu]
 exact⟨Sf l hl p hp,trivial⟩
theorem Sh (l:List Li) (hl:l.length≤10000000) (p:Li→Bool) (hp : ∀x∈l,an aeB env 69 [(.agg ((aS x).map .p))] [] (sB (p x)) []) :
  an aeB env 112 [.p (.ps l.length 3 (l.flatMap aS)),.fn (.func 69) [] []] [] (sI .i64 (lY p l 0)) []:=by
 refine aa aI (NS l.length (l.flatMap aS)) ?_
 refine mH (l:=l) (p:=p) (D:=fun i=>ah aeB env 112 0 [.p (.ps l.length 3 (l.flatMap aS)),.fn (.func 69) [] [],sI .i64 l.length,sI .i64 i] [] 0 19) ?_ ?_ l.length 0 (by omega)
 · intro i x o hx h1 h2
   have hi:i<l.length:=(dt.1 hx).1
   have c:=aQ (z:=3) (enc:=aS) (fun _=>rfl) hx
   have c0:(l.flatMap aS).getD (i*3) .aU = .sc (.int .u32 x.mn):=c 0 (by decide)
   have c1:(l.flatMap aS).getD (i*3+1) .aU = .sc (.int .u32 x.mx):=c 1 (by decide)
   have c2:(l.flatMap aS).getD (i*3+1+1) .aU = .sc (.bool x.cap):=c 2 (by decide)
   have w:=fk i (by omega)
   have hd:decide ((i:Int)<(l.length:Int))=true:=by simp;omega
   refine af aI (HR l.length i (l.flatMap aS) (p x)) ?_
   simp only[bh,bA,yd,yc,br,aG.ok,isStr,isInt,aX,isBool,aY,au,aW,aq,aK,aj,bE,aeL,c0,c1,c2,hd,w]
   exact⟨fun _=>⟨by first | (simp;done) | (simp;omega),rfl,hp x (mf hx),h1,h2⟩,fun q=>(by cases q)⟩
 · have hd:decide ((l.length:Int)<(l.length:Int))=false:=by simp
   refine af aI (HR l.length l.length (l.flatMap aS) true) ?_
   simp only[bh,bA,yd,yc,br,aG.ok,hd]
   exact⟨nofun,fun _=>trivial⟩
theorem Si (l:List Li) (hl:l.length≤10000000) (p:Li→Bool) (hp : ∀x∈l,an aeB env 69 [(.agg ((aS x).map .p))] [] (sB (p x)) []) :
  an aeB env 68 [.p (.ps l.length 3 (l.flatMap aS)),.fn (.func 69) [] []] [] (sB (l.any p)) []:=by
 refine aa aI (RF l.length (l.flatMap aS) (lY p l 0)) ?_
 simp only[aG.ok,lu]
 exact⟨Sh l hl p hp,trivial⟩
theorem Sj (l:List Li) (hl:l.length≤10000000) (p:Li→Bool) (hp : ∀x∈l,an aeB env 71 [(.agg ((aS x).map .p))] [] (sB (p x)) []) :
  an aeB env 112 [.p (.ps l.length 3 (l.flatMap aS)),.fn (.func 71) [] []] [] (sI .i64 (lY p l 0)) []:=by
 refine aa aI (NT l.length (l.flatMap aS)) ?_
 refine mH (l:=l) (p:=p) (D:=fun i=>ah aeB env 112 0 [.p (.ps l.length 3 (l.flatMap aS)),.fn (.func 71) [] [],sI .i64 l.length,sI .i64 i] [] 0 19) ?_ ?_ l.length 0 (by omega)
 · intro i x o hx h1 h2
   have hi:i<l.length:=(dt.1 hx).1
   have c:=aQ (z:=3) (enc:=aS) (fun _=>rfl) hx
   have c0:(l.flatMap aS).getD (i*3) .aU = .sc (.int .u32 x.mn):=c 0 (by decide)
   have c1:(l.flatMap aS).getD (i*3+1) .aU = .sc (.int .u32 x.mx):=c 1 (by decide)
   have c2:(l.flatMap aS).getD (i*3+1+1) .aU = .sc (.bool x.cap):=c 2 (by decide)
   have w:=fk i (by omega)
   have hd:decide ((i:Int)<(l.length:Int))=true:=by simp;omega
   refine af aI (HS l.length i (l.flatMap aS) (p x)) ?_
   simp only[bh,bA,yd,yc,br,aG.ok,isStr,isInt,aX,isBool,aY,au,aW,aq,aK,aj,bE,aeL,c0,c1,c2,hd,w]
   exact⟨fun _=>⟨by first | (simp;done) | (simp;omega),rfl,hp x (mf hx),h1,h2⟩,fun q=>(by cases q)⟩
 · have hd:decide ((l.length:Int)<(l.length:Int))=false:=by simp
   refine af aI (HS l.length l.length (l.flatMap aS) true) ?_
   simp only[bh,bA,yd,yc,br,aG.ok,hd]
   exact⟨nofun,fun _=>trivial⟩
theorem Sk (l:List Li) (hl:l.length≤10000000) (p:Li→Bool) (hp : ∀x∈l,an aeB env 71 [(.agg ((aS x).map .p))] [] (sB (p x)) []) :
  an aeB env 68 [.p (.ps l.length 3 (l.flatMap aS)),.fn (.func 71) [] []] [] (sB (l.any p)) []:=by
 refine aa aI (RG l.length (l.flatMap aS) (lY p l 0)) ?_
 simp only[aG.ok,lu]
 exact⟨Sj l hl p hp,trivial⟩
theorem Sl (l:List Ex) (hl:l.length≤10000000) (p:Ex→Bool) (hp : ∀x∈l,an aeB env 73 [(.agg ((aV x).map .p))] [] (sB (p x)) []) :
  an aeB env 25 [.p (.ps l.length 3 (l.flatMap aV)),.fn (.func 73) [] []] [] (sI .i64 (lY p l 0)) []:=by
 refine aa aI (NU l.length (l.flatMap aV)) ?_
 refine mH (l:=l) (p:=p) (D:=fun i=>ah aeB env 25 0 [.p (.ps l.length 3 (l.flatMap aV)),.fn (.func 73) [] [],sI .i64 l.length,sI .i64 i] [] 0 19) ?_ ?_ l.length 0 (by omega)
 · intro i x o hx h1 h2
   have hi:i<l.length:=(dt.1 hx).1
   have c:=aQ (z:=3) (enc:=aV) (fun _=>rfl) hx
   have c0:(l.flatMap aV).getD (i*3) .aU = .sc (.string x.nm):=c 0 (by decide)
   have c1:(l.flatMap aV).getD (i*3+1) .aU = .sc (.int .i64 x.kind):=c 1 (by decide)
   have c2:(l.flatMap aV).getD (i*3+1+1) .aU = .sc (.int .u32 x.ix):=c 2 (by decide)
   have w:=fk i (by omega)
   have hd:decide ((i:Int)<(l.length:Int))=true:=by simp;omega
   refine af aI (HT l.length i (l.flatMap aV) (p x)) ?_
   simp only[bh,bA,wq,br,aG.ok,isStr,isInt,aX,isBool,aY,au,aW,aq,aK,aj,bE,aeL,c0,c1,c2,hd,w]
   exact⟨fun _=>⟨by first | (simp;done) | (simp;omega),rfl,hp x (mf hx),h1,h2⟩,fun q=>(by cases q)⟩
 · have hd:decide ((l.length:Int)<(l.length:Int))=false:=by simp
   refine af aI (HT l.length l.length (l.flatMap aV) true) ?_
   simp only[bh,bA,wq,br,aG.ok,hd]
   exact⟨nofun,fun _=>trivial⟩
theorem Sm (l:List Ex) (hl:l.length≤10000000) (p:Ex→Bool) (hp : ∀x∈l,an aeB env 73 [(.agg ((aV x).map .p))] [] (sB (p x)) []) :
  an aeB env 72 [.p (.ps l.length 3 (l.flatMap aV)),.fn (.func 73) [] []] [] (sB (l.any p)) []:=by
 refine aa aI (RH l.length (l.flatMap aV) (lY p l 0)) ?_
 simp only[aG.ok,lu]
 exact⟨Sl l hl p hp,trivial⟩
def NW (x:Ty):Int:=if 0≤x.p∧x.p≤255∧0≤x.r∧x.r≤1 then 0 else 2
def W7 (most:Int) (x:Li):Int:=if x.mn>most∨(x.cap=true∧(x.mx<x.mn∨x.mx>most))∨(x.cap=false∧x.mx≠0) then 2 else 0
theorem Sn (x:Ty):an aeB env 60 [.agg ((bB x).map .p)] [] (sI .i64 (NW x)) []:=by
 refine aa aI (RI x.p x.r) ?_
 simp only[aG.ok,cond_true,cond_false,aeN]
 refine⟨fun q=> ?_,fun q=> ?_⟩
 · simp only[ka,Bool.and_eq_false_iff,beq_eq_false_iff_ne,ne_eq] at q
   rw[NW,if_neg (by omega)]
 · simp only[Bool.not_eq_false',jn,beq_iff_eq] at q
   rw[NW,if_pos (by omega)]
theorem HX (x:Li) (most:Int):an aeB env 70 [.agg ((aS x).map .p),sI .u32 most] [] (sI .i64 (W7 most x)) []:=by
 refine aa aI (RJ x.mn x.mx x.cap most) ?_
 obtain⟨mn,mx,cap⟩:=x
 simp only[aG.ok,W7]
 cases cap with
 |true=>
  refine⟨fun q=> ?_,fun q=>⟨fun _=>⟨fun r=> ?_,fun r=>⟨fun t=> ?_,fun t=>⟨rfl,?_⟩⟩⟩,fun r=>(by cases r)⟩⟩<;>simp only[decide_eq_true_eq,decide_eq_false_iff_not] at *
  · rw[if_pos (.inl q)]
  · rw[if_pos (.inr (.inl ⟨trivial,.inl r⟩))]
  · rw[if_pos (.inr (.inl ⟨trivial,.inr t⟩))]
  · rw[if_neg (by simp;omega)]
 |false=>
  refine⟨fun q=> ?_,fun q=>⟨fun r=>(by cases r),fun _=>⟨rfl,fun r=> ?_,fun r=> ?_⟩⟩⟩
  · simp only[decide_eq_true_eq] at q
    rw[if_pos (.inl q)]
  · rw[if_pos (.inr (.inr ⟨rfl,by simpa using r⟩))]
  · simp only[decide_eq_false_iff_not] at q
    have r:mx=0:=by simpa using r
    rw[if_neg (by simp[r];omega)]
def DY (x:El):Bool:=decide ((x.fs.length:Int)>16384)
def DZ (s:ByteArray):Bool:=decide ((s.data.toList.length:Int)>1000)
def yf (x:Ty):Bool:=NW x != 0
def uQ (x:Im):Bool:= !(decide (0≤x.ty)&&decide (x.ty≤2147483647))
def tN (x:Fu):Bool:= !(decide (0≤x.ty)&&decide (x.ty≤2147483647))||decide (x.lo<0)||decide (x.lo>50000)
def mI (most:Int) (x:Li):Bool:=W7 most x != 0
def uR (x:Ex):Bool:=decide (x.kind<0)||decide (x.kind>3)
theorem So (x:El):an aeB env 53 [.agg ((aT x).map .p)] [] (sB (DY x)) []:=aa aI (RK x) rfl
theorem Sp (s:ByteArray):an aeB env 57 [.p (.sc (.string s))] [] (sB (DZ s)) []:=aa aI (RL s) rfl
theorem Sq (x:Ty):an aeB env 59 [.agg ((bB x).map .p)] [] (sB (yf x)) []:=aa aI (RN x (NW x)) ⟨Sn x,rfl⟩
theorem Sr (x:Li):an aeB env 69 [.agg ((aS x).map .p)] [] (sB (mI 1048576 x)) []:=aa aI (RP x (W7 1048576 x)) ⟨HX x _,rfl⟩
theorem Ss (x:Li):an aeB env 71 [.agg ((aS x).map .p)] [] (sB (mI 65536 x)) []:=aa aI (RQ x (W7 65536 x)) ⟨HX x _,rfl⟩
theorem Su (x:Im):an aeB env 62 [.agg ((bg x).map .p)] [] (sB (uQ x)) []:=by
 refine aa aI (RO x) ?_
 simp only[br,aG.ok,uQ,ge_iff_le]
 exact⟨fun q=>by rw[q,aeO],fun q=>by rw[q];rfl⟩
theorem Sv (x:Ex):an aeB env 73 [.agg ((aV x).map .p)] [] (sB (uR x)) []:=by
 refine aa aI (RR x) ?_
 simp only[br,aG.ok,uR]
 exact⟨fun q=>by rw[q];rfl,fun q=>by rw[q,xo]⟩
theorem Sw (x:Fu):an aeB env 65 [.agg ((aM x).map .p)] [] (sB (tN x)) []:=by
 refine aa aI (RS x) ?_
 simp only[br,aG.ok,tN,ge_iff_le]
 refine⟨fun q=>⟨fun r=> ?_,fun r=>⟨fun t=> ?_,fun t=> ?_⟩⟩,fun q=> ?_⟩
 · rw[q,aeO,r];rfl
 · rw[q,aeO,r,t];rfl
 · rw[q,aeO,r,t];rfl
 · rw[q];rfl
def qP (M:Mo):List ByteArray:=M.aP.flatMap (fun x=>[x.mo,x.nm])++M.exs.map Ex.nm
def Aj (M:Mo):List (List Ins):=M.fns.map Fu.l++M.gls.map Gl.l++M.els.map El.l++M.bw.map Da.l
theorem oX {α β:Type} {f:α→β} {g:β→List PV} : ∀l:List α,(l.map f).flatMap g=l.flatMap fun x=>g (f x)
 |[]=>rfl
 |x::r=>by rw[mi,adY,adY,oX r]
theorem Ms : ∀l:List Im,(l.flatMap fun x=>[x.mo,x.nm]).flatMap eF=l.flatMap Nt
 |[]=>rfl
 |x::r=>by rw[adY,adY,aeq,Ms r];rfl
theorem F9 (M:Mo):Ri M=(qP M).flatMap eF:=by
 rw[qP,aeq,oX,Ms];rfl
theorem Mt (M:Mo):W0 M=(Aj M).flatMap HW:=by
 rw[Aj,aeq,aeq,aeq,oX,oX,oX,oX];rfl
theorem Ga (M:Mo):(Ri M).length=(qP M).length:=by rw[F9,gG (n:=1) (fun _=>rfl),aez]
theorem W8 (M:Mo):(W0 M).length=(Aj M).length:=by rw[Mt,gG (n:=1) (fun _=>rfl),aez]
theorem yg {M:Mo} (hM:M.fit):(qP M).length≤10000000:=by
 have h1:=hM.aP;have h2:=hM.exs
 have l1:=gG (f:=Nt) (n:=2) (fun _=>rfl) M.aP
 have l2:=gG (f:=V2) (n:=1) (fun _=>rfl) M.exs
 rw[←Ga,Ri,du];omega
theorem aa0 {M:Mo} (hM:M.fit):(Aj M).length≤10000000:=by
 have h1:=hM.fns;have h2:=hM.gls;have h3:=hM.els;have h4:=hM.bw
 simp only[Aj,du,ov];omega
theorem Sx (M:Mo) (hM:M.fit):an aeB env 56 [.agg (M.aH.map .p)] [] (.p (.ps (qP M).length 1 ((qP M).flatMap eF))) []:=by
 have h:=Kt M hM
 rw[Ga,F9] at h
 exact h
theorem aa1 (M:Mo) (hM:M.fit):an aeB env 34 [.agg (M.aH.map .p)] [] (.p (.ps (Aj M).length 1 ((Aj M).flatMap HW))) []:=by
 have h:=Ku M hM
 rw[W8,Mt] at h
 exact h
def _root_.Go.Am.Mo.rY (M:Mo):Prop:= ∀l∈Aj M,bF l≤100000000000
def iC (M:Mo) (e:Int):Bool:=(Aj M).any fun l=>cT je l==e
theorem W9 {l:List (List Ins)} {e:Int} (hl:l.length≤10000000) (hs : ∀x∈l,bF x≤100000000000) : ∀(r i:Nat),i+r=l.length →
  bp aeB env (ah aeB env 54 0 [sI .i64 e,.p (.ps l.length 1 (l.flatMap HW)),sI .i64 l.length,sI .i64 i] [] 0 20) (.ret (sI .i64 (if(l.drop i).any (fun x=>cT je x==e)=true then e else 0)) []):=by
 intro r
 induction r with
 |zero=>
  intro i hi
  obtain rfl:i=l.length:=by omega
  have hd:decide ((l.length:Int)<(l.length:Int))=false:=by simp
  refine af aI (HU e l.length l.length (l.flatMap HW) 0) ?_
  simp only[bh,bA,br,aG.ok,hd,aes]
  exact⟨nofun,fun _=>rfl⟩
 |succ r ih=>
  intro i hi
  have Cq:i<l.length:=by omega
  have hx:=df Cq
  have hm:l[i]∈l:=List.getElem_mem Cq
  rw[aeo Cq,aew]
  generalize l[i]=x at *
  have c:=aQ (z:=1) (enc:=HW) (fun _=>rfl) hx
  have c0:(l.flatMap HW).getD (i*1) .aU=pL x:=c 0 (by decide)
  have w:=fk i (by omega)
  have hd:decide ((i:Int)<(l.length:Int))=true:=by simp;omega
  refine af aI (HU e l.length i (l.flatMap HW) (cT je x)) ?_
  simp only[bh,bA,br,aG.ok,aX,aq,aK,aj,bE,aeL,c0,hd,w]
  refine⟨fun _=>⟨by first | (simp;done) | (simp;omega),rfl,BJ DX x (hs x hm),fun q=> ?_,fun q=> ?_⟩,fun q=>(by cases q)⟩
  · rw[q,Bool.true_or,if_pos rfl]
  · rw[q,xo]
    exact ih (i+1) (by omega)
theorem zz (M:Mo) (hM:M.fit) (hs:M.rY) (e:Int):an aeB env 54 [.agg (M.aH.map .p),sI .i64 e] [] (sI .i64 (if iC M e=true then e else 0)) []:=by
 refine aa aI (RT M e (Aj M).length ((Aj M).flatMap HW)) ?_
 exact⟨aa1 M hM,W9 (aa0 hM) hs (Aj M).length 0 (by omega)⟩
def oY:Int→List Da→Int
 |n,[]=>n
 |n,x::r=>oY (n-min (x.bs.length:Int) (n+1)) r
def gy (M:Mo):Bool:=(qP M).any DZ
def D0 (M:Mo):Int:=if oY 1048576 M.bw<0∨gy M=true then 3 else 0
theorem Xa (M:Mo) (hM:M.fit) : ∀(r i:Nat) (n:Int),i+r=M.bw.length → -1≤n→n≤1048576 →
  bp aeB env (ah aeB env 28 0 [.mp 0 0,sI .i64 n,.p (.ps M.bw.length 2 (M.bw.flatMap bz)),sI .i64 M.bw.length,sI .i64 i] [.pc M.aH] 0 29) (.ret (sI .i64 (if oY n (M.bw.drop i)<0∨gy M=true then 3 else 0)) []):=by
 intro r
 induction r with
 |zero=>
  intro i n hi h1 h2
  obtain rfl:i=M.bw.length:=by omega
  have hd:decide ((M.bw.length:Int)<(M.bw.length:Int))=false:=by simp
  refine af aI (HV M M.bw.length M.bw.length n (M.bw.flatMap bz) (qP M).length ((qP M).flatMap eF) (gy M)) ?_
  simp only[bh,bA,bQ,kC,br,aG.ok,hd,aes,oY]
  refine⟨nofun,fun _=>⟨fun q=> ?_,fun q=>⟨Sx M hM,R0 (qP M) (yg hM) DZ (fun x _=>Sp x),fun t=> ?_,fun t=> ?_⟩⟩⟩<;>simp only[decide_eq_true_eq,decide_eq_false_iff_not] at q
  · rw[if_pos (.inl q)]
  · rw[if_pos (.inr t)]
  · rw[if_neg (by simp[t];omega)]
 |succ r ih=>
  intro i n hi h1 h2
  have hl:=hM.bw
  have Cq:i<M.bw.length:=by omega
  have hx:=df Cq
  rw[aeo Cq]
  generalize M.bw[i]=x at *
  have c:=aQ (z:=2) (enc:=bz) (fun _=>rfl) hx
  have c0:(M.bw.flatMap bz).getD (i*2) .aU=pL x.l:=c 0 (by decide)
  have c1:(M.bw.flatMap bz).getD (i*2+1) .aU=pT .u8 x.bs:=c 1 (by decide)
  have w:=fk i (by omega)
  have w1:tp.wrap (n+1)=n+1:=aZ (by omega) (by omega)
  have w2:tp.wrap (n-min (x.bs.length:Int) (n+1))=n-min (x.bs.length:Int) (n+1):=aZ (by omega) (by omega)
  have hd:decide ((i:Int)<(M.bw.length:Int))=true:=by simp;omega
  refine af aI (HV M M.bw.length i n (M.bw.flatMap bz) 0 [] true) ?_
  simp only[bh,bA,bQ,kC,br,aG.ok,aX,aq,aK,aj,bE,aeL,c0,c1,hd,w,w1,w2,cond_true,oY]
  exact⟨fun _=>⟨by first | (simp;done) | (simp;omega),rfl,ih (i+1) _ (by omega) (by omega) (by omega)⟩,fun q=>(by cases q)⟩
theorem NX (M:Mo) (hM:M.fit):an aeB env 28 [.agg (M.aH.map .p)] [] (sI .i64 (D0 M)) []:=
 aa aI (RU M) (Xa M hM M.bw.length 0 1048576 (by omega) (by omega) (by omega))
def ia (M:Mo):Bool:=decide (M.cN.length>1)||decide (M.cL.length>1)||decide (max (max (max (max (max (max (M.tys.length:Int) M.aP.length) M.fns.length) M.gls.length) M.exs.length) M.els.length) M.bw.length>16384)||M.els.any DY
def BQ (M:Mo):Int:=if ia M=true then 141 else if iC M 141=true then 141 else 0
theorem NY (M:Mo) (hM:M.fit) (hs:M.rY):an aeB env 27 [.agg (M.aH.map .p)] [] (sI .i64 (BQ M)) []:=by
 have hE:=RY M.els (by have:=hM.els;omega) DY (fun x _=>So x)
 refine aa aI (RV M (M.els.any DY) (if iC M 141=true then 141 else 0)) ?_
 have hli:=zz M hM hs 141
 have hF:BQ M=if ia M=true then 141 else if iC M 141=true then 141 else 0:=rfl
 generalize (if iC M 141=true then(141:Int) else 0)=v at hli hF ⊢
 simp only[aG.ok,cond_false,cond_true]
 refine⟨fun q=> ?_,fun q=>⟨fun r=> ?_,fun r=>⟨fun t=> ?_,fun t=>⟨hE,fun u=> ?_,fun u=>⟨hli,?_⟩⟩⟩⟩⟩<;>simp only[decide_eq_true_eq,decide_eq_false_iff_not] at *
 · rw[hF,if_pos (by simp only[ia,j1,decide_eq_true_eq];omega)]
 · rw[hF,if_pos (by simp only[ia,j1,decide_eq_true_eq];omega)]
 · rw[hF,if_pos (by simp only[ia,j1,decide_eq_true_eq];omega)]
 · rw[hF,if_pos (by simp[ia,u])]
 · rw[hF,if_neg (by simp only[ia,u,j1,decide_eq_true_eq,Bool.or_false];omega)]
end Go.Proofs.YtdmmllcjgjmbbaaGreatDoor.N
end
