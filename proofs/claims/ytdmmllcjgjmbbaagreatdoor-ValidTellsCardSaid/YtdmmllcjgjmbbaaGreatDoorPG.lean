import Derived.Test.YtdmmllcjgjmbbaaGreatDoorPF
import Derived.Test.YtdmmllcjgjmbbaaGreatDoorPE
open Nat renaming beq→ai,zero_add→ri,ble_eq→aey,le_refl→aw,sub_zero→acv,reduceAdd→aex,lt_or_ge→be,add_assoc→bm,zero_mul→aeA,mul_one→aez
open List renaming map→adP,getElem?_eq_getElem→df,getD_eq_getElem?_getD→de,length_map→ov,length_append→du,map_append→aer,range'→pw,take_of_length_le→dE,map_take→afQ,getElem?_eq_none→dT,map_cons→mi,map_nil→my,drop_eq_getElem_cons→aeo,getElem_mem→eQ,length_nil→aep,mem_of_getElem?→mf,append_assoc→pa,getElem?_map→en,mem_range'_1→Lk,take_add_one→afZ,take→aeu,all_eq_true→QQ,nil_append→H0,all_append→af0,drop_zero→adr,all_cons→af5,map_map→agl,all_nil→agm,drop→ago
open Go.IntKind renaming i64→tp,u64→ae1,u32→acU,i32→aeY
open Option.some renaming injEq→kb,inj→kc
open Go.Proofs.Tryz renaming prog→aeB
open Option renaming some→aeF,none→aeE
open Go.TypeInfo renaming mk→aeG
open Go.TypeDesc renaming int→agq,bool→agr
open Go.Value renaming int→vd,bool→agu
open Bool renaming and_eq_true→jn,and_true→aeN,not_false→qf,true_and→aeO,not_true→xv,not_eq_true'→ka,false_eq_true→pD,false_and→afc
open Int renaming toNat_natCast→aeL,reduceBEq→agx,eq_ofNat_of_zero_le→agA,le_refl→agB
open And renaming intro→aeX
open True renaming intro→aeQ
noncomputable section
set_option linter.unusedVariables false
set_option linter.unusedSimpArgs false
set_option linter.unusedSectionVars false
section
namespace Go.Proofs.YtdmmllcjgjmbbaaGreatDoor.N
open Go Go.Am
def l9 (s:Int) (e a:Nat→Int):Nat→Nat→Wr
 |0,_=>(0,0,0,0)
 |r+1,i=>if e i≠0 then(e i,s,i,a i) else l9 s e a r (i+1)
theorem qm (s:Int) (e a:Nat→Int) : ∀r i,lV s e a r i=wV (l9 s e a r i)
 |0,_=>rfl
 |r+1,i=>by
  rw[lV,l9]
  split
  · rfl
  · exact qm s e a r (i+1)
theorem Io {s:Int} {e a:Nat→Int} : ∀{r i:Nat},(l9 s e a r i).1=0 ↔ ∀j,i≤j→j<i+r→e j=0
 |0,i=>⟨fun _ j h1 h2=>by omega,fun _=>rfl⟩
 |r+1,i=>by
  rw[l9]
  by_cases h:e i≠0
  · rw[if_pos h]
    exact⟨fun q=>absurd q h,fun q=>q i (aw _) (by omega)⟩
  · rw[if_neg h,Io]
    have h':e i=0:=Decidable.not_not.1 h
    exact⟨fun q j h1 h2=>by
     by_cases e1:j=i
     · rw[e1];exact h'
     · exact q j (by omega) (by omega),fun q j h1 h2=>q j (by omega) (by omega)⟩
def jk (M:Mo) (k:Int):Int:=if k=0 then oZ M else if k=1 then M.cN.length else if k=2 then M.cL.length else M.gls.length
def iy (M:Mo) (l:List Ex) (L:List ByteArray):List ByteArray:=l.foldl (fun L x=>tO L (jk M x.kind) x) L
def vM (M:Mo) (y:Ty) (lo:Int):fS where
 ty a:=(xw M a.toNat).map fun z=>(z.p.toNat,z.r.toNat)
 ind a:=if 0<M.cN.length then(M.tys[a.toNat]?).map fun z=>(z.p.toNat,z.r.toNat) else none
 cX:=M.gls.map Gl.mu
 mem:=decide (0<M.cL.length)
 own:=(y.p+lo).toNat
 ret:=y.r.toNat
def lookW (M:Mo) (n:Nat):Int×Nat:=match M.fns[n]? with
 |none=>(6,0)
 |some x=>match xw M (M.aP.length+n) with
  |none=>(6,0)
  |some y=>wF (vM M y x.lo) x.l
def bO (M:Mo) (d:Nat):Wr:=
 if d=2 then l9 2 (fun i=>(M.aP[i]?).elim 0 fun x=>xq M x.ty) (fun _=>0) M.aP.length 0
 else if d=3 then l9 3 (fun i=>(M.fns[i]?).elim 0 fun x=>xq M x.ty) (fun _=>0) M.fns.length 0
 else if d=6 then l9 6 (fun i=>(M.gls[i]?).elim 0 fun x=>Cs x.l) (fun _=>0) M.gls.length 0
 else if d=7 then l9 7 (fun i=>(M.exs[i]?).elim 0 fun x=>j6 (iy M (M.exs.take i) []) (jk M x.kind) x) (fun _=>0) M.exs.length 0
 else if d=8 then(if M.st=true then l9 8 (fun _=>Oj M) (fun _=>0) 1 0 else(0,0,0,0))
 else if d=9 then l9 9 (fun i=>(M.els[i]?).elim 0 fun x=>Oh M x) (fun _=>0) M.els.length 0
 else if d=10 then l9 10 (fun i=>(lookW M i).1) (fun i=>((lookW M i).2:Nat)) M.fns.length 0
 else if d=11 then l9 11 (fun i=>(M.bw[i]?).elim 0 fun x=>if M.cL.length=0 then 6 else Cs x.l) (fun _=>0) M.bw.length 0
 else(0,0,0,0)
theorem abu {α:Type} {l:List α} {f:α→Int}:(∀j,0≤j→j<0+l.length→(l[j]?).elim 0 f=0) ↔ ∀x∈l,f x=0:=by
 constructor
 · intro h x hx
   obtain⟨j,hj,e⟩:=List.getElem_of_mem hx
   have:=h j (Nat.zero_le _) (by omega)
   rw[df hj,e] at this
   exact this
 · intro h j _ hj
   rw[df (by omega:j<l.length)]
   exact h _ (eQ _)
structure _root_.Go.Am.Mo.Valid (M:Mo):Prop where
 may:M.Il
 aP : ∀x∈M.aP,xq M x.ty=0
 fns : ∀x∈M.fns,xq M x.ty=0
 gls : ∀x∈M.gls,Cs x.l=0
 exs : ∀i x,M.exs[i]? = some x→j6 (iy M (M.exs.take i) []) (jk M x.kind) x=0
 st:M.st=true→Oj M=0
 els : ∀x∈M.els,Oh M x=0
 bod : ∀i,i<M.fns.length→(lookW M i).1=0
 bw : ∀x∈M.bw,(if M.cL.length=0 then 6 else Cs x.l)=0
def Rv (v v':VR):Prop:=v=v' ∨ ∃q,v = .aU 6 q
theorem TN {a k n:Nat} {d:Bool} {f f':Nat→VR} (h : ∀m,Rv (f m) (f' m)):Rv (bU a k n d f) (bU a k n d f'):=by
 unfold bU
 split
 · exact .inl rfl
 · exact h _
theorem abv {r n a:Nat} {d:Bool} {f f':VR} (h:Rv f f'):Rv (dx r n d a f) (dx r n d a f'):=by
 unfold dx
 refine TN fun m=> ?_
 split
 · exact .inl rfl
 · exact h
theorem On {V:fS} {t:Int→Option (Nat×Nat)} (h : ∀a p,V.ty a=some p→t a=some p) (ls:List Nat) (op a:Int) (tags:List Int) (n:Nat) (d:Bool) (c:Nat):Rv (dW V ls op a tags n d c) (dW {V with ty:=t} ls op a tags n d c):=by
 by_cases o:op=16
 · subst o
   cases e:V.ty a with
   |none=>exact .inr ⟨c,by simp[dW,e]⟩
   |some p=>exact .inl (by simp[dW,e,h a p e])
 · refine .inl ?_
   unfold dW
   rw[if_neg o,if_neg o]
   rfl
mutual
theorem yw {V:fS} {t:Int→Option (Nat×Nat)} (h : ∀a p,V.ty a=some p→t a=some p) : ∀(x:Ins) (ls:List Nat) (n:Nat) (d:Bool) (c:Nat),Rv (gQ V ls x n d c) (gQ {V with ty:=t} ls x n d c)
 |.mk op r a b nn tags l e,ls,n,d,c=>by
  simp only[gQ]
  by_cases o0:op=0
  · rw[if_pos o0,if_pos o0];exact .inl rfl
  rw[if_neg o0,if_neg o0]
  by_cases PE:op=2∨op=3
  · rw[if_pos PE,if_pos PE]
    rcases iF h l ((if op=3 then 0 else r.toNat)::ls) 0 false c with k|⟨q,k⟩
    · rw[k]
      exact .inl rfl
    · rw[k]
      exact .inr ⟨q,rfl⟩
  rw[if_neg PE,if_neg PE]
  by_cases o4:op=4
  · rw[if_pos o4,if_pos o4]
    refine TN fun n0=> ?_
    rcases iF h l (r.toNat::ls) 0 false c with k|⟨q,k⟩
    · rw[k]
      cases cM {V with ty:=t} (r.toNat::ls) l 0 false c with
      |aU e p=>exact .inl rfl
      |ok n1 d1 c1=>
       refine abv ?_
       rcases iF h e (r.toNat::ls) 0 false c1 with k|⟨q,k⟩
       · rw[k]
         exact .inl rfl
       · rw[k]
         exact .inr ⟨q,rfl⟩
    · rw[k]
      exact .inr ⟨q,rfl⟩
  · rw[if_neg o4,if_neg o4]
    exact On h ls op a tags n d c
theorem iF {V:fS} {t:Int→Option (Nat×Nat)} (h : ∀a p,V.ty a=some p→t a=some p) : ∀(l:List Ins) (ls:List Nat) (n:Nat) (d:Bool) (c:Nat),Rv (cM V ls l n d c) (cM {V with ty:=t} ls l n d c)
 |[],ls,n,d,c=> .inl (by simp only[cM])
 |x::r,ls,n,d,c=>by
  simp only[cM]
  rcases yw h x ls n d (c+1) with k|⟨q,k⟩
  · rw[k]
    cases gQ {V with ty:=t} ls x n d (c+1) with
    |aU e p=>exact .inl rfl
    |ok n1 d1 c1=>exact iF h r ls n1 d1 c1
  · rw[k]
    exact .inr ⟨q,rfl⟩
end
theorem TO {L:List ByteArray} {c:Int} {x:Ex}:j6 L c x=0 ↔ ¬(ae1.wrap x.ix≥ae1.wrap c)∧fy L x.nm=false:=by
 unfold j6
 by_cases h:ae1.wrap x.ix≥ae1.wrap c
 · rw[if_pos h]
   exact⟨nofun,fun q=>absurd h q.1⟩
 · rw[if_neg h]
   cases fy L x.nm with
   |true=>exact⟨(fun q=>by simp at q),fun q=>absurd q.2 (by decide)⟩
   |false=>exact⟨fun _=>⟨h,rfl⟩,fun _=>by simp⟩
theorem XH {M:Mo} (hM:M.fit):oZ M=((M.aP.length+M.fns.length:Nat):Int):=by
 have h1:=hM.aP
 have h2:=hM.fns
 unfold oZ
 rw[aZ (by omega) (by omega)]
 omega
end Go.Proofs.YtdmmllcjgjmbbaaGreatDoor.N
end
section
namespace Go.Am
open Go.RowKit
section
variable {P:Program} {E:Env} {g:Gh} {m:Mem} {w:World}
theorem Rel.XI (h:Rel g m w) {i:Nat} {l l':List AV} (hb:m[i]? = some (.ac l)) (hl : ∀vs,dz g w l vs→dz g w l' vs) :
  Rel g (m.set i (.ac l')) w∧dU g m w g (m.set i (.ac l')) w:=by
 have own : ∀(j:Nat) (x:bf),(m.set i (.ac l'))[j]? = some x→x.ep=true → ∃y:bf,m[j]? = some y∧y.ep=true:=fun j x hj ho=>by
  rcases bn hj with⟨rfl,_⟩|⟨_,q⟩
  · exact⟨_,hb,rfl⟩
  · exact⟨x,q,ho⟩
 refine⟨⟨fun j hj=>h.Cp j (by simpa using hj),fun j hj=> ?_,fun j x cs hj hx=> ?_,fun j c hj hc=> ?_,fun j q x x' c hj hq ho ho' hc iS=> ?_,h.there,fun j k1 l1 hj=> ?_⟩,
  ⟨aw _,fun _ _ _=>rfl,fun _ _ p=>⟨p,rfl⟩,fun _ _ p=> .inl p,fun c ho=> ?_,rfl,rfl,rfl⟩⟩
 · rcases bn hj with⟨_,q⟩|⟨_,q⟩
   · cases q
   · exact h.free j q
 · rcases bn hj with⟨rfl,rfl⟩|⟨_,q⟩
   · simp only[bf.cells?,kb] at hx
     subst hx
     obtain⟨c',cs',e,q,k1,k2,k3,k4,k5⟩:=h.cells _ _ _ hb rfl
     exact⟨c',cs',e,q,k1,k2,k3,⟨hl _ k4.1,k4.2⟩,k5⟩
   · exact h.cells j x cs q hx
 · rcases bn hj with⟨_,q⟩|⟨_,q⟩
   · cases q
   · exact h.tok j c q hc
 · obtain⟨y,y1,y2⟩:=own j x hj ho
   obtain⟨z,z1,z2⟩:=own q x' hq ho'
   exact h.inj j q y z c y1 z1 y2 z2 hc iS
 · rcases bn hj with⟨_,q⟩|⟨_,q⟩
   · cases q
   · exact h.obs j k1 l1 q
 · obtain⟨j,x,hj,hx,hc⟩:=ho
   obtain⟨y,y1,y2⟩:=own j x hj hx
   exact .inl ⟨j,y,y1,y2,hc⟩
theorem an.kill {f:FuncId} {args:List AV} {m m':Mem} {v:AV} (h:an P E f args m v m') (i:Nat):an P E f args m v (m'.set i .dead):=by
 obtain⟨hf,h⟩:=h
 refine⟨hf,fun g w dL cs hr hv hg=> ?_⟩
 obtain⟨w',g',cv,fr,h1,h2,h3,h4,h5,h6,h7,h8⟩:=h g w dL cs hr hv hg
 obtain⟨k1,k2⟩:=h5.kill i
 exact⟨w',g',cv,fr,h1,h2,h3,h4,k1,h6.trans k2,h7,by simpa using h8⟩
theorem an.settle {f:FuncId} {args l0 X:List AV} {m:Mem} {v:AV} {t:TypeId} {q:Bool} (h:an P E f args m v [.ac l0,.ob (.gr t q) X]) (hm:m.length≤2) :
  an P E f args m v [.ac (fL (DG 2) l0),.dead,.ob (.gr t q) X]:=by
 obtain⟨hf,h⟩:=h
 refine⟨hf,fun g0 w0 dL cs hr hv hg=> ?_⟩
 obtain⟨w,g,cv,fr,h1,h2,h3,h4,QD,h6,h7,h8⟩:=h g0 w0 dL cs hr hv hg
 obtain⟨f1,f2⟩:=QD.fB 1
 have hb:(([.ac l0,.ob (.gr t q) X]:Mem)++fB 1)[1]? = some (.ob (.gr t q) X):=rfl
 obtain⟨c1,o1,vs1,b1,b2,b3,b4,b5,b6⟩:=f1.obs 1 _ _ hb
 have hn:(([.ac l0,.ob (.gr t q) X]:Mem)++fB 1)[2]? = some .free:=rfl
 obtain⟨m1,m2,m3⟩:=f1.move hb b1 hn
 have hb0:(((([.ac l0,.ob (.gr t q) X]:Mem)++fB 1).set 1 .dead).set 2 (.ob (.gr t q) X))[0]? = some (.ac l0):=rfl
 have hre:dS (DG 2) (g.put 2 c1 (g.lo 1) (g.hi 1)) (g.put 2 c1 (g.lo 1) (g.hi 1)):=⟨fun i k hk=>by
  unfold DG at hk
  cases hi:ai i 1 with
  |true=>
   rw[hi] at hk
   obtain rfl:=kc hk
   obtain rfl:=Nat.eq_of_beq_eq_true hi
   simp[Gh.put,b1]
  |false=>
   rw[hi] at hk
   obtain rfl:=kc hk
   exact⟨rfl,rfl,rfl⟩,rfl⟩
 obtain⟨n1,n2⟩:=m1.XI hb0 (l':=fL (DG 2) l0) fun vs hv=>hv.kr hre
 have hmem:((((([.ac l0,.ob (.gr t q) X]:Mem)++fB 1).set 1 .dead).set 2 (.ob (.gr t q) X)).set 0 (.ac (fL (DG 2) l0)))=[.ac (fL (DG 2) l0),.dead,.ob (.gr t q) X]:=rfl
 rw[hmem] at n1 n2
 refine⟨w,_,cv,fr,h1,h2,h3,h4.mono m2,n1,h6.trans ((f2.trans m3).trans n2),h7.trans fun k c' hk iS=> ?_,by simp;omega⟩
 have h1:k≠2:=by omega
 simp[Gh.put,h1,iS]
end
end Go.Am
end
section
namespace Go.Proofs.YtdmmllcjgjmbbaaGreatDoor.N
open Go Go.Am
structure Md where
 qn:Nat
 va:List PV
 Ip:Nat
 V4:List PV
 Ge:Nat
 wG:List PV
 Al:Nat
 V5:List PV
 so:Nat
 V6:List PV
 ny:Nat
 Iq:List PV
 V7:Nat
 V8:List PV
 st:Bool
 sn:Int
 V9:Nat
 Wa:List PV
 Wb:Nat
 Wc:List PV
abbrev Md.cells (M:Md):List AV:=[.p (.ps M.qn 2 M.va),.p (.ps M.Ip 3 M.V4),.p (.ps M.Ge 3 M.wG),.p (.ps M.Al 3 M.V5),.p (.ps M.so 3 M.V6),.p (.ps M.ny 2 M.Iq),.p (.ps M.V7 3 M.V8),sB M.st,sI .u32 M.sn,.p (.ps M.V9 2 M.Wa),.p (.ps M.Wb 2 M.Wc)]
def iQ (M:Md):List AV:=M.cells
abbrev qH (M:Md) (tP tR own h:Int) (j n:Nat) (e p nx:Int):bf:= .ac (M.cells++[sI .i64 tP,sI .i64 tR,sI .u64 own,sI .i64 h,.ms j 0 n 4 none,sI .i64 e,sI .i64 p,sI .i64 nx])
abbrev dN (cs:List PV):bf:= .ob (.gr 160 true) (cs.map .p)
abbrev frC (op base res:Int) (dead:Bool):List PV:=[.sc (.int .i64 op),.sc (.int .i64 base),.sc (.int .i64 res),.sc (.bool dead)]
@[simp] theorem aO (l:List PV):adP aC (adP AV.p l)=adP AV.p l:=by
  rw[agl];rfl
def TP (l:List (Nat×Nat×AV)) (f d:Nat):Option AV:=match l with
 |[]=>none
 |(f',d',v)::r=>cond (ai f f'&&ai d d') (some v) (TP r f d)
def mz (rows:List (Nat×Nat×AV)):Env where
 cX:=zh tabs
 wr:=wrs
 keep:=Ka keeps
 told:=TP rows
theorem an.eN {rows:List (Nat×Nat×AV)} {f:FuncId} {args:List AV} {m m':Mem} {v:AV} (h:an aeB (mz rows) f args m v m'):an aeB env f args m v m':=h.env fun _ _ q=>q
structure Fr where
 op:Int
 base:Int
 res:Int
 dead:Bool
def bq:List Fr→List PV
 |[]=>[]
 |f::r=>frC f.op f.base f.res f.dead++bq r
theorem j7 : ∀l:List Fr,(bq l).length=l.length*4
 |[]=>rfl
 |f::r=>by simp[bq,j7 r];omega
theorem qo : ∀l m:List Fr,bq (l++m)=bq l++bq m
 |[],_=>rfl
 |f::r,m=>by simp[bq,qo r m]
theorem wH : ∀{l:List Fr} {k:Nat} {f:Fr},l[k]? = some f → ∀(ex:List PV) (c:Nat),c<4→(adP AV.p (bq l++ex)).getD (k*4+c) .az=(adP AV.p (frC f.op f.base f.res f.dead)).getD c .az
 |[],_,_,h,_,_,_=>by simp at h
 |y::l,0,x,h,ex,c,hc=>by
  simp only[List.getElem?_cons_zero,kb] at h;subst h
  rw[bq,aeA,ri,pa,aer,de,de,List.getElem?_append_left (by simpa using hc)]
 |y::l,k+1,x,h,ex,c,hc=>by
  have ih:=wH (l:=l) (k:=k) (f:=x) (by simpa using h) ex c hc
  rw[de] at ih
  rw[bq,pa,aer,de,List.getElem?_append_right (by simp;omega),show(k+1)*4+c-(adP AV.p (frC y.op y.base y.res y.dead)).length=k*4+c by simp;omega]
  exact ih
theorem wI {l:List Fr} {k:Nat} {f:Fr} (h:l[k]? = some f) (ex:List PV) :
  (adP AV.p (bq l++ex)).getD (k*4) .az=sI .i64 f.op∧(adP AV.p (bq l++ex)).getD (k*4+1) .az=sI .i64 f.base ∧
  (adP AV.p (bq l++ex)).getD (k*4+2) .az=sI .i64 f.res∧(adP AV.p (bq l++ex)).getD (k*4+3) .az=sB f.dead:=
 ⟨wH h ex 0 (by omega),wH h ex 1 (by omega),wH h ex 2 (by omega),wH h ex 3 (by omega)⟩
def B0 (h:Int):Int→List Fr→Prop
 |_,[]=>True
 |b,f::r=>(f.op=2∨f.op=3∨f.op=4∨f.op=5)∧b≤f.base∧f.base≤h∧0≤f.res∧f.res≤1∧B0 h f.base r
def iG (h:Int):List Fr→Prop
 |[]=>False
 |f::r=>f.op=0∧f.base=0∧0≤f.res∧f.res≤1∧B0 h 0 r∧0≤h∧h≤1073741824∧r.length+1≤1000
def af6 (f:FuncId) (_:List AV) (m:Mem):Option (AV×Mem):=cond (ai f 178) (some (sB true,m)) none
def af7 (_h _b:Int) (_n i:Nat) (_cs:List PV) (op base res:Int) (dead:Bool):FuncId→Nat→Nat→Option (AV→AV):=cJ [(164,7,2,.agg [sI .i64 op,sI .i64 base,sI .i64 res,sB dead]),(164,12,0,sI .i64 ((i+1:Nat):Int))]
theorem TQ (k:Nat) (cs:List PV):aE aeB env (aJ aB av [] [] [(165,4,2)]) 1000000 165 ([AV.ms 0 0 (k+1) 4 aeE]) ([dN cs]) (.fin) =
(.must (vc (aeu ((k+1)*4) (ago 0 (adP AV.p cs)))&&(0+(k+1)*4).ble (adP AV.p cs).length&&(((0+(k+1))*32).ble eY&&(0+(k+1)).ble eY)&&true&&true)
 (.out (.ret (.ms 1 0 (0+(k+1)) 4 none) [.ob (eG.gr 160 true) (adP aC (adP AV.p cs)),.ob (eG.gr 160 true) (adP aC ([]++adP AV.p (adP Ct (aeu ((k+1)*4) (ago 0 (adP AV.p cs))))))]))):=by kernel_rfl
def abw:oP:=aJ aB av [(164,1)] (fm 164 [(2,4),(2,9),(2,15),(0,0)]) []
def adQ:Sc:=(jv 5 17684534).1
abbrev gJ (x0:List PV):Mem:=[.ob (eG.gr 160 true) (adP aC (adP AV.p x0))]
def o9 (cs:List PV):aG:=
 (.out (.ret (sI .i64 2) (gJ cs)))
def MB (h:Int) (n:Nat) (cs:List PV):aG:=
 (.test (decide (h<0))
 (o9 cs)
 (.test (decide (h>1073741824))
 (o9 cs)
 (.test (decide ((↑n:Int)<1))
 (o9 cs)
 (.test (decide ((↑n:Int)>1000))
 (o9 cs)
 (.at (ah aeB env 164 1 [.mp 1 0,sI .i64 0,.ms 0 0 n 4 none,sI .i64 (↑n:Int),sI .i64 0] ([.ob (eG.gr 160 true) (adP aC (adP AV.p cs)),.ac [sI .i64 h,.ms 0 0 n 4 none]]) 1 85))))))
theorem TR (h:Int) (n:Nat) (cs:List PV):aE aeB env abw 1000000 164 ([AV.agg [sI tp h,AV.ms 0 0 n 4 aeE]]) ([dN cs]) adQ=MB h n cs:=by kernel_rfl
def abx (h b:Int) (n:Nat) (i:Nat) (cs:List PV) (op base res:Int) (dead:Bool):oP:=fc af6 av [(164,1)] (fm 164 [(0,2),(8,3),(8,8),(9,3),(9,6),(9,19),(9,26),(9,31),(0,3)]) [(164,7,1),(164,7,2)] (af7 h b n i cs op base res dead)
def adR:Sc:=(jv 10 2058750792453122311677578614374).1
def pe (h b:Int) (n:Nat) (i:Nat) (cs:List PV) (base res:Int):aG:=
 (.test (decide (base<b)) (.out (.ret (sI .i64 2) (gJ cs))) (.test (decide (base>h)) (.out (.ret (sI .i64 2) (gJ cs))) (.test (decide (res<0)) (.out (.ret (sI .i64 2) (gJ cs))) (.test (decide (res>1)) (.out (.ret (sI .i64 2) (gJ cs))) (.need ((bK i)) (.at (ah aeB env 164 1 [.mp 1 0,sI .i64 base,.ms 0 0 n 4 none,sI .i64 (↑n:Int),sI .i64 (↑(i+1):Int)] ([.ob (eG.gr 160 true) (adP aC (adP AV.p cs)),.ac [sI .i64 h,.ms 0 0 n 4 none]]) 1 85)))))))
def An (h b:Int) (n:Nat) (i:Nat) (cs:List PV) (op base res:Int) (dead:Bool):aG:=
 (.test ((bh i n))
 (.must ((bA i n))
 (.must ((0+(aF i)*4+4).ble (adP AV.p cs).length&&((cg (some (aeG (agq tp) "int" 1 8 false 8 8 (some (.int .i64 0)) true #[]).desc) ((adP AV.p cs).getD (0+(aF i)*4) .az)).snd&&((cg (some (aeG (agq tp) "int" 1 8 false 8 8 (some (.int .i64 0)) true #[]).desc) ((adP AV.p cs).getD (0+(aF i)*4+1) .az)).snd&&((cg (some (aeG (agq tp) "int" 1 8 false 8 8 (some (.int .i64 0)) true #[]).desc) ((adP AV.p cs).getD (0+(aF i)*4+1+1) .az)).snd&&((cg (some (aeG agr "bool" 1 1 false 1 1 (some (.bool false)) true #[]).desc) ((adP AV.p cs).getD (0+(aF i)*4+1+1+1) .az)).snd&&true))))&&true)
 (.need (AV.agg [(cg (aeF (aeG (agq tp) "int" 1 8 false 8 8 (aeF (vd tp 0)) true #[]).desc) ((adP AV.p cs).getD (0+(aF i)*4) AV.az)).fst,(cg (aeF (aeG (agq tp) "int" 1 8 false 8 8 (aeF (vd tp 0)) true #[]).desc) ((adP AV.p cs).getD (0+(aF i)*4+1) AV.az)).fst,(cg (aeF (aeG (agq tp) "int" 1 8 false 8 8 (aeF (vd tp 0)) true #[]).desc) ((adP AV.p cs).getD (0+(aF i)*4+1+1) AV.az)).fst,(cg (aeF (aeG agr "bool" 1 1 false 1 1 (aeF (agu false)) true #[]).desc) ((adP AV.p cs).getD (0+(aF i)*4+1+1+1) AV.az)).fst]=AV.agg [sI tp op,sI tp base,sI tp res,sB dead])
 (.test ((↑i:Int)==0)
 (.test (op==0)
 (.test (!base==0)
 (.must ((↑i:Int)==0)
 (.out (.ret (sI .i64 2) (gJ cs))))
 (pe h b n i cs base res))
 (.must ((↑i:Int)==0)
 (.out (.ret (sI .i64 2) (gJ cs)))))
 (.must (!((↑i:Int)==0))
 (.call ⟨178,[sI .i64 op],[],sB true,[]⟩
 (pe h b n i cs base res)))))))
 (.out (.ret (sI .i64 0) (gJ cs))))
theorem B1 (h b:Int) (n:Nat) (i:Nat) (cs:List PV) (op base res:Int) (dead:Bool):grow aeB env (abx h b n i cs op base res dead) 1000000 true (ah aeB env 164 1 ([AV.mp 1 0,sI tp b,AV.ms 0 0 n 4 aeE,sI tp (↑n:Int),sI tp (↑i:Int)]) ([dN cs,bf.ac [sI tp h,AV.ms 0 0 n 4 aeE]]) 1 85) adR atEnd=An h b n i cs op base res dead:=by kernel_rfl
theorem EC {op:Int} (h:op=2∨op=3∨op=4∨op=5):an aeB env 178 [sI .i64 op] [] (sB true) []:=by
 rcases h with rfl|rfl|rfl|rfl
 · exact cj aI fZ (n:=1000) (by kernel_rfl)
 · exact cj aI fZ (n:=1000) (by kernel_rfl)
 · exact cj aI fZ (n:=1000) (by kernel_rfl)
 · exact cj aI fZ (n:=1000) (by kernel_rfl)
@[simp] theorem aby (l:List PV):adP Ct (adP AV.p l)=l:=by
  rw[agl]
  exact List.map_id' _
theorem rm : ∀l:List PV,vc (adP AV.p l)=true
 |[]=>rfl
 |_::l=>rm l
theorem KO (k:Nat) (hk:k≤1000) (cs:List PV) (hc:(k+1)*4≤cs.length) :
  an aeB env 165 [.ms 0 0 (k+1) 4 none] [dN cs] (.ms 1 0 (k+1) 4 none) [dN cs,dN (cs.take ((k+1)*4))]:=by
 refine aa aI (TQ k cs) ?_
 have hl:eY=70368744177664:=rfl
 simp only[aG.ok,adr,ri,aO,aby,H0,←afQ,rm,aeO,ov,aeN,jn,aey]
 exact⟨⟨hc,by omega,by omega⟩,trivial⟩
theorem ik:(tp==tp)=true:=rfl
set_option maxHeartbeats 1000000 in
theorem TS (h:Int) (fs:List Fr) (ex:List PV) (hn:fs.length≤1000) : ∀(r i:Nat) (b:Int),i+r=fs.length→1≤i→B0 h b (fs.drop i) →
  bp aeB env (ah aeB env 164 1 [.mp 1 0,sI .i64 b,.ms 0 0 fs.length 4 none,sI .i64 fs.length,sI .i64 i] [dN (bq fs++ex),.ac [sI .i64 h,.ms 0 0 fs.length 4 none]] 1 85) (.ret (sI .i64 0) [dN (bq fs++ex)]):=by
 intro r
 induction r with
 |zero=>
  intro i b hi h1 hok
  refine af aI (B1 h b fs.length i (bq fs++ex) 0 0 0 true) ?_
  simp only[An,bh,gJ,bA,pe,bK,gJ,br,aG.ok]
  refine⟨fun q=> ?_,fun _=>by rw[aO]⟩
  simp only[decide_eq_true_eq] at q
  omega
 |succ r ih=>
  intro i b hi h1 hok
  have nM:i<fs.length:=by omega
  have hg:fs[i]? = some fs[i]:=df nM
  rw[aeo nM] at hok
  generalize fs[i]=f at *
  obtain⟨o1,o2,o3,o4,o5,o6⟩:=hok
  obtain⟨c0,c1,c2,c3⟩:=wI hg ex
  have ih:=ih (i+1) f.base (by omega) (by omega) o6
  have w1:=fk i (by omega)
  have hlen:(bq fs++ex).length=fs.length*4+ex.length:=by rw[du,j7]
  refine af aI (B1 h b fs.length i (bq fs++ex) f.op f.base f.res f.dead) ?_
  simp only[An,bh,gJ,bA,pe,bK,gJ,br,aG.ok,aeL,ri,c0,c1,c2,c3,cg,ko,isInt,isBool,au,aW,aO,w1,ov,hlen]
  have nz:((i:Int)==0)=false:=by simp;omega
  have d1:decide (f.base<b)=false:=by simp;omega
  have d2:decide (f.base>h)=false:=by simp;omega
  have d3:decide (f.res<0)=false:=by simp;omega
  have d4:decide (f.res>1)=false:=by simp;omega
  have hb:decide ((i:Int)<(fs.length:Int))=true:=by simp only[decide_eq_true_eq];omega
  simp only[nz,d1,d2,d3,d4,hb,ik,bE,qf,dO,aeN,aeO,aey,jn,decide_eq_true_eq]
  exact⟨by omega,by omega,EC o1,ih⟩
set_option maxHeartbeats 1000000 in
theorem Ir (h:Int) (fs:List Fr) (ex:List PV) (hok:iG h fs) :
  an aeB env 164 [.agg [sI .i64 h,.ms 0 0 fs.length 4 none]] [dN (bq fs++ex)] (sI .i64 0) [dN (bq fs++ex)]:=by
 cases fs with
 |nil=>exact hok.elim
 |cons f r=>
  obtain⟨o1,o2,o3,o4,o5,o6,o7,o8⟩:=hok
  have loop:=TS h (f::r) ex (by simpa using o8) r.length 1 f.base (by simp;omega) (by omega) (by rw[o2];exact o5)
  have hg:(f::r)[0]? = some f:=rfl
  obtain⟨c0,c1,c2,c3⟩:=wI hg ex
  have hlen:(bq (f::r)++ex).length=(f::r).length*4+ex.length:=by rw[du,j7]
  have PA:(f::r).length=r.length+1:=rfl
  refine aa aI (TR h (f::r).length (bq (f::r)++ex)) ?_
  simp only[MB,o9,gJ,aG.ok,aO]
  have e1:decide (h<0)=false:=by simp;omega
  have e2:decide (h>1073741824)=false:=by simp;omega
  have e3:decide (((f::r).length:Int)<1)=false:=by simp;omega
  have e4:decide (((f::r).length:Int)>1000)=false:=by simp;omega
  simp only[e1,e2,e3,e4]
  refine⟨nofun,fun _=>⟨nofun,fun _=>⟨nofun,fun _=>⟨nofun,fun _=> ?_⟩⟩⟩⟩
  have tr:=B1 h 0 (f::r).length 0 (bq (f::r)++ex) f.op f.base f.res f.dead
  refine af aI tr ?_
  simp only[An,bh,gJ,bA,pe,bK,gJ,br,aG.ok,aeL,ri,aeA,cg,ko,isInt,isBool,au,aW,aO,ov,hlen]
  simp only[aeA,ri] at c0 c1 c2 c3
  have d1:decide (f.base<0)=false:=by simp;omega
  have d2:decide (f.base>h)=false:=by simp;omega
  have d3:decide (f.res<0)=false:=by simp;omega
  have d4:decide (f.res>1)=false:=by simp;omega
  have d5:(!f.base==0)=false:=by simp[o2]
  have d6:(f.op==0)=true:=by simp[o1]
  have d7:decide (((0:Nat):Int)<((f::r).length:Int))=true:=by simp only[decide_eq_true_eq];omega
  have d8:(((0:Nat):Int)==0)=true:=rfl
  simp only[c0,c1,c2,c3,d1,d2,d3,d4,d5,d6,d7,d8,ik,bE,xv,dO,aeN,aeO,aey,jn,decide_eq_true_eq]
  exact⟨by omega,by omega,rfl,loop⟩
def stC (cl:List PV) (k:Nat) (f:FuncId) (m:Mem):Option (AV×Mem):=cond (ai f 164) (some (sI .i64 0,m)) (cond (ai f 165) (some (.ms 1 0 (k+1) 4 none,m++[dN cl])) none)
def PF (k:Nat) (base res:Int) (dead b:Bool):List (Nat×Nat×AV):=[(140,15,sI .i64 base),(140,37,sI .i64 base),(140,22,sB dead),(140,18,sB b),(139,11,sI .i64 res),(139,15,sI .i64 base),(139,41,sI .i64 k)]
def TT (_h:Int) (k:Nat) (_cs _cl:List PV) (_op base res:Int) (dead:Bool) (_n:Int):Env:=mz (PF k base res dead false)
def adS (_h:Int) (k:Nat) (_cs _cl:List PV) (_op base res:Int) (dead:Bool) (_n:Int):Env:=mz (PF k base res dead true)
def spC (_h:Int) (k:Nat) (_cs cl:List PV) (_op _base _res:Int) (_dead:Bool) (_n:Int) (f:FuncId) (_:List AV) (m:Mem):Option (AV×Mem):=stC cl k f m
def spS (_h:Int) (k:Nat) (_cs _cl:List PV) (_op base _res:Int) (_dead:Bool) (_n:Int):FuncId→Nat→Nat→Option (AV→AV):=cJ [(138,5,6,sI .i64 k),(171,2,5,sI .i64 base)]
def seE (_h:Int) (_k:Nat) (_cs _cl:List PV) (_op _base _res:Int) (_dead:Bool) (_n:Int):Env:=mz [(173,13,sB true),(173,17,sB true)]
abbrev lJ (x0:Int) (x1:Nat):List AV:=[.agg [sI .i64 x0,.ms 0 0 (x1+1) 4 none]]
abbrev Is (x0:Nat) (x1:List PV) (x2:Int) (x3:Int) (x4:Int):Bool:=(0+(aF x0)*4+1+1).ble (adP aC (adP aC (adP aC (adP AV.p x1)))).length&&(cg (aeB.underlying 3) ((adP aC (adP aC (adP aC (adP AV.p x1)))).getD (0+(aF x0)*4+1) .az)).snd&&true&&dy (cg (aeB.underlying 3) ((adP aC (adP aC (adP aC (adP AV.p x1)))).getD (0+(aF x0)*4+1) .az)).fst (sI .i64 x2)&&(dy (.p (.sc (.bool (decide (x3>tp.wrap (x4-x2)))))) (sB false)&&true)&&true
abbrev nA (x0:List PV) (x1:List PV):Mem:=[.ob (eG.gr 160 true) (adP aC (adP aC (adP aC (adP aC (adP AV.p x0))))),.ob (eG.gr 160 true) (adP AV.p x1)]
abbrev jl (x0:List PV):Mem:=[.ob (eG.gr 160 true) (adP aC (adP aC (adP AV.p x0)))]
abbrev kF (x0:List PV):Mem:=[.ob (eG.gr 160 true) (adP aC (adP aC (adP aC (adP aC (adP AV.p x0)))))]
abbrev sr (x0:Nat) (x1:List PV) (x2:Int):Bool:=(0+(aF x0)*4+1+1).ble (adP aC (adP aC (adP aC (adP AV.p x1)))).length&&(cg (aeB.underlying 3) ((adP aC (adP aC (adP aC (adP AV.p x1)))).getD (0+(aF x0)*4+1) .az)).snd&&true&&dy (cg (aeB.underlying 3) ((adP aC (adP aC (adP aC (adP AV.p x1)))).getD (0+(aF x0)*4+1) .az)).fst (sI .i64 x2)&&true&&true
abbrev pg (x0:List PV) (x1:List PV):Mem:=[.ob (eG.gr 160 true) (adP aC (adP aC (adP aC (adP aC (adP aC (adP aC (adP aC (adP aC (adP AV.p x0))))))))),.ob (eG.gr 160 true) (adP aC (adP aC (adP aC (adP aC (adP aC (adP aC (adP aC (adP aC (adP aC (adP aC (adP AV.p x1)))))))))))]
theorem Oo (h:Int) (k:Nat) (cs:List PV) (cl:List PV) (op base res:Int) (dead:Bool) (n:Int):aE aeB (TT h k cs cl op base res dead n) (fc (spC h k cs cl op base res dead n) av [] [(138,2,3)] [(138,5,7),(140,0,0),(140,0,1)] (spS h k cs cl op base res dead n)) 1000000 159 ([AV.agg [sI tp h,AV.ms 0 0 (k+1) 4 aeE],sI tp n]) ([dN cs]) (.fin) =
(.test (!decide (n≥0))
 (.out (.ret (.aD [.agg [sI .i64 0,bP],sI .i64 2]) (kF cs)))
 (.call ⟨164,(lJ h k),(jl cs),sI .i64 0,(jl cs)⟩
 (.call ⟨165,[.ms 0 0 (k+1) 4 none],(kF cs),.ms 1 0 (k+1) 4 none,(nA cs cl)⟩
 (.need ((jI k))
 (.must ((j3 k))
 (.must ((Is k cl base n h))
 (.must ((sr k cl base))
 (.must true
 (.out (.ret (.aD [.agg [sI .i64 (tp.wrap (h-bif true then Min.min n (tp.wrap (h-base)) else Max.max n (tp.wrap (h-base)))),.ms 1 0 (k+1) 4 none],sI .i64 0]) (pg cs cl))))))))))):=by kernel_rfl
abbrev qI (x0:List PV):Mem:=[.ob (eG.gr 160 true) (adP aC (adP aC (adP aC (adP aC (adP aC (adP aC (adP aC (adP aC (adP AV.p x0)))))))))]
abbrev ED (x0:Nat) (x1:List PV) (x2:Int) (x3:Int) (x4:Int) (x5:Bool):Bool:=(0+(aF x0)*4+1+1).ble (adP aC (adP aC (adP aC (adP AV.p x1)))).length&&(cg (aeB.underlying 3) ((adP aC (adP aC (adP aC (adP AV.p x1)))).getD (0+(aF x0)*4+1) .az)).snd&&true&&dy (cg (aeB.underlying 3) ((adP aC (adP aC (adP aC (adP AV.p x1)))).getD (0+(aF x0)*4+1) .az)).fst (sI .i64 x2)&&(dy (.p (.sc (.bool (decide (x3>tp.wrap (x4-x2)))))) (sB true)&&((0+(aF x0)*4+3+1).ble (adP aC (adP aC (adP aC (adP AV.p x1)))).length&&(cg (aeB.underlying 4) ((adP aC (adP aC (adP aC (adP AV.p x1)))).getD (0+(aF x0)*4+3) .az)).snd&&true&&dy (cg (aeB.underlying 4) ((adP aC (adP aC (adP aC (adP AV.p x1)))).getD (0+(aF x0)*4+3) .az)).fst (.p (.sc (.bool x5)))&&true))&&true
theorem EE (h:Int) (k:Nat) (cs:List PV) (cl:List PV) (op base res:Int) (dead:Bool) (n:Int):aE aeB (adS h k cs cl op base res dead n) (fc (spC h k cs cl op base res dead n) av [] [(138,2,3),(140,0,0)] [(138,5,7),(140,0,0),(140,0,1)] (spS h k cs cl op base res dead n)) 1000000 159 ([AV.agg [sI tp h,AV.ms 0 0 (k+1) 4 aeE],sI tp n]) ([dN cs]) (.fin) =
(.test (!decide (n≥0))
 (.out (.ret (.aD [.agg [sI .i64 0,bP],sI .i64 2]) (kF cs)))
 (.call ⟨164,(lJ h k),(jl cs),sI .i64 0,(jl cs)⟩
 (.call ⟨165,[.ms 0 0 (k+1) 4 none],(kF cs),.ms 1 0 (k+1) 4 none,(nA cs cl)⟩
 (.need ((jI k))
 (.must ((j3 k))
 (.must ((ED k cl base n h dead))
 (.test (!dead)
 (.must true
 (.out (.ret (.aD [.agg [sI .i64 0,bP],sI .i64 200]) (qI cs))))
 (.must ((sr k cl base))
 (.must true
 (.out (.ret (.aD [.agg [sI .i64 (tp.wrap (h-bif true then Min.min n (tp.wrap (h-base)) else Max.max n (tp.wrap (h-base)))),.ms 1 0 (k+1) 4 none],sI .i64 0]) (pg cs cl)))))))))))):=by kernel_rfl
theorem Oq (h:Int) (k:Nat) (cs:List PV) (cl:List PV) (op base res:Int) (dead:Bool) (n:Int):aE aeB (TT h k cs cl op base res dead n) (fc (spC h k cs cl op base res dead n) av [] [(138,2,3),(176,0,0)] [(138,5,7)] (spS h k cs cl op base res dead n)) 1000000 161 ([AV.agg [sI tp h,AV.ms 0 0 (k+1) 4 aeE],sI tp n]) ([dN cs]) (.fin) =
(.test (!decide (n≥0))
 (.out (.ret (.aD [.agg [sI .i64 0,bP],sI .i64 2]) (kF cs)))
 (.call ⟨164,(lJ h k),(jl cs),sI .i64 0,(jl cs)⟩
 (.call ⟨165,[.ms 0 0 (k+1) 4 none],(kF cs),.ms 1 0 (k+1) 4 none,(nA cs cl)⟩
 (.need ((jI k))
 (.must ((j3 k))
 (.test (decide (n>tp.wrap (1073741824-h)))
 (.out (.ret (.aD [.agg [sI .i64 0,bP],sI .i64 8]) (qI cs)))
 (.out (.ret (.aD [.agg [sI .i64 (tp.wrap (h+n)),.ms 1 0 (k+1) 4 none],sI .i64 0]) (pg cs cl))))))))):=by kernel_rfl
theorem Ot (h:Int) (k:Nat) (cs:List PV) (cl:List PV) (op base res:Int) (dead:Bool) (n:Int):aE aeB (TT h k cs cl op base res dead n) (fc (spC h k cs cl op base res dead n) av [] [] [(138,5,7),(171,2,5),(171,2,11)] (spS h k cs cl op base res dead n)) 1000000 155 ([AV.agg [sI tp h,AV.ms 0 0 (k+1) 4 aeE]]) ([dN cs]) (.fin) =
(.call ⟨164,(lJ h k),(jl cs),sI .i64 0,(jl cs)⟩
 (.call ⟨165,[.ms 0 0 (k+1) 4 none],(kF cs),.ms 1 0 (k+1) 4 none,(nA cs cl)⟩
 (.need ((jI k))
 (.must ((j3 k))
 (.must ((0+(aF k)*4+1+1).ble (adP aC (adP aC (adP AV.p cl))).length&&(cg (aeB.underlying 3) ((adP aC (adP aC (adP AV.p cl))).getD (0+(aF k)*4+1) .az)).snd&&true)
 (.need (((cg (aeB.underlying 3) ((adP aC (adP aC (adP AV.p cl))).getD (0+(aF k)*4+1) AV.az)).fst,(0+(aF k)*4+1+1).ble (adP aC (adP aC (adP AV.p cl))).length&&(cg (aeB.underlying 3) ((adP aC (adP aC (adP AV.p cl))).getD (0+(aF k)*4+1) AV.az)).snd).fst=sI tp base)
 (.must ((0+(aF k)*4+3+1).ble (adP aC (adP aC (adP AV.p cl))).length&&true&&true&&true)
 (.out (.ret (.aD [.agg [sI .i64 base,.ms 1 0 (k+1) 4 none],sI .i64 0]) [.ob (eG.gr 160 true) (adP aC (adP aC (adP aC (adP aC (adP aC (adP aC (adP aC (adP aC (adP AV.p cs))))))))),.ob (eG.gr 160 true) (adP aC (adP aC (adP aC (adP aC (adP aC (dJ (adP aC (adP aC (adP AV.p cl))) (0+(aF k)*4+3) [sB true]))))))]))))))))):=by kernel_rfl
abbrev pz (x0:List PV) (x1:List PV):Mem:=[.ob (eG.gr 160 true) (adP aC (adP aC (adP aC (adP AV.p x0)))),.ob (eG.gr 160 true) (adP AV.p x1)]
abbrev gV (x0:List PV):Mem:=[.ob (eG.gr 160 true) (adP aC (adP aC (adP aC (adP AV.p x0))))]
theorem Ou (h:Int) (k:Nat) (cs:List PV) (cl:List PV) (op base res:Int) (dead:Bool) (n:Int):aE aeB (TT h k cs cl op base res dead n) (fc (fun f _ m=>cond (ai f 164) (some (sI .i64 0,m)) (cond (ai f 165) (some (.ms 1 0 (k+1) 4 none,m++[dN cl])) none)) av [] [(183,0,0)] [(138,5,7),(183,0,1)] (spS h k cs cl op base res dead n)) 1000000 138 ([AV.agg [sI tp h,AV.ms 0 0 (k+1) 4 aeE],sB true,AV.fn (Fn.func 183) [] [AV.mp 1 0,AV.mp 2 0]]) ([dN cs,bf.pc [PV.sc (vd tp op)],bf.pc [PV.sc (vd tp n)]]) (.fin) =
(.call ⟨164,(lJ h k),(gJ cs),sI .i64 0,(gJ cs)⟩
 (.call ⟨165,[.ms 0 0 (k+1) 4 none],(gV cs),.ms 1 0 (k+1) 4 none,(pz cs cl)⟩
 (.need ((jI k))
 (.must ((j3 k))
 (.test (decide ((↑(k+1):Int)≥1000))
 (.must true
 (.out (.ret (.aD [.agg [sI .i64 0,bP],sI .i64 8]) [.ob (eG.gr 160 true) (adP aC (adP aC (adP aC (adP aC (adP aC (adP AV.p cs)))))),.pc [sP op],.pc [sP n]])))
 (.must (((k+1+1)*32).ble eY&&(k+1+1).ble eY&&(((k+1)*4).ble (adP aC (adP aC (adP AV.p cl))).length&&true)&&true&&true&&true)
 (.must true
 (.out (.ret (.aD [.agg [sI .i64 h,.ms 3 0 (k+1+1) 4 none],sI .i64 0]) [.ob (eG.gr 160 true) (adP aC (adP aC (adP aC (adP aC (adP aC (adP AV.p cs)))))),.pc [sP op],.pc [sP n],.ob (eG.gr 160 true) (adP aC (adP aC (adP aC (aeu ((k+1)*4) (adP aC (adP aC (adP AV.p cl)))++[sI .i64 op,sI .i64 h,sI .i64 n,sB false]))))]))))))))):=by kernel_rfl
theorem Ov (h:Int) (k:Nat) (cs:List PV) (cl:List PV) (op base res:Int) (dead:Bool) (n:Int):aE aeB (seE h k cs cl op base res dead n) (aJ (spC h k cs cl op base res dead n) (fun f _ m=>cond (ai f 178) (some (sB true,m)) (cond (ai f 138) (some (.aD [.agg [sI .i64 h,.ms 3 0 (k+2) 4 none],sI .i64 0],m++[dN cl])) none)) [] [] [(173,0,0)]) 1000000 173 ([AV.agg [sI tp h,AV.ms 0 0 (k+1) 4 aeE],sI tp op,sI tp n]) ([dN cs]) (.fin) =
(.call ⟨178,[sI .i64 op],[],sB true,[]⟩
 (.call ⟨138,[.agg [sI .i64 h,.ms 0 0 (k+1) 4 none],sB true,.fn (Fn.func 183) [] [.mp 1 0,.mp 2 0]],[.ob (eG.gr 160 true) (adP aC (adP AV.p cs)),.pc [sP op],.pc [sP n]],.aD [.agg [sI .i64 h,.ms 3 0 (k+2) 4 none],sI .i64 0],[.ob (eG.gr 160 true) (adP aC (adP AV.p cs)),.pc [sP op],.pc [sP n],.ob (eG.gr 160 true) (adP AV.p cl)]⟩
 (.must (dy (.p (.sc (.bool (decide (n≥0))))) (sB true)&&(dy (.p (.sc (.bool (decide (n≤1))))) (sB true)&&true)&&true)
 (.must true
 (.out (.ret (.aD [.agg [sI .i64 h,.ms 1 0 (k+2) 4 none],sI .i64 0]) [.ob (eG.gr 160 true) (adP aC (adP aC (adP aC (adP AV.p cs)))),.ob (eG.gr 160 true) (adP aC (adP aC (adP AV.p cl)))])))))):=by kernel_rfl
abbrev yx (x0:Int) (x1:Int) (x2:Int):Bool:=decide (tp.wrap (x0-bif true then Min.min x1 (tp.wrap (x0-x2)) else Max.max x1 (tp.wrap (x0-x2)))>x2)
abbrev yy (x0:Nat):Bool:=dy (sI .i64 (tp.wrap ((↑(x0+1):Int)-1))) (sI .i64 (↑x0:Int))&&((aF x0).ble (x0+1)&&true&&true&&true&&true)&&true
abbrev EF (x0:Nat) (x1:List PV) (x2:Int) (x3:Int):Bool:=(0+(aF x0)*4+2+1).ble (adP aC (adP aC (adP AV.p x1))).length&&(cg (aeB.underlying 3) ((adP aC (adP aC (adP AV.p x1))).getD (0+(aF x0)*4+2) .az)).snd&&true&&dy (cg (aeB.underlying 3) ((adP aC (adP aC (adP AV.p x1))).getD (0+(aF x0)*4+2) .az)).fst (sI .i64 x2)&&((0+(aF x0)*4+1+1).ble (adP aC (adP aC (adP AV.p x1))).length&&(cg (aeB.underlying 3) ((adP aC (adP aC (adP AV.p x1))).getD (0+(aF x0)*4+1) .az)).snd&&true&&dy (cg (aeB.underlying 3) ((adP aC (adP aC (adP AV.p x1))).getD (0+(aF x0)*4+1) .az)).fst (sI .i64 x3)&&true)&&true
theorem EG (h:Int) (k:Nat) (cs:List PV) (cl:List PV) (op base res:Int) (dead:Bool) (n:Int):aE aeB (TT h k cs cl op base res dead n) (fc (spC h k cs cl op base res dead n) av [] [(139,0,1)] [(138,5,7),(139,0,0),(140,0,0),(140,0,1),(139,0,2)] (spS h k cs cl op base res dead n)) 1000000 119 ([AV.agg [sI tp h,AV.ms 0 0 (k+1) 4 aeE]]) ([dN cs]) (.fin) =
(.call ⟨164,(lJ h k),(jl cs),sI .i64 0,(jl cs)⟩
 (.call ⟨165,[.ms 0 0 (k+1) 4 none],(kF cs),.ms 1 0 (k+1) 4 none,(nA cs cl)⟩
 (.need ((jI k))
 (.must ((j3 k))
 (.must ((EF k cl res base))
 (.must ((Is k cl base res h))
 (.must ((sr k cl base))
 (.must true
 (.test ((yx h res base))
 (.must true
 (.out (.ret (.aD [.agg [sI .i64 0,bP],sI .i64 201]) (qI cs))))
 (.must ((yy k))
 (.must true
 (.out (.ret (.aD [.agg [sI .i64 (tp.wrap (tp.wrap (h-bif true then Min.min res (tp.wrap (h-base)) else Max.max res (tp.wrap (h-base)))+res)),.ms 1 0 (aF k-0) 4 none],sI .i64 0]) (pg cs cl)))))))))))))):=by kernel_rfl
theorem EH (h:Int) (k:Nat) (cs:List PV) (cl:List PV) (op base res:Int) (dead:Bool) (n:Int):aE aeB (adS h k cs cl op base res dead n) (fc (spC h k cs cl op base res dead n) av [] [(140,0,0),(139,0,1)] [(138,5,7),(139,0,0),(140,0,0),(140,0,1),(139,0,2)] (spS h k cs cl op base res dead n)) 1000000 119 ([AV.agg [sI tp h,AV.ms 0 0 (k+1) 4 aeE]]) ([dN cs]) (.fin) =
(.call ⟨164,(lJ h k),(jl cs),sI .i64 0,(jl cs)⟩
 (.call ⟨165,[.ms 0 0 (k+1) 4 none],(kF cs),.ms 1 0 (k+1) 4 none,(nA cs cl)⟩
 (.need ((jI k))
 (.must ((j3 k))
 (.must ((EF k cl res base))
 (.must ((ED k cl base res h dead))
 (.test (!dead)
 (.must true
 (.out (.ret (.aD [.agg [sI .i64 0,bP],sI .i64 200]) (qI cs))))
 (.must ((sr k cl base))
 (.must true
 (.test ((yx h res base))
 (.must true
 (.out (.ret (.aD [.agg [sI .i64 0,bP],sI .i64 201]) (qI cs))))
 (.must ((yy k))
 (.must true
 (.out (.ret (.aD [.agg [sI .i64 (tp.wrap (tp.wrap (h-bif true then Min.min res (tp.wrap (h-base)) else Max.max res (tp.wrap (h-base)))+res)),.ms 1 0 (aF k-0) 4 none],sI .i64 0]) (pg cs cl))))))))))))))):=by kernel_rfl
theorem an.cW {rows:List (Nat×Nat×AV)} {f:FuncId} {args:List AV} {m m':Mem} {v:AV} (h:an aeB env f args m v m'):an aeB (mz rows) f args m v m':=h.env fun _ _ q=>q
theorem Gf:aeB.underlying 3=some (.int .i64):=by kernel_rfl
theorem Gg:aeB.underlying 4=some .bool:=by kernel_rfl
theorem j8 (k:IntKind) (a b:Int):dy (.p (.sc (.int k a))) (.p (.sc (.int k b)))=decide (a=b):=by
 simp only[dy,oF,GC,Fh]
 cases k<;>rfl
theorem eO (a b:Bool):dy (.p (.sc (.bool a))) (.p (.sc (.bool b)))=fV a b:=by
 simp only[dy,oF,GC]
theorem KP (a b:Bool):fV a b=true↔a=b:=by cases a<;>cases b<;>simp[fV]
theorem mK (l:List PV) (i:Nat) (v:PV):dJ (adP AV.p l) i [AV.p v]=adP AV.p (l.set i v):=by
 simp only[dJ,List.map_set]
theorem MC : ∀(o:List Fr) (t:Fr),(bq (o++[t])).set (o.length*4+3) (.sc (.bool true))=bq (o++[⟨t.op,t.base,t.res,true⟩])
 |[],t=>rfl
 |f::o,t=>by
  simp only[List.cons_append,bq,H0,List.length_cons]
  rw[show(o.length+1)*4+3=(o.length*4+3)+1+1+1+1 by omega]
  simp only[List.set_cons_succ,MC o t]
section
variable {h:Int} {o:List Fr} {t:Fr} (ex:List PV) (hok:iG h (o++[t]))
theorem Iu {h:Int} : ∀{l:List Fr} {b:Int},B0 h b l→0≤b → ∀f∈l,0≤f.base∧f.base≤h∧0≤f.res∧f.res≤1
 |[],_,_,_,_,hf=>by cases hf
 |x::r,b,hk,hb,f,hf=>by
  obtain⟨_,h2,h3,h4,h5,h6⟩:=hk
  cases hf with
  |head=>exact⟨by omega,h3,h4,h5⟩
  |tail _ hf=>exact Iu h6 (by omega) f hf
theorem lK {h:Int} {l:List Fr} (hk:iG h l) : ∀f∈l,0≤f.base∧f.base≤h∧0≤f.res∧f.res≤1:=by
 cases l with
 |nil=>exact hk.elim
 |cons x r=>
  obtain⟨_,h2,h3,h4,h5,h6,_⟩:=hk
  intro f hf
  cases hf with
  |head=>exact⟨by omega,by omega,h3,h4⟩
  |tail _ hf=>exact Iu h5 (by omega) f hf
theorem zJ {h:Int} {l:List Fr} (hk:iG h l):0≤h∧h≤1073741824∧l.length≤1000:=by
 cases l with
 |nil=>exact hk.elim
 |cons x r=>exact⟨hk.2.2.2.2.2.1,hk.2.2.2.2.2.2.1,hk.2.2.2.2.2.2.2⟩
include hok in
theorem ew:(o.length+1=(o++[t]).length)∧o.length≤999∧0≤h∧h≤1073741824∧0≤t.base∧t.base≤h∧0≤t.res∧t.res≤1∧(bq (o++[t])++ex).take ((o.length+1)*4)=bq (o++[t]) ∧
  (o.length+1)*4≤(bq (o++[t])++ex).length∧(bq (o++[t])).length=(o.length+1)*4:=by
 have h1:o.length+1=(o++[t]).length:=by simp
 have h2:(bq (o++[t])).length=(o.length+1)*4:=by rw[j7,h1]
 obtain⟨n1,n2,n3⟩:=zJ hok
 obtain⟨m1,m2,m3,m4⟩:=lK hok t (by simp)
 exact⟨h1,by omega,n1,n2,m1,m2,m3,m4,by rw[List.take_append_of_le_length (by omega),dE (by omega)],by rw[du];omega,h2⟩
include hok in
theorem CZ:an aeB env 164 [.agg [sI .i64 h,.ms 0 0 (o.length+1) 4 none]] [dN (bq (o++[t])++ex)] (sI .i64 0) [dN (bq (o++[t])++ex)]:=by
 have:=Ir h (o++[t]) ex hok
 rw[du] at this
 exact this
include hok in
theorem C0:an aeB env 165 [.ms 0 0 (o.length+1) 4 none] [dN (bq (o++[t])++ex)] (.ms 1 0 (o.length+1) 4 none) [dN (bq (o++[t])++ex),dN (bq (o++[t]))]:=by
 obtain⟨_,f2,_,_,_,_,_,_,f9,f10,_⟩:=ew ex hok
 have:=KO o.length (by omega) _ f10
 rw[f9] at this
 exact this
theorem iH (o:List Fr) (t:Fr):(adP AV.p (bq (o++[t]))).getD (o.length*4) .az=sI .i64 t.op∧(adP AV.p (bq (o++[t]))).getD (o.length*4+1) .az=sI .i64 t.base ∧
  (adP AV.p (bq (o++[t]))).getD (o.length*4+2) .az=sI .i64 t.res∧(adP AV.p (bq (o++[t]))).getD (o.length*4+3) .az=sB t.dead:=by
 have:=wI (l:=o++[t]) (k:=o.length) (f:=t) (by simp) []
 simpa using this
include hok in
theorem abB {n:Int} (hn:0≤n) (hc:n≤h-t.base) :
  an aeB env 159 [.agg [sI .i64 h,.ms 0 0 (o.length+1) 4 none],sI .i64 n] [dN (bq (o++[t])++ex)] (.aD [.agg [sI .i64 (h-n),.ms 1 0 (o.length+1) 4 none],sI .i64 0]) [dN (bq (o++[t])++ex),dN (bq (o++[t]))]:=by
 obtain⟨f1,f2,f3,f4,f5,f6,f7,f8,f9,f10,f11⟩:=ew ex hok
 obtain⟨c0,c1,c2,c3⟩:=iH o t
 have BI:eY=70368744177664:=rfl
 refine an.eN (rows:=PF o.length t.base t.res t.dead false) ?_
 refine aa aI (Oo h o.length (bq (o++[t])++ex) (bq (o++[t])) t.op t.base t.res t.dead n) ?_
 have w1:tp.wrap (((o.length+1:Nat):Int)-1)=(o.length:Int):=by rw[aZ (by omega) (by omega)];omega
 have w2:tp.wrap (h-t.base)=h-t.base:=aZ (by omega) (by omega)
 have w3:min n (h-t.base)=n:=by omega
 have w4:tp.wrap (h-n)=h-n:=by exact aZ (by omega) (by omega)
 have g1:decide (n≥0)=true:=by simp;omega
 have g2:decide (n>h-t.base)=false:=by simp;omega
 simp only[pg,sr,kF,jl,jI,nA,Is,j3,lJ,br,aG.ok,w3,w4,g1,g2,w1,w2,aO,mK,aeL,ri,acv,c0,c1,c2,c3,Gf,Gg,cg,ko,isInt,isBool,au,aW,ik,cond_true,j8,eO,fV,ov,f11,←afQ,←aer,mi,my,xv,qf,dO,aeN,aeO,aey,jn,decide_eq_true_eq,bE]
 refine⟨an.cW (CZ ex hok),an.cW (C0 ex hok),?_⟩
 repeat' apply aeX
 all_goals omega
include hok in
theorem TU {n:Int} (hn:0≤n) (hc:h-t.base<n) (hd:t.dead=true) :
  an aeB env 159 [.agg [sI .i64 h,.ms 0 0 (o.length+1) 4 none],sI .i64 n] [dN (bq (o++[t])++ex)] (.aD [.agg [sI .i64 t.base,.ms 1 0 (o.length+1) 4 none],sI .i64 0]) [dN (bq (o++[t])++ex),dN (bq (o++[t]))]:=by
 obtain⟨f1,f2,f3,f4,f5,f6,f7,f8,f9,f10,f11⟩:=ew ex hok
 obtain⟨c0,c1,c2,c3⟩:=iH o t
 have BI:eY=70368744177664:=rfl
 refine an.eN (rows:=PF o.length t.base t.res t.dead true) ?_
 refine aa aI (EE h o.length (bq (o++[t])++ex) (bq (o++[t])) t.op t.base t.res t.dead n) ?_
 have w1:tp.wrap (((o.length+1:Nat):Int)-1)=(o.length:Int):=by rw[aZ (by omega) (by omega)];omega
 have w2:tp.wrap (h-t.base)=h-t.base:=aZ (by omega) (by omega)
 have w3:min n (h-t.base)=h-t.base:=by omega
 have w4:tp.wrap (h-(h-t.base))=t.base:=by rw[aZ (by omega) (by omega)];omega
 have g1:decide (n≥0)=true:=by simp;omega
 have g2:decide (n>h-t.base)=true:=by simp;omega
 simp only[pg,sr,ED,kF,jl,jI,nA,qI,j3,lJ,br,aG.ok,w3,w4,g1,g2,hd,w1,w2,aO,mK,aeL,ri,acv,c0,c1,c2,c3,Gf,Gg,cg,ko,isInt,isBool,au,aW,ik,cond_true,j8,eO,fV,ov,f11,←afQ,←aer,mi,my,xv,qf,dO,aeN,aeO,aey,jn,decide_eq_true_eq,bE]
 refine⟨an.cW (CZ ex hok),an.cW (C0 ex hok),?_⟩
 repeat' apply aeX
 all_goals omega
include hok in
theorem XJ {n:Int} (hn:0≤n) (hc:h-t.base<n) (hd:t.dead=false) :
  an aeB env 159 [.agg [sI .i64 h,.ms 0 0 (o.length+1) 4 none],sI .i64 n] [dN (bq (o++[t])++ex)] (.aD [.agg [sI .i64 0,.os none 0 0 []],sI .i64 200]) [dN (bq (o++[t])++ex)]:=by
 obtain⟨f1,f2,f3,f4,f5,f6,f7,f8,f9,f10,f11⟩:=ew ex hok
 obtain⟨c0,c1,c2,c3⟩:=iH o t
 have BI:eY=70368744177664:=rfl
 refine an.eN (rows:=PF o.length t.base t.res t.dead true) ?_
 refine aa aI (EE h o.length (bq (o++[t])++ex) (bq (o++[t])) t.op t.base t.res t.dead n) ?_
 have w1:tp.wrap (((o.length+1:Nat):Int)-1)=(o.length:Int):=by rw[aZ (by omega) (by omega)];omega
 have w2:tp.wrap (h-t.base)=h-t.base:=aZ (by omega) (by omega)
 have g1:decide (n≥0)=true:=by simp;omega
 have g2:decide (n>h-t.base)=true:=by simp;omega
 simp only[pg,sr,ED,kF,jl,jI,nA,qI,j3,lJ,br,aG.ok,g1,g2,hd,w1,w2,aO,mK,aeL,ri,acv,c0,c1,c2,c3,Gf,Gg,cg,ko,isInt,isBool,au,aW,ik,cond_true,j8,eO,fV,ov,f11,←afQ,←aer,mi,my,xv,qf,dO,aeN,aeO,aey,jn,decide_eq_true_eq,bE]
 refine⟨an.cW (CZ ex hok),an.cW (C0 ex hok),?_⟩
 repeat' apply aeX
 all_goals omega
include hok in
theorem XK {n:Int} (hn:0≤n) (hc:h+n≤1073741824) :
  an aeB env 161 [.agg [sI .i64 h,.ms 0 0 (o.length+1) 4 none],sI .i64 n] [dN (bq (o++[t])++ex)] (.aD [.agg [sI .i64 (h+n),.ms 1 0 (o.length+1) 4 none],sI .i64 0]) [dN (bq (o++[t])++ex),dN (bq (o++[t]))]:=by
 obtain⟨f1,f2,f3,f4,f5,f6,f7,f8,f9,f10,f11⟩:=ew ex hok
 obtain⟨c0,c1,c2,c3⟩:=iH o t
 have BI:eY=70368744177664:=rfl
 refine an.eN (rows:=PF o.length t.base t.res t.dead false) ?_
 refine aa aI (Oq h o.length (bq (o++[t])++ex) (bq (o++[t])) t.op t.base t.res t.dead n) ?_
 have w1:tp.wrap (((o.length+1:Nat):Int)-1)=(o.length:Int):=by rw[aZ (by omega) (by omega)];omega
 have w2:tp.wrap (h-t.base)=h-t.base:=aZ (by omega) (by omega)
 have w4:tp.wrap (h+n)=h+n:=by exact aZ (by omega) (by omega)
 have w5:tp.wrap (1073741824-h)=1073741824-h:=by exact aZ (by omega) (by omega)
 have g1:decide (n≥0)=true:=by simp;omega
 have g2:decide (n>1073741824-h)=false:=by simp;omega
 simp only[pg,kF,jl,jI,nA,qI,j3,lJ,br,aG.ok,w4,w5,g1,g2,w1,w2,aO,mK,aeL,ri,acv,c0,c1,c2,c3,Gf,Gg,cg,ko,isInt,isBool,au,aW,ik,cond_true,j8,eO,fV,ov,f11,←afQ,←aer,mi,my,xv,qf,dO,aeN,aeO,aey,jn,decide_eq_true_eq,bE]
 refine⟨an.cW (CZ ex hok),an.cW (C0 ex hok),?_⟩
 repeat' apply aeX
 all_goals omega
include hok in
theorem XL :
  an aeB env 155 [.agg [sI .i64 h,.ms 0 0 (o.length+1) 4 none]] [dN (bq (o++[t])++ex)] (.aD [.agg [sI .i64 t.base,.ms 1 0 (o.length+1) 4 none],sI .i64 0]) [dN (bq (o++[t])++ex),dN (bq (o++[⟨t.op,t.base,t.res,true⟩]))]:=by
 obtain⟨f1,f2,f3,f4,f5,f6,f7,f8,f9,f10,f11⟩:=ew ex hok
 obtain⟨c0,c1,c2,c3⟩:=iH o t
 have BI:eY=70368744177664:=rfl
 refine an.eN (rows:=PF o.length t.base t.res t.dead false) ?_
 refine aa aI (Ot h o.length (bq (o++[t])++ex) (bq (o++[t])) t.op t.base t.res t.dead 0) ?_
 have w1:tp.wrap (((o.length+1:Nat):Int)-1)=(o.length:Int):=by rw[aZ (by omega) (by omega)];omega
 have w2:tp.wrap (h-t.base)=h-t.base:=aZ (by omega) (by omega)
 simp only[kF,jl,jI,nA,j3,lJ,br,aG.ok,MC o t,w1,w2,aO,mK,aeL,ri,acv,c0,c1,c2,c3,Gf,Gg,cg,ko,isInt,isBool,au,aW,ik,cond_true,j8,eO,fV,ov,f11,←afQ,←aer,mi,my,xv,qf,dO,aeN,aeO,aey,jn,decide_eq_true_eq,bE]
 refine⟨an.cW (CZ ex hok),an.cW (C0 ex hok),?_⟩
 repeat' apply aeX
 all_goals omega
include hok in
theorem Iv (hc:t.res=h-t.base) :
  an aeB env 119 [.agg [sI .i64 h,.ms 0 0 (o.length+1) 4 none]] [dN (bq (o++[t])++ex)] (.aD [.agg [sI .i64 (t.base+t.res),.ms 1 0 o.length 4 none],sI .i64 0]) [dN (bq (o++[t])++ex),dN (bq (o++[t]))]:=by
 obtain⟨f1,f2,f3,f4,f5,f6,f7,f8,f9,f10,f11⟩:=ew ex hok
 obtain⟨c0,c1,c2,c3⟩:=iH o t
 refine an.eN (rows:=PF o.length t.base t.res t.dead false) ?_
 refine aa aI (EG h o.length (bq (o++[t])++ex) (bq (o++[t])) t.op t.base t.res t.dead 0) ?_
 have w1:tp.wrap (((o.length+1:Nat):Int)-1)=(o.length:Int):=by rw[aZ (by omega) (by omega)];omega
 have w2:tp.wrap (h-t.base)=h-t.base:=aZ (by omega) (by omega)
 have w3:min t.res (h-t.base)=t.res:=by omega
 have w4:tp.wrap (h-t.res)=t.base:=by rw[aZ (by omega) (by omega)];omega
 have w5:tp.wrap (t.base+t.res)=t.base+t.res:=by exact aZ (by omega) (by omega)
 have g3:decide (t.base>t.base)=false:=by simp
 have g2:decide (t.res>h-t.base)=false:=by simp;omega
 simp only[pg,sr,kF,jl,EF,jI,nA,qI,Is,j3,lJ,yy,yx,br,aG.ok,w3,w4,w5,g2,g3,w1,w2,aO,mK,aeL,ri,acv,c0,c1,c2,c3,Gf,Gg,cg,ko,isInt,isBool,au,aW,ik,cond_true,j8,eO,fV,ov,f11,xv,qf,dO,aeN,aeO,aey,jn,decide_eq_true_eq,bE]
 refine⟨an.cW (CZ ex hok),an.cW (C0 ex hok),?_⟩
 repeat' apply aeX
 all_goals omega
include hok in
theorem B2 (hc:h-t.base<t.res) (hd:t.dead=true) :
  an aeB env 119 [.agg [sI .i64 h,.ms 0 0 (o.length+1) 4 none]] [dN (bq (o++[t])++ex)] (.aD [.agg [sI .i64 (t.base+t.res),.ms 1 0 o.length 4 none],sI .i64 0]) [dN (bq (o++[t])++ex),dN (bq (o++[t]))]:=by
 obtain⟨f1,f2,f3,f4,f5,f6,f7,f8,f9,f10,f11⟩:=ew ex hok
 obtain⟨c0,c1,c2,c3⟩:=iH o t
 refine an.eN (rows:=PF o.length t.base t.res t.dead true) ?_
 refine aa aI (EH h o.length (bq (o++[t])++ex) (bq (o++[t])) t.op t.base t.res t.dead 0) ?_
 have w1:tp.wrap (((o.length+1:Nat):Int)-1)=(o.length:Int):=by rw[aZ (by omega) (by omega)];omega
 have w2:tp.wrap (h-t.base)=h-t.base:=aZ (by omega) (by omega)
 have w3:min t.res (h-t.base)=h-t.base:=by omega
 have w4:tp.wrap (h-(h-t.base))=t.base:=by rw[aZ (by omega) (by omega)];omega
 have w5:tp.wrap (t.base+t.res)=t.base+t.res:=by exact aZ (by omega) (by omega)
 have g3:decide (t.base>t.base)=false:=by simp
 have g2:decide (t.res>h-t.base)=true:=by simp;omega
 simp only[pg,sr,ED,kF,jl,EF,jI,nA,qI,j3,lJ,yy,yx,br,aG.ok,w3,w4,w5,g2,g3,hd,w1,w2,aO,mK,aeL,ri,acv,c0,c1,c2,c3,Gf,Gg,cg,ko,isInt,isBool,au,aW,ik,cond_true,j8,eO,fV,ov,f11,xv,qf,dO,aeN,aeO,aey,jn,decide_eq_true_eq,bE]
 refine⟨an.cW (CZ ex hok),an.cW (C0 ex hok),?_⟩
 repeat' apply aeX
 all_goals omega
include hok in
theorem B3 (hc:t.res<h-t.base) :
  an aeB env 119 [.agg [sI .i64 h,.ms 0 0 (o.length+1) 4 none]] [dN (bq (o++[t])++ex)] (.aD [.agg [sI .i64 0,.os none 0 0 []],sI .i64 201]) [dN (bq (o++[t])++ex)]:=by
 obtain⟨f1,f2,f3,f4,f5,f6,f7,f8,f9,f10,f11⟩:=ew ex hok
 obtain⟨c0,c1,c2,c3⟩:=iH o t
 refine an.eN (rows:=PF o.length t.base t.res t.dead false) ?_
 refine aa aI (EG h o.length (bq (o++[t])++ex) (bq (o++[t])) t.op t.base t.res t.dead 0) ?_
 have w1:tp.wrap (((o.length+1:Nat):Int)-1)=(o.length:Int):=by rw[aZ (by omega) (by omega)];omega
 have w2:tp.wrap (h-t.base)=h-t.base:=aZ (by omega) (by omega)
 have w3:min t.res (h-t.base)=t.res:=by omega
 have w4:tp.wrap (h-t.res)=h-t.res:=by exact aZ (by omega) (by omega)
 have g3:decide (h-t.res>t.base)=true:=by simp;omega
 have g2:decide (t.res>h-t.base)=false:=by simp;omega
 simp only[pg,sr,kF,jl,EF,jI,nA,qI,Is,j3,lJ,yy,yx,br,aG.ok,w3,w4,g2,g3,w1,w2,aO,mK,aeL,ri,acv,c0,c1,c2,c3,Gf,Gg,cg,ko,isInt,isBool,au,aW,ik,cond_true,j8,eO,fV,ov,f11,xv,qf,dO,aeN,aeO,aey,jn,decide_eq_true_eq,bE]
 refine⟨an.cW (CZ ex hok),an.cW (C0 ex hok),?_⟩
 repeat' apply aeX
 all_goals omega
include hok in
theorem zK (hc:h-t.base<t.res) (hd:t.dead=false) :
  an aeB env 119 [.agg [sI .i64 h,.ms 0 0 (o.length+1) 4 none]] [dN (bq (o++[t])++ex)] (.aD [.agg [sI .i64 0,.os none 0 0 []],sI .i64 200]) [dN (bq (o++[t])++ex)]:=by
 obtain⟨f1,f2,f3,f4,f5,f6,f7,f8,f9,f10,f11⟩:=ew ex hok
 obtain⟨c0,c1,c2,c3⟩:=iH o t
 refine an.eN (rows:=PF o.length t.base t.res t.dead true) ?_
 refine aa aI (EH h o.length (bq (o++[t])++ex) (bq (o++[t])) t.op t.base t.res t.dead 0) ?_
 have w1:tp.wrap (((o.length+1:Nat):Int)-1)=(o.length:Int):=by rw[aZ (by omega) (by omega)];omega
 have w2:tp.wrap (h-t.base)=h-t.base:=aZ (by omega) (by omega)
 have g2:decide (t.res>h-t.base)=true:=by simp;omega
 simp only[pg,sr,ED,kF,jl,EF,jI,nA,qI,j3,lJ,yy,yx,br,aG.ok,g2,hd,w1,w2,aO,mK,aeL,ri,acv,c0,c1,c2,c3,Gf,Gg,cg,ko,isInt,isBool,au,aW,ik,cond_true,j8,eO,fV,ov,f11,xv,qf,dO,aeN,aeO,aey,jn,decide_eq_true_eq,bE]
 refine⟨an.cW (CZ ex hok),an.cW (C0 ex hok),?_⟩
 repeat' apply aeX
 all_goals omega
include hok in
theorem TV {op n:Int} (ho:op=2∨op=3∨op=4∨op=5) (hn:0≤n) (hn1:n≤1) (hlt:o.length+1<1000) :
  an aeB env 173 [.agg [sI .i64 h,.ms 0 0 (o.length+1) 4 none],sI .i64 op,sI .i64 n] [dN (bq (o++[t])++ex)] (.aD [.agg [sI .i64 h,.ms 1 0 (o.length+2) 4 none],sI .i64 0]) [dN (bq (o++[t])++ex),dN (bq (o++[t]++[⟨op,h,n,false⟩]))]:=by
 obtain⟨f1,f2,f3,f4,f5,f6,f7,f8,f9,f10,f11⟩:=ew ex hok
 have BI:eY=70368744177664:=rfl
 have Wl:bq (o++[t]++[⟨op,h,n,false⟩])=bq (o++[t])++frC op h n false:=by rw[qo];rfl
 have ZK:(bq (o++[t])).take ((o.length+1)*4)=bq (o++[t]):=dE (by omega)
 have tur:an aeB env 138 [.agg [sI .i64 h,.ms 0 0 (o.length+1) 4 none],sB true,.fn (.func 183) [] [.mp 1 0,.mp 2 0]] [dN (bq (o++[t])++ex),.pc [.sc (.int .i64 op)],.pc [.sc (.int .i64 n)]]
   (.aD [.agg [sI .i64 h,.ms 3 0 (o.length+2) 4 none],sI .i64 0]) [dN (bq (o++[t])++ex),.pc [.sc (.int .i64 op)],.pc [.sc (.int .i64 n)],dN (bq (o++[t]++[⟨op,h,n,false⟩]))]:=by
  refine an.eN (rows:=PF o.length t.base t.res t.dead false) ?_
  refine aa aI (Ou h o.length (bq (o++[t])++ex) (bq (o++[t])) op t.base t.res t.dead n) ?_
  have w1:tp.wrap (((o.length+1:Nat):Int)-1)=(o.length:Int):=by rw[aZ (by omega) (by omega)];omega
  have g1:decide (((o.length+1:Nat):Int)≥1000)=false:=by simp;omega
  have hm:adP AV.p (bq (o++[t]))++[AV.p (PV.sc (vd tp op)),AV.p (PV.sc (vd tp h)),AV.p (PV.sc (vd tp n)),AV.p (PV.sc (agu false))]=adP AV.p (bq (o++[t]++[⟨op,h,n,false⟩])):=by rw[Wl,aer];rfl
  simp only[gV,jI,gJ,pz,j3,lJ,br,aG.ok,w1,g1,aO,←afQ,ZK,hm,ov,f11,dO,aeN,aey,jn,decide_eq_true_eq,bE]
  refine⟨an.cW (CZ ex hok),an.cW (C0 ex hok),?_⟩
  repeat' apply aeX
  all_goals omega
 refine an.eN (rows:=[(173,13,sB true),(173,17,sB true)]) ?_
 refine aa aI (Ov h o.length (bq (o++[t])++ex) (bq (o++[t]++[⟨op,h,n,false⟩])) op t.base t.res t.dead n) ?_
 have g1:decide (n≥0)=true:=by simp;omega
 have g2:decide (n≤1)=true:=by simp;omega
 simp only[aG.ok,g1,g2,aO,eO,fV,and_true,true_and,aeN]
 exact⟨an.cW (EC ho),an.cW tur⟩
end
def TW (f:FuncId):Bool:=ai f 159||(ai f 161||(ai f 155||(ai f 173||ai f 119)))
def C1 (_M:Md) (_tP _tR _own _h:Int) (_k:Nat) (_cs:List PV) (_e _p _nx _n _q _r h2:Int) (k2:Nat) (c2:List PV) (_ec:Int) (f:FuncId) (_:List AV) (m:Mem):Option (AV×Mem):=cond (TW f) (some (.aD [.agg [sI .i64 h2,.ms 1 0 k2 4 none],sI .i64 0],m++[dN c2])) none
def MD (_M:Md) (_tP _tR _own _h:Int) (_k:Nat) (_cs:List PV) (_e _p _nx _n _q _r _h2:Int) (_k2:Nat) (_c2:List PV) (ec:Int) (f:FuncId) (_:List AV) (m:Mem):Option (AV×Mem):=cond (TW f) (some (.aD [.agg [sI .i64 0,.os none 0 0 []],sI .i64 ec],m)) none
def af8 (f:FuncId) (_:List AV) (m:Mem):Option (AV×Mem):=cond (ai f 164) (some (sI .i64 0,m)) none
def af9 (_h:Int) (_n k:Nat) (_cs:List PV) (_a op base res:Int) (dead:Bool):FuncId→Nat→Nat→Option (AV→AV):=cJ [(157,6,7,sI .i64 k),(157,6,9,.agg [sI .i64 op,sI .i64 base,sI .i64 res,sB dead])]
abbrev nB (x0:Int) (x1:Nat):AV:= .aD [.agg [sI .i64 x0,.ms 1 0 x1 4 none],sI .i64 0]
abbrev B4 (x0:Md) (x1:Int) (x2:Int) (x3:Int) (x4:Int) (x5:Nat) (x6:Int) (x7:Int) (x8:List PV) (x9:List PV):Mem:=[.ac [.p (.ps x0.qn 2 x0.va),.p (.ps x0.Ip 3 x0.V4),.p (.ps x0.Ge 3 x0.wG),.p (.ps x0.Al 3 x0.V5),.p (.ps x0.so 3 x0.V6),.p (.ps x0.ny 2 x0.Iq),.p (.ps x0.V7 3 x0.V8),.p (.sc (.bool x0.st)),sI .u32 x0.sn,.p (.ps x0.V9 2 x0.Wa),.p (.ps x0.Wb 2 x0.Wc),sI .i64 x1,sI .i64 x2,sI .u64 x3,sI .i64 x4,.ms 2 0 x5 4 none,sI .i64 0,sI .i64 x6,sI .i64 x7],.ob (eG.gr 160 true) (adP aC (adP aC (adP aC (adP aC (adP aC (adP aC (adP aC (adP aC (adP aC (adP aC (adP aC (adP aC (adP AV.p x8))))))))))))),.ob (eG.gr 160 true) (adP aC (adP aC (adP aC (adP aC (adP aC (adP aC (adP AV.p x9)))))))]
theorem KQ (M:Md) (tP tR own h:Int) (k:Nat) (cs:List PV) (e p nx n q r h2:Int) (k2:Nat) (c2:List PV) (ec:Int):aE aeB env (aJ (C1 M tP tR own h k cs e p nx n q r h2 k2 c2 ec) (C1 M tP tR own h k cs e p nx n q r h2 k2 c2 ec) [] [] []) 1000000 131 ([AV.mp 0 0,sI tp n,sI tp q]) ([qH M tP tR own h 1 k 0 p nx,dN cs]) (.fin) =
(.call ⟨159,[.agg [sI .i64 h,.ms 0 0 k 4 none],sI .i64 n],(gV cs),(nB h2 k2),(pz cs c2)⟩
 (.out (.ret (.aD []) (B4 M tP tR own h2 k2 p nx cs c2)))):=by kernel_rfl
abbrev Gi (x0:Int):AV:= .aD [.agg [sI .i64 0,bP],sI .i64 x0]
abbrev XM (x0:Md) (x1:Int) (x2:Int) (x3:Int) (x4:Int) (x5:Nat) (x6:Int) (x7:Int) (x8:Int) (x9:List PV):Mem:=[.ac [.p (.ps x0.qn 2 x0.va),.p (.ps x0.Ip 3 x0.V4),.p (.ps x0.Ge 3 x0.wG),.p (.ps x0.Al 3 x0.V5),.p (.ps x0.so 3 x0.V6),.p (.ps x0.ny 2 x0.Iq),.p (.ps x0.V7 3 x0.V8),.p (.sc (.bool x0.st)),sI .u32 x0.sn,.p (.ps x0.V9 2 x0.Wa),.p (.ps x0.Wb 2 x0.Wc),sI .i64 x1,sI .i64 x2,sI .u64 x3,sI .i64 x4,.ms 1 0 x5 4 none,sI .i64 x6,sI .i64 x7,sI .i64 x8],.ob (eG.gr 160 true) (adP aC (adP aC (adP aC (adP aC (adP aC (adP aC (adP aC (adP aC (adP aC (adP aC (adP aC (adP aC (adP AV.p x9)))))))))))))]
theorem KR (M:Md) (tP tR own h:Int) (k:Nat) (cs:List PV) (e p nx n q r h2:Int) (k2:Nat) (c2:List PV) (ec:Int):aE aeB env (aJ (MD M tP tR own h k cs e p nx n q r h2 k2 c2 ec) (MD M tP tR own h k cs e p nx n q r h2 k2 c2 ec) [] [(137,0,0),(117,0,1)] []) 1000000 131 ([AV.mp 0 0,sI tp n,sI tp q]) ([qH M tP tR own h 1 k 0 p nx,dN cs]) (.yes (.no .fin)) =
(.call ⟨159,[.agg [sI .i64 h,.ms 0 0 k 4 none],sI .i64 n],(gV cs),(Gi ec),(gV cs)⟩
 (.must (ec != 0)
 (.must (!(ec==0))
 (.out (.ret (.aD []) (XM M tP tR own h k ec q nx cs)))))):=by kernel_rfl
abbrev su (x0:Md) (x1:Int) (x2:Int) (x3:Int) (x4:Int) (x5:Nat) (x6:Int) (x7:Int) (x8:Int) (x9:List PV):Mem:=[.ac [.p (.ps x0.qn 2 x0.va),.p (.ps x0.Ip 3 x0.V4),.p (.ps x0.Ge 3 x0.wG),.p (.ps x0.Al 3 x0.V5),.p (.ps x0.so 3 x0.V6),.p (.ps x0.ny 2 x0.Iq),.p (.ps x0.V7 3 x0.V8),.p (.sc (.bool x0.st)),sI .u32 x0.sn,.p (.ps x0.V9 2 x0.Wa),.p (.ps x0.Wb 2 x0.Wc),sI .i64 x1,sI .i64 x2,sI .u64 x3,sI .i64 x4,.ms 1 0 x5 4 none,sI .i64 x6,sI .i64 x7,sI .i64 x8],.ob (eG.gr 160 true) (adP aC (adP aC (adP aC (adP aC (adP AV.p x9)))))]
theorem KS (M:Md) (tP tR own h:Int) (k:Nat) (cs:List PV) (e p nx n q r h2:Int) (k2:Nat) (c2:List PV) (ec:Int):aE aeB env (aJ aB av [] [(117,0,0)] []) 1000000 131 ([AV.mp 0 0,sI tp n,sI tp q]) ([qH M tP tR own h 1 k e p nx,dN cs]) (.yes .fin) =
(.must (e != 0)
 (.out (.ret (.aD []) (su M tP tR own h k e p nx cs)))):=by kernel_rfl
theorem KT (M:Md) (tP tR own h:Int) (k:Nat) (cs:List PV) (e p nx n q r h2:Int) (k2:Nat) (c2:List PV) (ec:Int):aE aeB env (aJ (C1 M tP tR own h k cs e p nx n q r h2 k2 c2 ec) (C1 M tP tR own h k cs e p nx n q r h2 k2 c2 ec) [] [] []) 1000000 132 ([AV.mp 0 0,sI tp n,sI tp q]) ([qH M tP tR own h 1 k 0 p nx,dN cs]) (.fin) =
(.call ⟨161,[.agg [sI .i64 h,.ms 0 0 k 4 none],sI .i64 n],(gV cs),(nB h2 k2),(pz cs c2)⟩
 (.out (.ret (.aD []) (B4 M tP tR own h2 k2 p nx cs c2)))):=by kernel_rfl
theorem KU (M:Md) (tP tR own h:Int) (k:Nat) (cs:List PV) (e p nx n q r h2:Int) (k2:Nat) (c2:List PV) (ec:Int):aE aeB env (aJ aB av [] [(117,0,0)] []) 1000000 132 ([AV.mp 0 0,sI tp n,sI tp q]) ([qH M tP tR own h 1 k e p nx,dN cs]) (.yes .fin) =
(.must (e != 0)
 (.out (.ret (.aD []) (su M tP tR own h k e p nx cs)))):=by kernel_rfl
theorem KV (M:Md) (tP tR own h:Int) (k:Nat) (cs:List PV) (e p nx n q r h2:Int) (k2:Nat) (c2:List PV) (ec:Int):aE aeB env (aJ (C1 M tP tR own h k cs e p nx n q r h2 k2 c2 ec) (C1 M tP tR own h k cs e p nx n q r h2 k2 c2 ec) [] [] []) 1000000 128 ([AV.mp 0 0,sI tp q]) ([qH M tP tR own h 1 k 0 p nx,dN cs]) (.fin) =
(.call ⟨155,[.agg [sI .i64 h,.ms 0 0 k 4 none]],(gV cs),(nB h2 k2),(pz cs c2)⟩
 (.out (.ret (.aD []) (B4 M tP tR own h2 k2 p nx cs c2)))):=by kernel_rfl
theorem KW (M:Md) (tP tR own h:Int) (k:Nat) (cs:List PV) (e p nx n q r h2:Int) (k2:Nat) (c2:List PV) (ec:Int):aE aeB env (aJ aB av [] [(117,0,0)] []) 1000000 128 ([AV.mp 0 0,sI tp q]) ([qH M tP tR own h 1 k e p nx,dN cs]) (.yes .fin) =
(.must (e != 0)
 (.out (.ret (.aD []) (su M tP tR own h k e p nx cs)))):=by kernel_rfl
theorem KX (M:Md) (tP tR own h:Int) (k:Nat) (cs:List PV) (e p nx n q r h2:Int) (k2:Nat) (c2:List PV) (ec:Int):aE aeB env (aJ (C1 M tP tR own h k cs e p nx n q r h2 k2 c2 ec) (C1 M tP tR own h k cs e p nx n q r h2 k2 c2 ec) [] [] []) 1000000 85 ([AV.mp 0 0,sI tp q]) ([qH M tP tR own h 1 k 0 p nx,dN cs]) (.fin) =
(.call ⟨119,[.agg [sI .i64 h,.ms 0 0 k 4 none]],(gV cs),(nB h2 k2),(pz cs c2)⟩
 (.out (.ret (.aD []) (B4 M tP tR own h2 k2 p nx cs c2)))):=by kernel_rfl
theorem KY (M:Md) (tP tR own h:Int) (k:Nat) (cs:List PV) (e p nx n q r h2:Int) (k2:Nat) (c2:List PV) (ec:Int):aE aeB env (aJ (MD M tP tR own h k cs e p nx n q r h2 k2 c2 ec) (MD M tP tR own h k cs e p nx n q r h2 k2 c2 ec) [] [(137,0,0),(117,0,1)] []) 1000000 85 ([AV.mp 0 0,sI tp q]) ([qH M tP tR own h 1 k 0 p nx,dN cs]) (.yes (.no .fin)) =
(.call ⟨119,[.agg [sI .i64 h,.ms 0 0 k 4 none]],(gV cs),(Gi ec),(gV cs)⟩
 (.must (ec != 0)
 (.must (!(ec==0))
 (.out (.ret (.aD []) (XM M tP tR own h k ec q nx cs)))))):=by kernel_rfl
theorem KZ (M:Md) (tP tR own h:Int) (k:Nat) (cs:List PV) (e p nx n q r h2:Int) (k2:Nat) (c2:List PV) (ec:Int):aE aeB env (aJ aB av [] [(117,0,0)] []) 1000000 85 ([AV.mp 0 0,sI tp q]) ([qH M tP tR own h 1 k e p nx,dN cs]) (.yes .fin) =
(.must (e != 0)
 (.out (.ret (.aD []) (su M tP tR own h k e p nx cs)))):=by kernel_rfl
theorem B5 (M:Md) (tP tR own h:Int) (k:Nat) (cs:List PV) (e p nx n q r h2:Int) (k2:Nat) (c2:List PV) (ec:Int):aE aeB env (aJ (C1 M tP tR own h k cs e p nx n q r h2 k2 c2 ec) (C1 M tP tR own h k cs e p nx n q r h2 k2 c2 ec) [] [] []) 1000000 156 ([AV.mp 0 0,sI tp n,sI tp r,sI tp q]) ([qH M tP tR own h 1 k 0 p nx,dN cs]) (.fin) =
(.call ⟨173,[.agg [sI .i64 h,.ms 0 0 k 4 none],sI .i64 n,sI .i64 r],(gV cs),(nB h2 k2),(pz cs c2)⟩
 (.out (.ret (.aD []) (B4 M tP tR own h2 k2 p nx cs c2)))):=by kernel_rfl
theorem K0 (M:Md) (tP tR own h:Int) (k:Nat) (cs:List PV) (e p nx n q r h2:Int) (k2:Nat) (c2:List PV) (ec:Int):aE aeB env (aJ aB av [] [(117,0,0)] []) 1000000 156 ([AV.mp 0 0,sI tp n,sI tp r,sI tp q]) ([qH M tP tR own h 1 k e p nx,dN cs]) (.yes .fin) =
(.must (e != 0)
 (.out (.ret (.aD []) (su M tP tR own h k e p nx cs)))):=by kernel_rfl
def XN (M:Md) (tP tR own h:Int) (k:Nat) (cs:List PV) (e p nx a q v ec:Int):oP:=aJ (fun f _ m=>cond (ai f 157) (some (.aD [sI .i64 v,sI .i64 0],m)) none) av [] [(130,0,0),(137,1,6)] []
def abC:Sc:= .fin
def qp (M:Md) (tP tR own h:Int) (k:Nat) (cs:List PV) (e p nx v:Int):aG:=
 (.out (.ret (sI .i64 v) [.ac [.p (.ps M.qn 2 M.va),.p (.ps M.Ip 3 M.V4),.p (.ps M.Ge 3 M.wG),.p (.ps M.Al 3 M.V5),.p (.ps M.so 3 M.V6),.p (.ps M.ny 2 M.Iq),.p (.ps M.V7 3 M.V8),.p (.sc (.bool M.st)),sI .u32 M.sn,.p (.ps M.V9 2 M.Wa),.p (.ps M.Wb 2 M.Wc),sI .i64 tP,sI .i64 tR,sI .u64 own,sI .i64 h,.ms 1 0 k 4 none,sI .i64 e,sI .i64 p,sI .i64 nx],.ob (eG.gr 160 true) (adP aC (adP aC (adP aC (adP aC (adP aC (adP aC (adP AV.p cs)))))))]))
def B6 (M:Md) (tP tR own h:Int) (k:Nat) (cs:List PV) (e p nx a q v _ec:Int):aG:=
 (.test (decide (ae1.wrap a≥ae1.wrap (↑k:Int)))
 (.test (e==0)
 (.out (.ret (sI .i64 0) [.ac [.p (.ps M.qn 2 M.va),.p (.ps M.Ip 3 M.V4),.p (.ps M.Ge 3 M.wG),.p (.ps M.Al 3 M.V5),.p (.ps M.so 3 M.V6),.p (.ps M.ny 2 M.Iq),.p (.ps M.V7 3 M.V8),.p (.sc (.bool M.st)),sI .u32 M.sn,.p (.ps M.V9 2 M.Wa),.p (.ps M.Wb 2 M.Wc),sI .i64 tP,sI .i64 tR,sI .u64 own,sI .i64 h,.ms 1 0 k 4 none,sI .i64 6,sI .i64 q,sI .i64 nx],.ob (eG.gr 160 true) (adP aC (adP aC (adP aC (adP aC (adP AV.p cs)))))]))
 (.out (.ret (sI .i64 0) (su M tP tR own h k e p nx cs))))
 (.call ⟨157,[.agg [sI .i64 h,.ms 0 0 k 4 none],sI .i64 (tp.wrap a)],(gJ cs),(fO v),(gJ cs)⟩
 (.test (e==0)
 (qp M tP tR own h k cs e p nx v)
 (qp M tP tR own h k cs e p nx v))))
theorem EI (M:Md) (tP tR own h:Int) (k:Nat) (cs:List PV) (e p nx a q v ec:Int):aE aeB env (XN M tP tR own h k cs e p nx a q v ec) 1000000 130 ([AV.mp 0 0,sI acU a,sI tp q]) ([qH M tP tR own h 1 k e p nx,dN cs]) abC=B6 M tP tR own h k cs e p nx a q v ec:=by kernel_rfl
def XO:oP:=aJ aB av [] [(134,0,0),(137,1,6),(137,0,0)] []
def abD:Sc:=(jv 4 149).1
def uS (M:Md) (tP tR own h:Int) (k:Nat) (cs:List PV) (e p nx:Int):aG:=
 (.out (.ret (.aD []) (su M tP tR own h k e p nx cs)))
def Iw (M:Md) (tP tR own h:Int) (k:Nat) (cs:List PV) (e p nx q ec:Int) (b:Bool):aG:=
 (.test (!b)
 (.test (e==0)
 (.test (ec != 0)
 (.out (.ret (.aD []) (su M tP tR own h k ec q nx cs)))
 (uS M tP tR own h k cs e p nx))
 (uS M tP tR own h k cs e p nx))
 (.out (.ret (.aD []) [.ac [.p (.ps M.qn 2 M.va),.p (.ps M.Ip 3 M.V4),.p (.ps M.Ge 3 M.wG),.p (.ps M.Al 3 M.V5),.p (.ps M.so 3 M.V6),.p (.ps M.ny 2 M.Iq),.p (.ps M.V7 3 M.V8),.p (.sc (.bool M.st)),sI .u32 M.sn,.p (.ps M.V9 2 M.Wa),.p (.ps M.Wb 2 M.Wc),sI .i64 tP,sI .i64 tR,sI .u64 own,sI .i64 h,.ms 1 0 k 4 none,sI .i64 e,sI .i64 p,sI .i64 nx],.ob (eG.gr 160 true) (adP aC (adP AV.p cs))])))
theorem Ow (M:Md) (tP tR own h:Int) (k:Nat) (cs:List PV) (e p nx q ec:Int) (b:Bool):aE aeB env XO 1000000 134 ([AV.mp 0 0,sB b,sI tp ec,sI tp q]) ([qH M tP tR own h 1 k e p nx,dN cs]) abD=Iw M tP tR own h k cs e p nx q ec b:=by kernel_rfl
def XP (h:Int) (n:Nat) (k:Nat) (cs:List PV) (a op base res:Int) (dead:Bool):oP:=fc af8 av [] (fm 157 [(4,3),(0,1),(0,2)]) [(157,6,8),(157,6,9)] (af9 h n k cs a op base res dead)
def abE:Sc:=(jv 3 9).1
def uT (cs:List PV):aG:=
 (.out (.ret (.aD [sI .i64 0,sI .i64 6]) (gV cs)))
def Ix (h:Int) (n:Nat) (k:Nat) (cs:List PV) (a op base res:Int) (dead:Bool):aG:=
 (.call ⟨164,[.agg [sI .i64 h,.ms 0 0 n 4 none]],(gJ cs),sI .i64 0,(gJ cs)⟩
 (.test (decide (a<0))
 (uT cs)
 (.test (decide (a≥(↑n:Int)))
 (uT cs)
 (.need (sI .i64 (tp.wrap (tp.wrap ((↑n:Int)-1)-a))=sI tp (↑k:Int))
 (.must ((bA k n))
 (.must ((0+(aF k)*4+4).ble (adP aC (adP aC (adP AV.p cs))).length&&((cg (some (aeG (agq tp) "int" 1 8 false 8 8 (some (.int .i64 0)) true #[]).desc) ((adP aC (adP aC (adP AV.p cs))).getD (0+(aF k)*4) .az)).snd&&((cg (some (aeG (agq tp) "int" 1 8 false 8 8 (some (.int .i64 0)) true #[]).desc) ((adP aC (adP aC (adP AV.p cs))).getD (0+(aF k)*4+1) .az)).snd&&((cg (some (aeG (agq tp) "int" 1 8 false 8 8 (some (.int .i64 0)) true #[]).desc) ((adP aC (adP aC (adP AV.p cs))).getD (0+(aF k)*4+1+1) .az)).snd&&((cg (some (aeG agr "bool" 1 1 false 1 1 (some (.bool false)) true #[]).desc) ((adP aC (adP aC (adP AV.p cs))).getD (0+(aF k)*4+1+1+1) .az)).snd&&true))))&&true)
 (.need (AV.agg [(cg (aeF (aeG (agq tp) "int" 1 8 false 8 8 (aeF (vd tp 0)) true #[]).desc) ((adP aC (adP aC (adP AV.p cs))).getD (0+(aF k)*4) AV.az)).fst,(cg (aeF (aeG (agq tp) "int" 1 8 false 8 8 (aeF (vd tp 0)) true #[]).desc) ((adP aC (adP aC (adP AV.p cs))).getD (0+(aF k)*4+1) AV.az)).fst,(cg (aeF (aeG (agq tp) "int" 1 8 false 8 8 (aeF (vd tp 0)) true #[]).desc) ((adP aC (adP aC (adP AV.p cs))).getD (0+(aF k)*4+1+1) AV.az)).fst,(cg (aeF (aeG agr "bool" 1 1 false 1 1 (aeF (agu false)) true #[]).desc) ((adP aC (adP aC (adP AV.p cs))).getD (0+(aF k)*4+1+1+1) AV.az)).fst]=AV.agg [sI tp op,sI tp base,sI tp res,sB dead])
 (.test (op==3)
 (.out (.ret (.aD [sI .i64 0,sI .i64 0]) (gV cs)))
 (.out (.ret (.aD [sI .i64 res,sI .i64 0]) (gV cs)))))))))))
theorem Ox (h:Int) (n:Nat) (k:Nat) (cs:List PV) (a op base res:Int) (dead:Bool):aE aeB env (XP h n k cs a op base res dead) 1000000 157 ([AV.agg [sI tp h,AV.ms 0 0 n 4 aeE],sI tp a]) ([dN cs]) abE=Ix h n k cs a op base res dead:=by kernel_rfl
structure Lx where
 M:Md
 tP:Int
 tR:Int
 own:Int
structure Rw where
 h:Int
 k:Nat
 cs:List PV
 e:Int
 p:Int
 nx:Int
abbrev fR (X:Lx) (R:Rw):Mem:=[qH X.M X.tP X.tR X.own R.h 1 R.k R.e R.p R.nx,dN R.cs]
abbrev oB (X:Lx) (R:Rw):Mem:=[qH X.M X.tP X.tR X.own R.h 2 R.k R.e R.p R.nx,.dead,dN R.cs]
def dB (X:Lx) (f:FuncId) (args:List AV) (R R':Rw):Prop:=an aeB env f (.mp 0 0::args) (fR X R) (.aD []) (oB X R')
def Ask (X:Lx) (f:FuncId) (args:List AV) (v:AV) (R R':Rw):Prop:=an aeB env f (.mp 0 0::args) (fR X R) v (fR X R')
section
variable {X:Lx} {R:Rw}
theorem yz {n q:Int} (he:R.e≠0):dB X 131 [sI .i64 n,sI .i64 q] R R:=
 an.settle (l0:=X.M.cells++[sI .i64 X.tP,sI .i64 X.tR,sI .u64 X.own,sI .i64 R.h,.ms 1 0 R.k 4 none,sI .i64 R.e,sI .i64 R.p,sI .i64 R.nx]) (aa aI (KS X.M X.tP X.tR X.own R.h R.k R.cs R.e R.p R.nx n q 0 0 0 [] 0) (by
  simp only[su,aG.ok,aO]
  exact⟨by simpa using he,rfl⟩)) (aw 2)
theorem adT {n q:Int} {h2:Int} {k2:Nat} {c2:List PV} (he:R.e=0) (hd:an aeB env 159 [.agg [sI .i64 R.h,.ms 0 0 R.k 4 none],sI .i64 n] [dN R.cs] (.aD [.agg [sI .i64 h2,.ms 1 0 k2 4 none],sI .i64 0]) [dN R.cs,dN c2]) :
  dB X 131 [sI .i64 n,sI .i64 q] R ⟨h2,k2,c2,0,R.p,R.nx⟩:=by
 obtain⟨h,k,cs,e,p,nx⟩:=R
 simp only at he hd
 subst he
 refine an.kill (m':=[qH X.M X.tP X.tR X.own h2 2 k2 0 p nx,dN cs,dN c2]) (aa aI (KQ X.M X.tP X.tR X.own h k cs 0 p nx n q 0 h2 k2 c2 0) ?_) 1
 simp only[B4,gV,pz,nB,aG.ok,aO]
 exact⟨hd,rfl⟩
theorem aga {n q:Int} {ec:Int} (he:R.e=0) (XQ:ec≠0) (hd:an aeB env 159 [.agg [sI .i64 R.h,.ms 0 0 R.k 4 none],sI .i64 n] [dN R.cs] (.aD [.agg [sI .i64 0,.os none 0 0 []],sI .i64 ec]) [dN R.cs]) :
  dB X 131 [sI .i64 n,sI .i64 q] R ⟨R.h,R.k,R.cs,ec,q,R.nx⟩:=by
 obtain⟨h,k,cs,e,p,nx⟩:=R
 simp only at he hd
 subst he
 refine an.settle (l0:=X.M.cells++[sI .i64 X.tP,sI .i64 X.tR,sI .u64 X.own,sI .i64 h,.ms 1 0 k 4 none,sI .i64 ec,sI .i64 q,sI .i64 nx]) (aa aI (KR X.M X.tP X.tR X.own h k cs 0 p nx n q 0 0 0 [] ec) ?_) (aw 2)
 have h1:(ec != 0)=true:=by simpa using XQ
 have h2:(!(ec==0))=true:=by simpa using XQ
 simp only[XM,gV,Gi,br,aG.ok,aO,h1,h2,true_and]
 exact⟨hd,rfl⟩
theorem TX {n q:Int} (he:R.e≠0):dB X 132 [sI .i64 n,sI .i64 q] R R:=
 an.settle (l0:=X.M.cells++[sI .i64 X.tP,sI .i64 X.tR,sI .u64 X.own,sI .i64 R.h,.ms 1 0 R.k 4 none,sI .i64 R.e,sI .i64 R.p,sI .i64 R.nx]) (aa aI (KU X.M X.tP X.tR X.own R.h R.k R.cs R.e R.p R.nx n q 0 0 0 [] 0) (by
  simp only[su,aG.ok,aO]
  exact⟨by simpa using he,rfl⟩)) (aw 2)
theorem agb {n q:Int} {h2:Int} {k2:Nat} {c2:List PV} (he:R.e=0) (hd:an aeB env 161 [.agg [sI .i64 R.h,.ms 0 0 R.k 4 none],sI .i64 n] [dN R.cs] (.aD [.agg [sI .i64 h2,.ms 1 0 k2 4 none],sI .i64 0]) [dN R.cs,dN c2]) :
  dB X 132 [sI .i64 n,sI .i64 q] R ⟨h2,k2,c2,0,R.p,R.nx⟩:=by
 obtain⟨h,k,cs,e,p,nx⟩:=R
 simp only at he hd
 subst he
 refine an.kill (m':=[qH X.M X.tP X.tR X.own h2 2 k2 0 p nx,dN cs,dN c2]) (aa aI (KT X.M X.tP X.tR X.own h k cs 0 p nx n q 0 h2 k2 c2 0) ?_) 1
 simp only[B4,gV,pz,nB,aG.ok,aO]
 exact⟨hd,rfl⟩
theorem TY {q:Int} (he:R.e≠0):dB X 128 [sI .i64 q] R R:=
 an.settle (l0:=X.M.cells++[sI .i64 X.tP,sI .i64 X.tR,sI .u64 X.own,sI .i64 R.h,.ms 1 0 R.k 4 none,sI .i64 R.e,sI .i64 R.p,sI .i64 R.nx]) (aa aI (KW X.M X.tP X.tR X.own R.h R.k R.cs R.e R.p R.nx 0 q 0 0 0 [] 0) (by
  simp only[su,aG.ok,aO]
  exact⟨by simpa using he,rfl⟩)) (aw 2)
theorem agc {q:Int} {h2:Int} {k2:Nat} {c2:List PV} (he:R.e=0) (hd:an aeB env 155 [.agg [sI .i64 R.h,.ms 0 0 R.k 4 none]] [dN R.cs] (.aD [.agg [sI .i64 h2,.ms 1 0 k2 4 none],sI .i64 0]) [dN R.cs,dN c2]) :
  dB X 128 [sI .i64 q] R ⟨h2,k2,c2,0,R.p,R.nx⟩:=by
 obtain⟨h,k,cs,e,p,nx⟩:=R
 simp only at he hd
 subst he
 refine an.kill (m':=[qH X.M X.tP X.tR X.own h2 2 k2 0 p nx,dN cs,dN c2]) (aa aI (KV X.M X.tP X.tR X.own h k cs 0 p nx 0 q 0 h2 k2 c2 0) ?_) 1
 simp only[B4,gV,pz,nB,aG.ok,aO]
 exact⟨hd,rfl⟩
theorem abF {q:Int} (he:R.e≠0):dB X 85 [sI .i64 q] R R:=
 an.settle (l0:=X.M.cells++[sI .i64 X.tP,sI .i64 X.tR,sI .u64 X.own,sI .i64 R.h,.ms 1 0 R.k 4 none,sI .i64 R.e,sI .i64 R.p,sI .i64 R.nx]) (aa aI (KZ X.M X.tP X.tR X.own R.h R.k R.cs R.e R.p R.nx 0 q 0 0 0 [] 0) (by
  simp only[su,aG.ok,aO]
  exact⟨by simpa using he,rfl⟩)) (aw 2)
theorem XR {q:Int} {h2:Int} {k2:Nat} {c2:List PV} (he:R.e=0) (hd:an aeB env 119 [.agg [sI .i64 R.h,.ms 0 0 R.k 4 none]] [dN R.cs] (.aD [.agg [sI .i64 h2,.ms 1 0 k2 4 none],sI .i64 0]) [dN R.cs,dN c2]) :
  dB X 85 [sI .i64 q] R ⟨h2,k2,c2,0,R.p,R.nx⟩:=by
 obtain⟨h,k,cs,e,p,nx⟩:=R
 simp only at he hd
 subst he
 refine an.kill (m':=[qH X.M X.tP X.tR X.own h2 2 k2 0 p nx,dN cs,dN c2]) (aa aI (KX X.M X.tP X.tR X.own h k cs 0 p nx 0 q 0 h2 k2 c2 0) ?_) 1
 simp only[B4,gV,pz,nB,aG.ok,aO]
 exact⟨hd,rfl⟩
theorem XS {q:Int} {ec:Int} (he:R.e=0) (XQ:ec≠0) (hd:an aeB env 119 [.agg [sI .i64 R.h,.ms 0 0 R.k 4 none]] [dN R.cs] (.aD [.agg [sI .i64 0,.os none 0 0 []],sI .i64 ec]) [dN R.cs]) :
  dB X 85 [sI .i64 q] R ⟨R.h,R.k,R.cs,ec,q,R.nx⟩:=by
 obtain⟨h,k,cs,e,p,nx⟩:=R
 simp only at he hd
 subst he
 refine an.settle (l0:=X.M.cells++[sI .i64 X.tP,sI .i64 X.tR,sI .u64 X.own,sI .i64 h,.ms 1 0 k 4 none,sI .i64 ec,sI .i64 q,sI .i64 nx]) (aa aI (KY X.M X.tP X.tR X.own h k cs 0 p nx 0 q 0 0 0 [] ec) ?_) (aw 2)
 have h1:(ec != 0)=true:=by simpa using XQ
 have h2:(!(ec==0))=true:=by simpa using XQ
 simp only[XM,gV,Gi,br,aG.ok,aO,h1,h2,true_and]
 exact⟨hd,rfl⟩
theorem agd {n r q:Int} (he:R.e≠0):dB X 156 [sI .i64 n,sI .i64 r,sI .i64 q] R R:=
 an.settle (l0:=X.M.cells++[sI .i64 X.tP,sI .i64 X.tR,sI .u64 X.own,sI .i64 R.h,.ms 1 0 R.k 4 none,sI .i64 R.e,sI .i64 R.p,sI .i64 R.nx]) (aa aI (K0 X.M X.tP X.tR X.own R.h R.k R.cs R.e R.p R.nx n q r 0 0 [] 0) (by
  simp only[su,aG.ok,aO]
  exact⟨by simpa using he,rfl⟩)) (aw 2)
theorem age {n r q:Int} {h2:Int} {k2:Nat} {c2:List PV} (he:R.e=0) (hd:an aeB env 173 [.agg [sI .i64 R.h,.ms 0 0 R.k 4 none],sI .i64 n,sI .i64 r] [dN R.cs] (.aD [.agg [sI .i64 h2,.ms 1 0 k2 4 none],sI .i64 0]) [dN R.cs,dN c2]) :
  dB X 156 [sI .i64 n,sI .i64 r,sI .i64 q] R ⟨h2,k2,c2,0,R.p,R.nx⟩:=by
 obtain⟨h,k,cs,e,p,nx⟩:=R
 simp only at he hd
 subst he
 refine an.kill (m':=[qH X.M X.tP X.tR X.own h2 2 k2 0 p nx,dN cs,dN c2]) (aa aI (B5 X.M X.tP X.tR X.own h k cs 0 p nx n q r h2 k2 c2 0) ?_) 1
 simp only[B4,gV,pz,nB,aG.ok,aO]
 exact⟨hd,rfl⟩
end
def adU (f:FuncId):Bool:=ai f 131||(ai f 132||(ai f 128||(ai f 85||(ai f 156||(ai f 135||(ai f 163||(ai f 84||(ai f 116||(ai f 129||(ai f 133||ai f 136))))))))))
def nth (X:Lx) (R R1 R2 R3 R4 R5 R6 R7:Rw) (i:Nat):Rw:=match i with
 |0=>R1
 |1=>R2
 |2=>R3
 |3=>R4
 |4=>R5
 |5=>R6
 |_=>R7
def sq (X:Lx) (R R1 R2 R3 R4 R5 R6 R7:Rw) (i:Nat) (f:FuncId) (_:List AV) (_:Mem):Option (AV×Mem):=cond (adU f) (some (.aD [],oB X (nth X R R1 R2 R3 R4 R5 R6 R7 i))) (cond (ai f 134) (some (.aD [],fR X (nth X R R1 R2 R3 R4 R5 R6 R7 i))) none)
def agf (X:Lx) (R R1 R2 R3 R4 R5 R6 R7:Rw) (op r a b nn:Int) (tg:List Int) (ll le:List Ins) (q al:Int) (st mu:Bool):Env:=mz [(136,53,sB mu)]
def adV (X:Lx) (R R1 R2 R3 R4 R5 R6 R7:Rw) (op r a b nn:Int) (tg:List Int) (ll le:List Ins) (q v P Q:Int) (is:Bool) (i:Nat) (f:FuncId) (l:List AV) (m:Mem):Option (AV×Mem):=cond (ai f 130) (some (sI .i64 v,fR X (nth X R R1 R2 R3 R4 R5 R6 R7 i))) (cond (ai f 8) (some (.aD [.agg [sI .i64 P,sI .i64 Q],sB is],m)) (sq X R R1 R2 R3 R4 R5 R6 R7 i f l m))
def agh (X:Lx) (R R1 R2 R3 R4 R5 R6 R7:Rw) (op r a b nn:Int) (tg:List Int) (ll le:List Ins) (q v P Q:Int) (is:Bool):Nat→FuncId→List AV→Mem→Option (AV×Mem):=adV X R R1 R2 R3 R4 R5 R6 R7 op r a b nn tg ll le q v P Q is
def agi (X:Lx) (R R1 R2 R3 R4 R5 R6 R7:Rw) (op r a b nn:Int) (tg:List Int) (ll le:List Ins) (q v P Q:Int) (is:Bool):Env:=mz [(116,110,sB true),(116,140,.agg [sI .i64 P,sI .i64 Q])]
def agj (X:Lx) (R R1 R2 R3 R4 R5 R6 R7:Rw) (op r a b nn:Int) (tg:List Int) (ll le:List Ins) (q v P Q:Int) (is:Bool):Env:=mz [(116,110,sB false)]
abbrev cV (x0:Int) (x1:Int):List AV:=[.mp 0 0,sI .i64 x0,sI .i64 x1]
abbrev bV (x0:Lx) (x1:Rw):Mem:=[qH x0.M x0.tP x0.tR x0.own x1.h 2 x1.k x1.e x1.p x1.nx,.dead,.ob (eG.gr 160 true) (adP aC (adP aC (adP AV.p x1.cs)))]
abbrev bT (x0:Lx) (x1:Rw):Mem:=[qH x0.M x0.tP x0.tR x0.own x1.h 1 x1.k x1.e x1.p x1.nx,.ob (eG.gr 160 true) (adP aC (adP AV.p x1.cs))]
abbrev cQ (x0:Lx) (x1:Rw):Mem:=[qH x0.M x0.tP x0.tR x0.own x1.h 1 x1.k x1.e x1.p x1.nx,.ob (eG.gr 160 true) (adP aC (adP aC (adP AV.p x1.cs)))]
abbrev bt (x0:Lx) (x1:Rw):Mem:=[qH x0.M x0.tP x0.tR x0.own x1.h 2 x1.k x1.e x1.p x1.nx,.dead,.ob (eG.gr 160 true) (adP AV.p x1.cs)]
theorem TZ (X:Lx) (R:Rw) (R1:Rw) (R2:Rw) (R3:Rw) (R4:Rw) (R5:Rw) (R6:Rw) (R7:Rw) (P Q q:Int):aE aeB env (aJ aB av [] [] []) 1000000 135 ([AV.mp 0 0,AV.agg [sI tp P,sI tp Q],sI tp q]) (fR X R) (.ans 131 (.aD []) ((bt X R1)) (.ans 132 (.aD []) ((bt X R2)) .fin)) =
(.call ⟨131,(cV P q),(bT X R),.aD [],(bt X R1)⟩
 (.call ⟨132,(cV Q q),(cQ X R1),.aD [],(bt X R2)⟩
 (.out (.ret (.aD []) (bV X R2))))):=by kernel_rfl
abbrev gK (x0:Int) (x1:Int) (x2:Bool):AV:= .aD [sI .i64 x0,sI .i64 x1,.p (.sc (.bool x2))]
theorem T0 (X:Lx) (R:Rw) (R1:Rw) (R2:Rw) (R3:Rw) (R4:Rw) (R5:Rw) (R6:Rw) (R7:Rw) (op q tk tl:Int) (is:Bool):aE aeB env (aJ (fun f _ m=>cond (ai f 177) (some (.aD [sI .i64 tk,sI .i64 tl,sB is],m)) none) av [] [] []) 1000000 163 ([AV.mp 0 0,sI tp op,sI tp q]) (fR X R) (.ans 131 (.aD []) ((bt X R1)) (.ans 132 (.aD []) ((bt X R2)) .fin)) =
(.call ⟨177,[sI .i64 op],[],(gK tk tl is),[]⟩
 (.call ⟨131,(cV tk q),(bT X R),.aD [],(bt X R1)⟩
 (.call ⟨132,(cV tl q),(cQ X R1),.aD [],(bt X R2)⟩
 (.out (.ret (.aD []) (bV X R2)))))):=by kernel_rfl
abbrev cq (x0:Lx) (x1:Rw):Mem:=[qH x0.M x0.tP x0.tR x0.own x1.h 1 x1.k x1.e x1.p x1.nx,.ob (eG.gr 160 true) (adP AV.p x1.cs)]
def abG (X:Lx) (R:Rw) (R1:Rw) (R2:Rw) (R3:Rw) (R4:Rw) (R5:Rw) (R6:Rw) (R7:Rw) (op r a b nn:Int) (tg:List Int) (ll:List Ins) (le:List Ins) (q al:Int) (st:Bool) (mu:Bool):oP:=aJ (fun f _ m=>cond (ai f 162) (some (.aD [sI .u32 al,sB st],m)) none) av [] (fm 136 [(0,0),(0,2),(0,1),(0,3),(0,7),(0,4),(0,5),(0,6),(0,8)]) [(136,0,8)]
def adW (X:Lx) (R:Rw) (R1:Rw) (R2:Rw) (R3:Rw) (R4:Rw) (R5:Rw) (R6:Rw) (R7:Rw) (op r a b nn:Int) (tg:List Int) (ll:List Ins) (le:List Ins) (q al:Int) (st:Bool) (mu:Bool):Sc:=(.fork (.yes (.ans 134 (.aD []) ((cq X R1)) (.ans 163 (.aD []) ((bt X R2)) .fin))) (.fork (.yes (.ans 134 (.aD []) ((cq X R1)) (.ans 163 (.aD []) ((bt X R2)) .fin))) (.fork (.ans 134 (.aD []) ((cq X R1)) (.ans 163 (.aD []) ((bt X R2)) .fin)) (.fork (.fork (.ans 134 (.aD []) ((cq X R1)) (.ans 134 (.aD []) ((cq X R2)) (.ans 163 (.aD []) ((bt X R3)) .fin))) (.ans 134 (.aD []) ((cq X R1)) (.ans 163 (.aD []) ((bt X R2)) .fin))) (.fork (.ans 134 (.aD []) ((cq X R1)) (.ans 163 (.aD []) ((bt X R2)) .fin)) (.fork (.yes (.ans 134 (.aD []) ((cq X R1)) (.ans 163 (.aD []) ((bt X R2)) .fin))) (.fork (.ans 134 (.aD []) ((cq X R1)) (.ans 163 (.aD []) ((bt X R2)) .fin)) (.fork (.ans 134 (.aD []) ((cq X R1)) (.ans 134 (.aD []) ((cq X R2)) (.ans 163 (.aD []) ((bt X R3)) .fin))) (.ans 163 (.aD []) ((bt X R1)) .fin)))))))))
def gM (X:Lx) (R1:Rw) (R2:Rw) (op:Int) (q:Int):aG:=
 (.call ⟨163,(cV op q),(cQ X R1),.aD [],(bt X R2)⟩ (.out (.ret (.aD []) (bV X R2))))
def gN (X:Lx) (R:Rw) (R1:Rw) (R2:Rw) (op a:Int) (q:Int):aG:=
 (.call ⟨134,[.mp 0 0,.p (.sc (.bool (decide (ae1.wrap a<X.own)))),sI .i64 6,sI .i64 q],(bT X R),.aD [],(cq X R1)⟩ (gM X R1 R2 op q))
def iI (X:Lx) (R2:Rw) (R3:Rw) (op:Int) (q:Int):aG:=
 (.call ⟨163,(cV op q),(cQ X R2),.aD [],(bt X R3)⟩ (.out (.ret (.aD []) (bV X R3))))
def iJ (X:Lx) (R:Rw) (R1:Rw) (R2:Rw) (op a:Int) (q:Int):aG:=
 (.must true (.call ⟨134,[.mp 0 0,.p (.sc (.bool (decide (ae1.wrap a<ae1.wrap (↑X.M.ny:Int))))),sI .i64 6,sI .i64 q],(bT X R),.aD [],(cq X R1)⟩ (gM X R1 R2 op q)))
def iK (X:Lx) (R:Rw) (R1:Rw) (R2:Rw) (op:Int) (q:Int):aG:=
 (.call ⟨134,[.mp 0 0,.p (.sc (.bool (decide ((↑X.M.so:Int)>0)))),sI .i64 6,sI .i64 q],(bT X R),.aD [],(cq X R1)⟩ (gM X R1 R2 op q))
def og (X:Lx) (R:Rw) (R1:Rw) (R2:Rw) (R3:Rw) (R4:Rw) (R5:Rw) (R6:Rw) (R7:Rw) (op r a b nn:Int) (tg:List Int) (ll:List Ins) (le:List Ins) (q al:Int) (st:Bool) (mu:Bool):aG:=
 (.test (op==32)
 (.must (op==32)
 (gN X R R1 R2 op a q))
 (.test (op==33)
 (.must (op==33)
 (gN X R R1 R2 op a q))
 (.test (op==34)
 (gN X R R1 R2 op a q)
 (.test (op==36)
 (.test (decide (ae1.wrap a<ae1.wrap (↑X.M.ny:Int)))
 (.must (bE a X.M.ny&&true&&true&&(isBool (aA X.M.Iq (a.toNat*2+0))&&true&&dy (.p (.sc (.bool (aW (aA X.M.Iq (a.toNat*2+0)))))) (.p (.sc (.bool mu)))&&true)&&true)
 (.call ⟨134,[.mp 0 0,.p (.sc (.bool mu)),sI .i64 212,sI .i64 q],(bT X R),.aD [],(cq X R1)⟩
 (.must true
 (.call ⟨134,[.mp 0 0,.p (.sc (.bool (decide (ae1.wrap a<ae1.wrap (↑X.M.ny:Int))))),sI .i64 6,sI .i64 q],(cQ X R1),.aD [],(cq X R2)⟩
 (iI X R2 R3 op q)))))
 (iJ X R R1 R2 op a q))
 (.test (op==35)
 (iJ X R R1 R2 op a q)
 (.test (op==63)
 (.must (op==63)
 (iK X R R1 R2 op q))
 (.test (op==64)
 (iK X R R1 R2 op q)
 (.call ⟨162,[sI .i64 op],[],(ff al st),[]⟩
 (.test (st)
 (.call ⟨134,[.mp 0 0,.p (.sc (.bool (decide ((↑X.M.so:Int)>0)))),sI .i64 6,sI .i64 q],(bT X R),.aD [],(cq X R1)⟩
 (.call ⟨134,[.mp 0 0,.p (.sc (.bool (decide (a≤al)))),sI .i64 211,sI .i64 q],(cQ X R1),.aD [],(cq X R2)⟩
 (iI X R2 R3 op q)))
 (.call ⟨163,(cV op q),(bT X R),.aD [],(bt X R1)⟩
 (.out (.ret (.aD []) (bV X R1)))))))))))))
theorem nC (X:Lx) (R:Rw) (R1:Rw) (R2:Rw) (R3:Rw) (R4:Rw) (R5:Rw) (R6:Rw) (R7:Rw) (op r a b nn:Int) (tg:List Int) (ll:List Ins) (le:List Ins) (q al:Int) (st:Bool) (mu:Bool):aE aeB (agf X R R1 R2 R3 R4 R5 R6 R7 op r a b nn tg ll le q al st mu) (abG X R R1 R2 R3 R4 R5 R6 R7 op r a b nn tg ll le q al st mu) 1000000 136 ([AV.mp 0 0,cr op r a b nn tg ll le,sI tp q]) (fR X R) (adW X R R1 R2 R3 R4 R5 R6 R7 op r a b nn tg ll le q al st mu)=og X R R1 R2 R3 R4 R5 R6 R7 op r a b nn tg ll le q al st mu:=by kernel_rfl
abbrev fj (x0:Int):List AV:=[.mp 0 0,sI .i64 1,sI .i64 x0]
abbrev eI (x0:Int) (x1:Int):List AV:=[.mp 0 0,sI .u32 x0,sI .i64 x1]
def abH:oP:=aJ aB av [] (fm 116 [(0,0),(0,1),(0,3),(0,2),(0,4),(0,5),(0,6),(0,7),(0,8),(0,9)]) []
def adX (X:Lx) (R:Rw) (R1:Rw) (R2:Rw) (R3:Rw) (R4:Rw) (R5:Rw) (R6:Rw) (R7:Rw) (op r a b nn:Int) (tg:List Int) (ll:List Ins) (le:List Ins) (q v P Q:Int) (is:Bool):Sc:=(.fork (.ans 128 (.aD []) ((bt X R1)) .fin) (.fork (.yes (.ans 129 (.aD []) ((bt X R1)) .fin)) (.fork (.yes (.ans 129 (.aD []) ((bt X R1)) .fin)) (.fork (.ans 129 (.aD []) ((bt X R1)) .fin) (.fork (.ans 130 (sI .i64 v) ((cq X R1)) (.ans 131 (.aD []) ((bt X R2)) (.ans 128 (.aD []) ((bt X R3)) .fin))) (.fork (.ans 130 (sI .i64 v) ((cq X R1)) (.ans 131 (.aD []) ((bt X R2)) (.ans 131 (.aD []) ((bt X R3)) (.ans 132 (.aD []) ((bt X R4)) .fin)))) (.fork (.ans 133 (.aD []) ((bt X R1)) .fin) (.fork (.ans 131 (.aD []) ((bt X R1)) (.ans 128 (.aD []) ((bt X R2)) .fin)) (.fork (.ou 116 24 (agh X R R1 R2 R3 R4 R5 R6 R7 op r a b nn tg ll le q v P Q is 0) (.ans 134 (.aD []) ((cq X R2)) (.ans 135 (.aD []) ((bt X R3)) .fin))) (.no (.ans 136 (.aD []) ((bt X R1)) .fin)))))))))))
abbrev fJ (x0:Int) (x1:Int) (x2:Int) (x3:Int) (x4:Int) (x5:List Int) (x6:List Ins) (x7:List Ins) (x8:Int):List AV:=[.mp 0 0,.agg [sI .i64 x0,sI .i64 x1,sI .u32 x2,sI .u32 x3,sI .i32 x4,.p (.ps x5.length 1 (dg acU x5)),.p (.ps x6.length 8 (ak x6)),.p (.ps x7.length 8 (ak x7))],sI .i64 x8]
def gd (X:Lx) (R:Rw) (R1:Rw) (op r a b nn:Int) (tg:List Int) (ll:List Ins) (le:List Ins) (q:Int):aG:=
 (.call ⟨129,(fJ op r a b nn tg ll le q),(bT X R),.aD [],(bt X R1)⟩ (.out (.ret (.aD []) (bV X R1))))
def gh (X:Lx) (R1:Rw):aG:=
 (.out (.ret (.aD []) (bV X R1)))
def gO (X:Lx) (R3:Rw):aG:=
 (.out (.ret (.aD []) (bV X R3)))
def mL (X:Lx) (R:Rw) (R1:Rw) (R2:Rw) (R3:Rw) (R4:Rw) (R5:Rw) (R6:Rw) (R7:Rw) (op r a b nn:Int) (tg:List Int) (ll:List Ins) (le:List Ins) (q v P Q:Int) (is:Bool):aG:=
 (.test (op==0)
 (.call ⟨128,[.mp 0 0,sI .i64 q],(bT X R),.aD [],(bt X R1)⟩
 (gh X R1))
 (.test (op==2)
 (.must (op==2)
 (gd X R R1 op r a b nn tg ll le q))
 (.test (op==3)
 (.must (op==3)
 (gd X R R1 op r a b nn tg ll le q))
 (.test (op==4)
 (gd X R R1 op r a b nn tg ll le q)
 (.test (op==12)
 (.call ⟨130,(eI a q),(bT X R),sI .i64 v,(cq X R1)⟩
 (.call ⟨131,(cV v q),(cQ X R1),.aD [],(bt X R2)⟩
 (.call ⟨128,[.mp 0 0,sI .i64 q],(cQ X R2),.aD [],(bt X R3)⟩
 (gO X R3))))
 (.test (op==13)
 (.call ⟨130,(eI a q),(bT X R),sI .i64 v,(cq X R1)⟩
 (.call ⟨131,(fj q),(cQ X R1),.aD [],(bt X R2)⟩
 (.call ⟨131,(cV v q),(cQ X R2),.aD [],(bt X R3)⟩
 (.call ⟨132,(cV v q),(cQ X R3),.aD [],(bt X R4)⟩
 (.out (.ret (.aD []) (bV X R4)))))))
 (.test (op==14)
 (.call ⟨133,(fJ op r a b nn tg ll le q),(bT X R),.aD [],(bt X R1)⟩
 (gh X R1))
 (.test (op==15)
 (.call ⟨131,[.mp 0 0,sI .i64 X.tR,sI .i64 q],(bT X R),.aD [],(bt X R1)⟩
 (.call ⟨128,[.mp 0 0,sI .i64 q],(cQ X R1),.aD [],(bt X R2)⟩
 (.out (.ret (.aD []) (bV X R2)))))
 (.test (op==16)
 (.call ⟨8,[.agg (iQ X.M),sI .u32 a],[],(gp P Q is),[]⟩
 (.call ⟨134,[.mp 0 0,.p (.sc (.bool is)),sI .i64 6,sI .i64 q],(bT X R),.aD [],(cq X R2)⟩
 (.call ⟨135,[.mp 0 0,.agg [sI .i64 P,sI .i64 Q],sI .i64 q],(cQ X R2),.aD [],(bt X R3)⟩
 (gO X R3))))
 (.must (!(op==17))
 (.call ⟨136,(fJ op r a b nn tg ll le q),(bT X R),.aD [],(bt X R1)⟩
 (gh X R1))))))))))))
theorem lM (X:Lx) (R:Rw) (R1:Rw) (R2:Rw) (R3:Rw) (R4:Rw) (R5:Rw) (R6:Rw) (R7:Rw) (op r a b nn:Int) (tg:List Int) (ll:List Ins) (le:List Ins) (q v P Q:Int) (is:Bool):aE aeB env abH 1000000 116 ([AV.mp 0 0,cr op r a b nn tg ll le,sI tp q]) (fR X R) (adX X R R1 R2 R3 R4 R5 R6 R7 op r a b nn tg ll le q v P Q is)=mL X R R1 R2 R3 R4 R5 R6 R7 op r a b nn tg ll le q v P Q is:=by kernel_rfl
theorem T1 (X:Lx) (R:Rw) (R1:Rw) (R2:Rw) (R3:Rw) (R4:Rw) (R5:Rw) (R6:Rw) (R7:Rw) (op r a b nn:Int) (tg:List Int) (ll:List Ins) (le:List Ins) (q v P Q:Int) (is:Bool):aE aeB (agi X R R1 R2 R3 R4 R5 R6 R7 op r a b nn tg ll le q v P Q is) (aJ aB av [] (fm 116 [(0,0),(0,1),(0,2),(0,3),(0,4),(0,5),(0,6),(0,7),(0,8),(0,9),(0,10)]) [(116,0,10),(116,0,11)]) 1000000 116 ([AV.mp 0 0,cr op r a b nn tg ll le,sI tp q]) (fR X R) (.no (.no (.no (.no (.no (.no (.no (.no (.no (.yes (.ans 134 (.aD []) ((cq X R1)) (.ans 131 (.aD []) ((bt X R2)) (.fork (.ans 135 (.aD []) ((bt X R3)) .fin) .fin))))))))))))) =
(.must (!(op==0))
 (.must (!(op==2))
 (.must (!(op==3))
 (.must (!(op==4))
 (.must (!(op==12))
 (.must (!(op==13))
 (.must (!(op==14))
 (.must (!(op==15))
 (.must (!(op==16))
 (.must (op==17)
 (.must (dy (.p (.sc (.bool (decide ((↑X.M.Al:Int)>0))))) (sB true)&&true&&true)
 (.call ⟨134,[.mp 0 0,.p (.sc (.bool (decide (ae1.wrap a<ae1.wrap (↑X.M.qn:Int))))),sI .i64 6,sI .i64 q],(bT X R),.aD [],(cq X R1)⟩
 (.call ⟨131,(fj q),(cQ X R1),.aD [],(bt X R2)⟩
 (.test (decide (ae1.wrap a<ae1.wrap (↑X.M.qn:Int)))
 (.must (bE a X.M.qn&&true&&true&&(isInt tp (aA X.M.va (a.toNat*2))&&(isInt tp (aA X.M.va (a.toNat*2+1))&&true)&&true&&dy (.agg [sI .i64 (au (aA X.M.va (a.toNat*2))),sI .i64 (au (aA X.M.va (a.toNat*2+1)))]) (.agg [sI .i64 P,sI .i64 Q])&&true)&&true)
 (.call ⟨135,[.mp 0 0,.agg [sI .i64 P,sI .i64 Q],sI .i64 q],(cQ X R2),.aD [],(bt X R3)⟩
 (.out (.ret (.aD []) (bV X R3)))))
 (.out (.ret (.aD []) (bV X R2))))))))))))))))):=by kernel_rfl
theorem T2 (X:Lx) (R:Rw) (R1:Rw) (R2:Rw) (R3:Rw) (R4:Rw) (R5:Rw) (R6:Rw) (R7:Rw) (op r a b nn:Int) (tg:List Int) (ll:List Ins) (le:List Ins) (q v P Q:Int) (is:Bool):aE aeB (agj X R R1 R2 R3 R4 R5 R6 R7 op r a b nn tg ll le q v P Q is) (aJ aB av [] (fm 116 [(0,0),(0,1),(0,2),(0,3),(0,4),(0,5),(0,6),(0,7),(0,8),(0,9)]) [(116,0,10)]) 1000000 116 ([AV.mp 0 0,cr op r a b nn tg ll le,sI tp q]) (fR X R) (.no (.no (.no (.no (.no (.no (.no (.no (.no (.yes (.ans 134 (.aD []) ((cq X R1)) (.ans 131 (.aD []) ((bt X R2)) .fin)))))))))))) =
(.must (!(op==0))
 (.must (!(op==2))
 (.must (!(op==3))
 (.must (!(op==4))
 (.must (!(op==12))
 (.must (!(op==13))
 (.must (!(op==14))
 (.must (!(op==15))
 (.must (!(op==16))
 (.must (op==17)
 (.must (dy (.p (.sc (.bool (decide ((↑X.M.Al:Int)>0))))) (sB false)&&true&&true)
 (.call ⟨134,[.mp 0 0,sB false,sI .i64 6,sI .i64 q],(bT X R),.aD [],(cq X R1)⟩
 (.call ⟨131,(fj q),(cQ X R1),.aD [],(bt X R2)⟩
 (.out (.ret (.aD []) (bV X R2)))))))))))))))):=by kernel_rfl
abbrev qJ (x0:List Ins):List AV:=[.mp 0 0,.p (.ps x0.length 8 (ak x0))]
theorem T3 (X:Lx) (R:Rw) (R1:Rw) (R2:Rw) (R3:Rw) (R4:Rw) (R5:Rw) (R6:Rw) (R7:Rw) (op r a b nn:Int) (tg:List Int) (ll:List Ins) (le:List Ins) (q:Int):aE aeB env (aJ aB av [] [(129,0,0)] []) 1000000 129 ([AV.mp 0 0,cr op r a b nn tg ll le,sI tp q]) (fR X R) (.yes (.ans 156 (.aD []) ((bt X R1)) (.ans 84 (.aD []) ((bt X R2)) (.ans 85 (.aD []) ((bt X R3)) .fin)))) =
(.must (op != 4)
 (.call ⟨156,[.mp 0 0,sI .i64 op,sI .i64 r,sI .i64 q],(bT X R),.aD [],(bt X R1)⟩
 (.call ⟨84,(qJ ll),(cQ X R1),.aD [],(bt X R2)⟩
 (.call ⟨85,[.mp 0 0,sI .i64 q],(cQ X R2),.aD [],(bt X R3)⟩
 (.out (.ret (.aD []) (bV X R3))))))):=by kernel_rfl
theorem T4 (X:Lx) (R:Rw) (R1:Rw) (R2:Rw) (R3:Rw) (R4:Rw) (R5:Rw) (R6:Rw) (R7:Rw) (r a b nn:Int) (tg:List Int) (ll:List Ins) (le:List Ins) (q:Int):aE aeB env (aJ aB av [] [(129,0,1)] []) 1000000 129 ([AV.mp 0 0,cr 4 r a b nn tg ll le,sI tp q]) (fR X R) (.ans 131 (.aD []) ((bt X R1)) (.ans 156 (.aD []) ((bt X R2)) (.ans 84 (.aD []) ((bt X R3)) (.ans 85 (.aD []) ((bt X R4)) (.fork .fin (.ans 156 (.aD []) ((bt X R5)) (.ans 84 (.aD []) ((bt X R6)) (.ans 85 (.aD []) ((bt X R7)) .fin)))))))) =
(.call ⟨131,(fj q),(bT X R),.aD [],(bt X R1)⟩
 (.call ⟨156,[.mp 0 0,sI .i64 4,sI .i64 r,sI .i64 q],(cQ X R1),.aD [],(bt X R2)⟩
 (.call ⟨84,(qJ ll),(cQ X R2),.aD [],(bt X R3)⟩
 (.call ⟨85,[.mp 0 0,sI .i64 q],(cQ X R3),.aD [],(bt X R4)⟩
 (.test (R4.e != 0)
 (.out (.ret (.aD []) (bV X R4)))
 (.call ⟨156,[.mp 0 0,sI .i64 5,sI .i64 r,sI .i64 q],[qH X.M X.tP X.tR X.own R1.h 1 R1.k R4.e R4.p R4.nx,.dead],.aD [],(bt X R5)⟩
 (.call ⟨84,(qJ le),(cQ X R5),.aD [],(bt X R6)⟩
 (.call ⟨85,[.mp 0 0,sI .i64 q],(cQ X R6),.aD [],(bt X R7)⟩
 (.out (.ret (.aD []) (bV X R7))))))))))):=by kernel_rfl
abbrev K1 (x0:Lx) (x1:Rw) (x2:Rw):Mem:=[qH x0.M x0.tP x0.tR x0.own x1.h 2 x1.k x1.e x1.p x1.nx,.ob (eG.gr 160 true) (adP aC (adP aC (adP AV.p x2.cs))),.ob (eG.gr 160 true) (adP AV.p x1.cs)]
theorem T5 (X:Lx) (R:Rw) (R1:Rw) (R2:Rw) (R3:Rw) (R4:Rw) (R5:Rw) (R6:Rw) (R7:Rw) (r a b nn:Int) (tg:List Int) (ll:List Ins) (le:List Ins) (q:Int):aE aeB env (aJ aB av [] [(129,0,1)] []) 1000000 129 ([AV.mp 0 0,cr 4 r a b nn tg ll le,sI tp q]) (fR X R) (.ans 131 (.aD []) ((bt X R1)) (.ans 156 (.aD []) ((K1 X R2 R1)) (.ans 84 (.aD []) ((bt X R3)) (.ans 85 (.aD []) ((bt X R4)) (.fork .fin (.ans 156 (.aD []) ((bt X R5)) (.ans 84 (.aD []) ((bt X R6)) (.ans 85 (.aD []) ((bt X R7)) .fin)))))))) =
(.call ⟨131,(fj q),(bT X R),.aD [],(bt X R1)⟩
 (.call ⟨156,[.mp 0 0,sI .i64 4,sI .i64 r,sI .i64 q],(cQ X R1),.aD [],(K1 X R2 R1)⟩
 (.call ⟨84,(qJ ll),(cQ X R2),.aD [],(bt X R3)⟩
 (.call ⟨85,[.mp 0 0,sI .i64 q],(cQ X R3),.aD [],(bt X R4)⟩
 (.test (R4.e != 0)
 (.out (.ret (.aD []) (bV X R4)))
 (.call ⟨156,[.mp 0 0,sI .i64 5,sI .i64 r,sI .i64 q],[qH X.M X.tP X.tR X.own R1.h 1 R1.k R4.e R4.p R4.nx,.ob (eG.gr 160 true) (adP aC (adP aC (adP aC (adP aC (adP AV.p R1.cs)))))],.aD [],(bt X R5)⟩
 (.call ⟨84,(qJ le),(cQ X R5),.aD [],(bt X R6)⟩
 (.call ⟨85,[.mp 0 0,sI .i64 q],(cQ X R6),.aD [],(bt X R7)⟩
 (.out (.ret (.aD []) (bV X R7))))))))))):=by kernel_rfl
theorem ME {h h':Int} {t:Fr} {d:Bool} : ∀{o:List Fr} {b:Int},B0 h b (o++[t])→t.base≤h'→B0 h' b (o++[⟨t.op,t.base,t.res,d⟩])∧b≤t.base
 |[],_,⟨h1,h2,_,h4,h5,_⟩,hh=>⟨⟨h1,h2,hh,h4,h5,trivial⟩,h2⟩
 |f::o,b,⟨h1,h2,h3,h4,h5,h6⟩,hh=>by
  obtain⟨q1,q2⟩:=ME (o:=o) h6 hh
  exact⟨⟨h1,h2,by omega,h4,h5,q1⟩,by omega⟩
theorem nD {h h':Int} {o:List Fr} {t:Fr} {d:Bool} (hk:iG h (o++[t])) (h1:t.base≤h') (h2:h'≤1073741824):iG h' (o++[⟨t.op,t.base,t.res,d⟩]):=by
 cases o with
 |nil=>
  obtain⟨k1,k2,k3,k4,k5,k6,k7,k8⟩:=hk
  exact⟨k1,k2,k3,k4,trivial,by omega,h2,k8⟩
 |cons f o=>
  obtain⟨k1,k2,k3,k4,k5,k6,k7,k8⟩:=hk
  obtain⟨q1,q2⟩:=ME (d:=d) k5 h1
  exact⟨k1,k2,k3,k4,q1,by omega,h2,by simpa using k8⟩
theorem Iy {h op n:Int} (ho:op=2∨op=3∨op=4∨op=5) (hn:0≤n) (hn1:n≤1) : ∀{o:List Fr} {b:Int},B0 h b o→b≤h→B0 h b (o++[⟨op,h,n,false⟩])
 |[],_,_,hb=>⟨ho,hb,agB _,hn,hn1,trivial⟩
 |_::_,_,⟨h1,h2,h3,h4,h5,h6⟩,_=>⟨h1,h2,h3,h4,h5,Iy ho hn hn1 h6 h3⟩
theorem Iz {h op n:Int} {o:List Fr} (hk:iG h o) (ho:op=2∨op=3∨op=4∨op=5) (hn:0≤n) (hn1:n≤1) (hl:o.length<1000):iG h (o++[⟨op,h,n,false⟩]):=by
 cases o with
 |nil=>exact hk.elim
 |cons f o=>
  obtain⟨k1,k2,k3,k4,k5,k6,k7,k8⟩:=hk
  exact⟨k1,k2,k3,k4,Iy ho hn hn1 k5 k6,k6,k7,by simp at hl ⊢;omega⟩
theorem IA {h:Int} : ∀{l m:List Fr} {b:Int},B0 h b (l++m)→B0 h b l
 |[],_,_,_=>trivial
 |_::_,_,_,⟨h1,h2,h3,h4,h5,h6⟩=>⟨h1,h2,h3,h4,h5,IA h6⟩
theorem IB {h:Int} {l m:List Fr} (hk:iG h (l++m)) (hl:l≠[]):iG h l:=by
 cases l with
 |nil=>exact absurd rfl hl
 |cons f o=>
  obtain⟨k1,k2,k3,k4,k5,k6,k7,k8⟩:=hk
  exact⟨k1,k2,k3,k4,IA k5,k6,k7,by simp at k8;omega⟩
theorem EJ {h:Int} {s t:Fr} : ∀{o:List Fr} {b:Int},B0 h b (o++[s]++[t])→s.base≤t.base
 |[],_,⟨_,_,_,_,_,_,h2,_⟩=>h2
 |_::o,_,⟨_,_,_,_,_,h6⟩=>EJ (o:=o) h6
theorem Gj {h:Int} {s t:Fr} {o:List Fr} (hk:iG h (o++[s]++[t])):s.base≤t.base:=by
 cases o with
 |nil=>
  obtain⟨k1,k2,k3,k4,⟨_,q2,_⟩,k6,k7,k8⟩:=hk
  rw[k2];exact q2
 |cons f o=>
  obtain⟨k1,k2,k3,k4,k5,k6,k7,k8⟩:=hk
  exact EJ (o:=o) k5
def bR (l:List Fr):List Nat:=l.reverse.map fun f=>if f.op=3 then 0 else f.res.toNat
theorem T6 (l:List Fr) (t:Fr):bR (l++[t])=(if t.op=3 then 0 else t.res.toNat)::bR l:=by simp[bR]
structure sv (R:Rw) (o:List Fr) (t:Fr) (n:Nat):Prop where
 h:R.h=t.base+n
 k:R.k=o.length+1
 cs : ∃ex,R.cs=bq (o++[t])++ex
 ok:iG R.h (o++[t])
structure eJ (R:Rw) (o:List Fr) (t:Fr) (n c:Nat):Prop extends j9:sv R o t n where
 e:R.e=0
 nx:R.nx=c
 p0:R.p=0
 le:R.h≤c
def dX (o:List Fr) (t:Fr) (R:Rw):VR→Prop
 |.aU e q=>R.e=e∧e≠0∧R.p=q
 |.ok n d c=>eJ R o ⟨t.op,t.base,t.res,d⟩ n c
theorem mA {z:Int} (h1:0≤z) (h2:z≤18446744073709551615):ae1.wrap z=z:=by
 show z%18446744073709551616=z
 omega
section
variable {X:Lx} {R:Rw} {o:List Fr} {t:Fr} {n c:Nat}
theorem sv.K2 (g:sv R o t n):0≤t.base∧0≤t.res∧t.res≤1∧R.h≤1073741824∧o.length+1≤1000:=by
 obtain⟨q1,q2,q3⟩:=zJ g.ok
 obtain⟨m1,m2,m3,m4⟩:=lK g.ok t (by simp)
 exact⟨m1,m3,m4,q2,by simpa using q3⟩
theorem tv (g:eJ R o t n c) (m q:Nat) : ∃R',dB X 131 [sI .i64 m,sI .i64 q] R R'∧dX o t R' (bU q m n t.dead fun n'=> .ok n' t.dead c)∧R'.h≤R.h∧R'.nx=R.nx:=by
 obtain⟨ex,hex⟩:=g.cs
 obtain⟨b1,b2,b3,b4,b5⟩:=g.j9.K2
 have hh:=g.h
 have hle:=g.le
 by_cases hb:n<m∧t.dead=false
 · have hd:=XJ ex g.ok (n:=m) (by omega) (by omega) hb.2
   rw[←g.k,←hex] at hd
   refine⟨_,aga (X:=X) (q:=q) g.e (by decide) hd,?_,agB _,rfl⟩
   rw[bU,if_pos hb]
   exact⟨rfl,by decide,rfl⟩
 · rw[bU,if_neg hb]
   by_cases hm:m≤n
   · have hd:=abB ex g.ok (n:=m) (by omega) (by omega)
     rw[←g.k,←hex] at hd
     refine⟨_,adT (X:=X) (q:=q) g.e hd,⟨⟨?_,g.k,⟨[],by simp⟩,nD g.ok ?_ ?_⟩,rfl,g.nx,g.p0,?_⟩,?_,rfl⟩<;>simp only<;>omega
   · have hdd:t.dead=true:=by cases hd:t.dead<;>simp_all<;>omega
     have hd:=TU ex g.ok (n:=m) (by omega) (by omega) hdd
     rw[←g.k,←hex] at hd
     refine⟨_,adT (X:=X) (q:=q) g.e hd,⟨⟨?_,g.k,⟨[],by simp⟩,nD g.ok ?_ ?_⟩,rfl,g.nx,g.p0,?_⟩,?_,rfl⟩<;>simp only<;>omega
theorem T7 (g:eJ R o t n c) (m q:Nat) (hm:R.h+m≤c) (hc:c≤1000000000) : ∃R',dB X 132 [sI .i64 m,sI .i64 q] R R'∧eJ R' o t (n+m) c:=by
 obtain⟨ex,hex⟩:=g.cs
 obtain⟨b1,b2,b3,b4,b5⟩:=g.j9.K2
 have hh:=g.h
 have hd:=XK ex g.ok (n:=m) (by omega) (by omega)
 rw[←g.k,←hex] at hd
 refine⟨_,agb (X:=X) (q:=q) g.e hd,⟨⟨?_,g.k,⟨[],by simp⟩,nD (d:=t.dead) g.ok ?_ ?_⟩,rfl,g.nx,g.p0,?_⟩⟩<;>simp only<;>omega
theorem IC (g:eJ R o t n c) (q:Nat) : ∃R',dB X 128 [sI .i64 q] R R'∧eJ R' o ⟨t.op,t.base,t.res,true⟩ 0 c∧R'.h≤R.h:=by
 obtain⟨ex,hex⟩:=g.cs
 obtain⟨b1,b2,b3,b4,b5⟩:=g.j9.K2
 have hh:=g.h
 have hle:=g.le
 have hd:=XL ex g.ok
 rw[←g.k,←hex] at hd
 refine⟨_,agc (X:=X) (q:=q) g.e hd,⟨⟨?_,g.k,⟨[],by simp⟩,nD g.ok ?_ ?_⟩,rfl,g.nx,g.p0,?_⟩,?_⟩<;>simp only<;>omega
theorem agk {n r q:Int} {h2:Int} {k2:Nat} {c2:List PV} (he:R.e=0) (hd:an aeB env 173 [.agg [sI .i64 R.h,.ms 0 0 R.k 4 none],sI .i64 n,sI .i64 r] [dN R.cs] (.aD [.agg [sI .i64 h2,.ms 1 0 k2 4 none],sI .i64 0]) [dN R.cs,dN c2]) :
  an aeB env 156 [.mp 0 0,sI .i64 n,sI .i64 r,sI .i64 q] (fR X R) (.aD []) [qH X.M X.tP X.tR X.own h2 2 k2 0 R.p R.nx,dN R.cs,dN c2]:=by
 obtain⟨h,k,cs,e,p,nx⟩:=R
 simp only at he hd
 subst he
 refine aa aI (B5 X.M X.tP X.tR X.own h k cs 0 p nx n q r h2 k2 c2 0) ?_
 simp only[B4,gV,pz,nB,aG.ok,aO]
 exact⟨hd,rfl⟩
theorem Oy (g:eJ R o t n c) {op r:Int} (q:Nat) (hop:op=2∨op=3∨op=4∨op=5) (hr:0≤r) (CN:r≤1) (ho:o.length+1<1000) :
  ∃R',dB X 156 [sI .i64 op,sI .i64 r,sI .i64 q] R R'∧an aeB env 156 [.mp 0 0,sI .i64 op,sI .i64 r,sI .i64 q] (fR X R) (.aD []) [qH X.M X.tP X.tR X.own R'.h 2 R'.k R'.e R'.p R'.nx,dN R.cs,dN R'.cs] ∧
   eJ R' (o++[t]) ⟨op,R.h,r,false⟩ 0 c:=by
 obtain⟨ex,hex⟩:=g.cs
 have hle:=g.le
 have hd:=TV ex g.ok hop hr CN ho
 rw[←g.k,←hex] at hd
 refine⟨⟨R.h,o.length+2,bq (o++[t]++[⟨op,R.h,r,false⟩]),0,R.p,R.nx⟩,age (X:=X) (q:=q) g.e hd,agk (X:=X) (q:=q) g.e hd,⟨⟨?_,?_,⟨[],by simp⟩,Iz g.ok hop hr CN (by simpa using ho)⟩,rfl,g.nx,g.p0,hle⟩⟩
 · simp
 · simp
theorem Oz {s:Fr} (g:eJ R (o++[s]) t n c) (q:Nat) (hb:t.base+t.res≤c) (hc:c≤1000000000) :
  ∃R',dB X 85 [sI .i64 q] R R'∧dX o s R' (dx t.res.toNat n t.dead q (.ok ((t.base-s.base).toNat+t.res.toNat) s.dead c)):=by
 obtain⟨ex,hex⟩:=g.cs
 obtain⟨b1,b2,b3,b4,b5⟩:=g.j9.K2
 have hh:=g.h
 have hle:=g.le
 have hs:=Gj g.ok
 have hpre:iG R.h (o++[s]):=IB g.ok (by simp)
 obtain⟨s1,_⟩:=lK hpre s (by simp)
 have hk:R.k=(o++[s]).length+1:=g.k
 rw[dx,bU]
 have fin : ∀(R':Rw),R'=⟨t.base+t.res,(o++[s]).length,bq (o++[s]++[t]),0,R.p,R.nx⟩→dX o s R' (.ok ((t.base-s.base).toNat+t.res.toNat) s.dead c):=by
  intro R' e
  subst e
  refine⟨⟨?_,?_,⟨bq [t],by rw[←qo]⟩,nD (d:=s.dead) hpre ?_ ?_⟩,rfl,g.nx,g.p0,hb⟩<;>simp only[du,List.length_singleton]<;>omega
 by_cases K3:n<t.res.toNat∧t.dead=false
 · have hd:=zK ex g.ok (by omega) K3.2
   rw[←hk,←hex] at hd
   refine⟨_,XS (X:=X) (q:=q) g.e (by decide) hd,?_⟩
   rw[if_pos K3]
   exact⟨rfl,by decide,rfl⟩
 · rw[if_neg K3]
   by_cases hlt:t.res.toNat<n
   · have hd:=B3 ex g.ok (by omega)
     rw[←hk,←hex] at hd
     refine⟨_,XS (X:=X) (q:=q) g.e (by decide) hd,?_⟩
     rw[if_pos (by omega)]
     exact⟨rfl,by decide,rfl⟩
   · rw[if_neg (by omega)]
     by_cases heq:n=t.res.toNat
     · have hd:=Iv ex g.ok (by omega)
       rw[←hk,←hex] at hd
       exact⟨_,XR (X:=X) (q:=q) g.e hd,fin _ rfl⟩
     · have hdd:t.dead=true:=by cases hd:t.dead<;>simp_all<;>omega
       have hd:=B2 ex g.ok (by omega) hdd
       rw[←hk,←hex] at hd
       exact⟨_,XR (X:=X) (q:=q) g.e hd,fin _ rfl⟩
theorem OA (g:eJ R [] t n c) (q:Nat) :
  ∃R',dB X 85 [sI .i64 q] R R'∧match dx t.res.toNat n t.dead q (.ok 0 false 0) with
   |.aU e p=>R'.e=e∧R'.p=p
   |.ok .. =>R'.e=0∧R'.p=R.p:=by
 obtain⟨ex,hex⟩:=g.cs
 obtain⟨b1,b2,b3,b4,b5⟩:=g.j9.K2
 have hh:=g.h
 have hk:R.k=([]:List Fr).length+1:=g.k
 rw[dx,bU]
 by_cases K3:n<t.res.toNat∧t.dead=false
 · have hd:=zK ex g.ok (by omega) K3.2
   rw[←hk,←hex] at hd
   refine⟨_,XS (X:=X) (q:=q) g.e (by decide) hd,?_⟩
   rw[if_pos K3]
   exact⟨rfl,rfl⟩
 · rw[if_neg K3]
   by_cases hlt:t.res.toNat<n
   · have hd:=B3 ex g.ok (by omega)
     rw[←hk,←hex] at hd
     refine⟨_,XS (X:=X) (q:=q) g.e (by decide) hd,?_⟩
     rw[if_pos (by omega)]
     exact⟨rfl,rfl⟩
   · rw[if_neg (by omega)]
     by_cases heq:n=t.res.toNat
     · have hd:=Iv ex g.ok (by omega)
       rw[←hk,←hex] at hd
       exact⟨_,XR (X:=X) (q:=q) g.e hd,rfl,rfl⟩
     · have hdd:t.dead=true:=by cases hd:t.dead<;>simp_all<;>omega
       have hd:=B2 ex g.ok (by omega) hdd
       rw[←hk,←hex] at hd
       exact⟨_,XR (X:=X) (q:=q) g.e hd,rfl,rfl⟩
def sw (R:Rw) (b:Bool) (ec q:Int):Rw:=if b=true∨R.e≠0∨ec=0 then R else⟨R.h,R.k,R.cs,ec,q,R.nx⟩
theorem iL (b:Bool) (ec q:Int):Ask X 134 [sB b,sI .i64 ec,sI .i64 q] (.aD []) R (sw R b ec q):=by
 refine aa aI (Ow X.M X.tP X.tR X.own R.h R.k R.cs R.e R.p R.nx q ec b) ?_
 simp only[Iw,su,uS,su,aG.ok,aO]
 unfold sw
 refine⟨fun h1=>⟨fun h2=>⟨fun h3=> ?_,fun h3=> ?_⟩,fun h2=> ?_⟩,fun h1=> ?_⟩
 · rw[if_neg (by simp at h1 h2 h3;simp[h1,h2,h3])];rfl
 · rw[if_pos (.inr (.inr (by simpa using h3)))];rfl
 · rw[if_pos (.inr (.inl (by simpa using h2)))];rfl
 · rw[if_pos (.inl (by simpa using h1))];rfl
theorem Zk {l:List Fr} {a:Nat} {k:Nat} (h:(bR l)[a]? = some k) : ∃f,l[l.length-1-a]? = some f∧k=(if f.op=3 then 0 else f.res.toNat)∧a<l.length:=by
 have ha:a<l.length:=by
  obtain⟨h1,_⟩:=List.getElem?_eq_some_iff.1 h
  simpa[bR] using h1
 have hk:l.length-1-a<l.length:=by omega
 refine⟨l[l.length-1-a],df hk,?_,ha⟩
 have hr:l.reverse[a]? = some l[l.length-1-a]:=by
  rw[List.getElem?_reverse ha,df hk]
 rw[bR,en,hr] at h
 simpa using h.symm
theorem OB (g:sv R o t n) {a k:Nat} (h:(bR (o++[t]))[a]? = some k) :
  an aeB env 157 [.agg [sI .i64 R.h,.ms 0 0 R.k 4 none],sI .i64 a] [dN R.cs] (.aD [sI .i64 k,sI .i64 0]) [dN R.cs]:=by
 obtain⟨ex,hex⟩:=g.cs
 obtain⟨b1,b2,b3,b4,b5⟩:=g.K2
 have hl:(o++[t]).length=o.length+1:=by simp
 obtain⟨f,hf,hk,ha⟩:=Zk h
 obtain⟨m1,m2,m3,m4⟩:=lK g.ok f (mf hf)
 obtain⟨c0,c1,c2,c3⟩:=wI hf ex
 have hch:=Ir R.h (o++[t]) ex g.ok
 have hlen:(bq (o++[t])++ex).length=(o.length+1)*4+ex.length:=by rw[du,j7,hl]
 rw[hl] at hch hf c0 c1 c2 c3 ha
 rw[hex,g.k]
 refine aa aI (Ox R.h (o.length+1) (o.length+1-1-a) (bq (o++[t])++ex) a f.op f.base f.res f.dead) ?_
 have w1:tp.wrap (((o.length+1:Nat):Int)-1)=(o.length:Int):=by rw[aZ (by omega) (by omega)];omega
 have w2:tp.wrap ((o.length:Int)-a)=((o.length+1-1-a:Nat):Int):=by rw[aZ (by omega) (by omega)];omega
 have g1:decide ((a:Int)<0)=false:=by simp
 have g2:decide ((a:Int)≥((o.length+1:Nat):Int))=false:=by simp;omega
 simp only[Ix,gV,gJ,bA,uT,gV,br,aG.ok,aO,w1,w2,g1,g2,aeL,ri,c0,c1,c2,c3,cg,ko,isInt,isBool,au,aW,ik,bE,ov,hlen,dO,aeN,aeO,aey,jn,decide_eq_true_eq]
 refine⟨hch,by omega,by omega,fun h3=> ?_,fun h3=> ?_⟩
 · rw[hk,if_pos (by simpa using h3)];rfl
 · rw[hk,if_neg (by simpa using h3),Int.toNat_of_nonneg m3]
theorem yA (g:sv R o t n) (a:Nat) (ha:a<4294967296) (q:Nat) :
  Ask X 130 [sI .u32 a,sI .i64 q] (sI .i64 ((bR (o++[t])).getD a 0:Nat)) R (sw R (decide (a<(o++[t]).length)) 6 q):=by
 have hl:(o++[t]).length=o.length+1:=by simp
 have MZ:(bR (o++[t])).length=o.length+1:=by simp[bR]
 obtain⟨b1,b2,b3,b4,b5⟩:=g.K2
 have hgk:=g.k
 by_cases h:a<o.length+1
 · have hs:(bR (o++[t]))[a]? = some ((bR (o++[t])).getD a 0):=by
    rw[de,df (by omega)];rfl
   refine aa aI (EI X.M X.tP X.tR X.own R.h R.k R.cs R.e R.p R.nx a q ((bR (o++[t])).getD a 0:Nat) 0) ?_
   have w1:ae1.wrap (a:Int)=a:=mA (by omega) (by omega)
   have w2:ae1.wrap (R.k:Int)=R.k:=mA (by omega) (by omega)
   have w3:tp.wrap (a:Int)=a:=aZ (by omega) (by omega)
   have g1:decide ((a:Int)≥(R.k:Int))=false:=by simp;omega
   have hA:sw R (decide (a<(o++[t]).length)) 6 q=R:=by
    unfold sw;rw[if_pos (.inl (by simp;omega))]
   simp only[B6,su,gJ,fO,qp,aG.ok,aO,w1,w2,w3,g1,hA,pD,false_implies,true_implies,true_and]
   exact⟨OB g hs,fun _=>rfl,fun _=>rfl⟩
 · refine aa aI (EI X.M X.tP X.tR X.own R.h R.k R.cs R.e R.p R.nx a q 0 0) ?_
   have w1:ae1.wrap (a:Int)=a:=mA (by omega) (by omega)
   have w2:ae1.wrap (R.k:Int)=R.k:=mA (by omega) (by omega)
   have g1:decide ((a:Int)≥(R.k:Int))=true:=by simp;omega
   have hz:(bR (o++[t])).getD a 0=0:=by rw[de,dT (by omega)];rfl
   have hd:decide (a<(o++[t]).length)=false:=by simp;omega
   simp only[B6,su,gJ,fO,qp,aG.ok,aO,w1,w2,g1,hz,hd,Bool.true_eq_false,false_implies,true_implies,and_true]
   unfold sw
   refine⟨fun h2=> ?_,fun h2=> ?_⟩
   · rw[if_neg (by simp at h2;simp[h2])];rfl
   · rw[if_pos (.inr (.inl (by simpa using h2)))];rfl
end
section
variable {X:Lx} {R R1 R2 R3 R4 R5 R6 R7:Rw}
theorem T8 {P Q q:Int} (h1:dB X 131 [sI .i64 P,sI .i64 q] R R1) (h2:dB X 132 [sI .i64 Q,sI .i64 q] R1 R2):dB X 135 [.agg [sI .i64 P,sI .i64 Q],sI .i64 q] R R2:=by
 refine aa aI (TZ X R R1 R2 R R R R R P Q q) ?_
 simp only[bt,cQ,bT,bV,cV,aG.ok,aO]
 exact⟨h1,h2,trivial⟩
theorem T9 {op q tk tl:Int} {is:Bool} (h0:an aeB env 177 [sI .i64 op] [] (.aD [sI .i64 tk,sI .i64 tl,sB is]) []) (h1:dB X 131 [sI .i64 tk,sI .i64 q] R R1) (h2:dB X 132 [sI .i64 tl,sI .i64 q] R1 R2) :
  dB X 163 [sI .i64 op,sI .i64 q] R R2:=by
 refine aa aI (T0 X R R1 R2 R R R R R op q tk tl is) ?_
 simp only[bt,cQ,bT,bV,cV,gK,aG.ok,aO]
 exact⟨h0,h1,h2,trivial⟩
variable {op r a b nn q:Int} {tg:List Int} {ll le:List Ins}
theorem Ua (h:dB X 128 [sI .i64 q] R R1):dB X 116 [cr 0 r a b nn tg ll le,sI .i64 q] R R1:=by
 refine aa aI (lM X R R1 R R R R R R 0 r a b nn tg ll le q 0 0 0 true) ?_
 simp only[mL,bt,cQ,cq,bT,bV,fJ,gp,cV,eI,fj,gd,bt,bT,bV,fJ,gh,bV,gO,bV,aG.ok,aO,agx,qf,dO]
 exact h
theorem tw (ho:op=2∨op=3∨op=4) (h:dB X 129 [cr op r a b nn tg ll le,sI .i64 q] R R1):dB X 116 [cr op r a b nn tg ll le,sI .i64 q] R R1:=by
 refine aa aI (lM X R R1 R R R R R R op r a b nn tg ll le q 0 0 0 true) ?_
 rcases ho with rfl|rfl|rfl <;>
 · simp only[mL,bt,cQ,cq,bT,bV,fJ,gp,cV,eI,fj,gd,bt,bT,bV,fJ,gh,bV,gO,bV,aG.ok,aO,agx,qf,dO]
   exact h
theorem Ub {v:Int} (h1:Ask X 130 [sI .u32 a,sI .i64 q] (sI .i64 v) R R1) (h2:dB X 131 [sI .i64 v,sI .i64 q] R1 R2) (h3:dB X 128 [sI .i64 q] R2 R3):dB X 116 [cr 12 r a b nn tg ll le,sI .i64 q] R R3:=by
 refine aa aI (lM X R R1 R2 R3 R R R R 12 r a b nn tg ll le q v 0 0 true) ?_
 simp only[mL,bt,cQ,cq,bT,bV,fJ,gp,cV,eI,fj,gd,bt,bT,bV,fJ,gh,bV,gO,bV,aG.ok,aO,agx,qf,dO]
 exact⟨h1,h2,h3⟩
theorem ID {v:Int} (h1:Ask X 130 [sI .u32 a,sI .i64 q] (sI .i64 v) R R1) (h2:dB X 131 [sI .i64 1,sI .i64 q] R1 R2) (h3:dB X 131 [sI .i64 v,sI .i64 q] R2 R3) (h4:dB X 132 [sI .i64 v,sI .i64 q] R3 R4):dB X 116 [cr 13 r a b nn tg ll le,sI .i64 q] R R4:=by
 refine aa aI (lM X R R1 R2 R3 R4 R R R 13 r a b nn tg ll le q v 0 0 true) ?_
 simp only[mL,bt,cQ,cq,bT,bV,fJ,gp,cV,eI,fj,gd,bt,bT,bV,fJ,gh,bV,gO,bV,aG.ok,aO,agx,qf,dO]
 exact⟨h1,h2,h3,h4⟩
theorem OC (h:dB X 133 [cr 14 r a b nn tg ll le,sI .i64 q] R R1):dB X 116 [cr 14 r a b nn tg ll le,sI .i64 q] R R1:=by
 refine aa aI (lM X R R1 R R R R R R 14 r a b nn tg ll le q 0 0 0 true) ?_
 simp only[mL,bt,cQ,cq,bT,bV,fJ,gp,cV,eI,fj,gd,bt,bT,bV,fJ,gh,bV,gO,bV,aG.ok,aO,agx,qf,dO]
 exact h
theorem XT (h1:dB X 131 [sI .i64 X.tR,sI .i64 q] R R1) (h2:dB X 128 [sI .i64 q] R1 R2):dB X 116 [cr 15 r a b nn tg ll le,sI .i64 q] R R2:=by
 refine aa aI (lM X R R1 R2 R R R R R 15 r a b nn tg ll le q 0 0 0 true) ?_
 simp only[mL,bt,cQ,cq,bT,bV,fJ,gp,cV,eI,fj,gd,bt,bT,bV,fJ,gh,bV,gO,bV,aG.ok,aO,agx,qf,dO]
 exact⟨h1,h2⟩
theorem IE {P Q:Int} {is:Bool} (h0:an aeB env 8 [.agg X.M.cells,sI .u32 a] [] (.aD [.agg [sI .i64 P,sI .i64 Q],sB is]) []) (h1:Ask X 134 [sB is,sI .i64 6,sI .i64 q] (.aD []) R R1) (h2:dB X 135 [.agg [sI .i64 P,sI .i64 Q],sI .i64 q] R1 R2) :
  dB X 116 [cr 16 r a b nn tg ll le,sI .i64 q] R R2:=by
 refine aa aI (lM X R R R1 R2 R R R R 16 r a b nn tg ll le q 0 P Q is) ?_
 simp only[mL,bt,cQ,cq,bT,bV,fJ,gp,cV,eI,fj,gd,bt,bT,bV,fJ,gh,bV,gO,bV,aG.ok,aO,agx,qf,dO]
 exact⟨h0,h1,h2⟩
theorem OD (ho:op≠0∧op≠2∧op≠3∧op≠4∧op≠12∧op≠13∧op≠14∧op≠15∧op≠16∧op≠17) (h:dB X 136 [cr op r a b nn tg ll le,sI .i64 q] R R1):dB X 116 [cr op r a b nn tg ll le,sI .i64 q] R R1:=by
 refine aa aI (lM X R R1 R R R R R R op r a b nn tg ll le q 0 0 0 true) ?_
 obtain⟨k0,k1,k2,k3,k4,k5,k6,k7,k8,k9⟩:=ho
 have e0:(op==0)=false:=by simpa using k0
 have e1:(op==2)=false:=by simpa using k1
 have e2:(op==3)=false:=by simpa using k2
 have e3:(op==4)=false:=by simpa using k3
 have e4:(op==12)=false:=by simpa using k4
 have e5:(op==13)=false:=by simpa using k5
 have e6:(op==14)=false:=by simpa using k6
 have e7:(op==15)=false:=by simpa using k7
 have e8:(op==16)=false:=by simpa using k8
 have e9:(op==17)=false:=by simpa using k9
 simp only[mL,bt,cQ,cq,bT,bV,fJ,gp,cV,eI,fj,gd,bt,bT,bV,fJ,gh,bV,gO,bV,aG.ok,aO,e0,e1,e2,e3,e4,e5,e6,e7,e8,e9,qf,dO]
 exact h
theorem IF {P Q:Int} (ht:0<X.M.Al) (hn:X.M.qn≤1000000000) (ha:0≤a∧a<4294967296) (hc:a<X.M.qn→X.M.va.getD (a.toNat*2) .aU = .sc (.int .i64 P)∧X.M.va.getD (a.toNat*2+1) .aU = .sc (.int .i64 Q))
  (h1:Ask X 134 [sB (decide (a<X.M.qn)),sI .i64 6,sI .i64 q] (.aD []) R R1) (h2:dB X 131 [sI .i64 1,sI .i64 q] R1 R2) (h3:a<X.M.qn→dB X 135 [.agg [sI .i64 P,sI .i64 Q],sI .i64 q] R2 R3) (h4 : ¬a<X.M.qn→R3=R2) :
  dB X 116 [cr 17 r a b nn tg ll le,sI .i64 q] R R3:=by
 refine an.eN (rows:=[(116,110,sB true),(116,140,.agg [sI .i64 P,sI .i64 Q])]) ?_
 refine aa aI (T1 X R R1 R2 R3 R R R R 17 r a b nn tg ll le q 0 P Q true) ?_
 have w1:ae1.wrap a=a:=mA (by omega) (by omega)
 have w2:ae1.wrap (X.M.qn:Int)=X.M.qn:=mA (by omega) (by omega)
 have g1:decide ((X.M.Al:Int)>0)=true:=by simp;omega
 simp only[bt,cQ,cq,bT,bV,fj,br,aG.ok,aO,agx,qf,w1,w2,g1,eO,fV,aeN,true_and,and_true]
 refine⟨an.cW h1,an.cW h2,fun h=> ?_,fun h=> ?_⟩
 · have h:=of_decide_eq_true h
   obtain⟨c0,c1⟩:=hc h
   simp only[c0,c1,isInt,au,ik,dy,mV,oF,GC,Fh,bE,decide_true,aeN,jn,decide_eq_true_eq]
   refine⟨?_,?_⟩
   · exact⟨by omega,by omega⟩
   · exact an.cW (h3 h)
 · have h:=of_decide_eq_false h
   rw[h4 h]
theorem Uc (ht:X.M.Al=0) (h1:Ask X 134 [sB false,sI .i64 6,sI .i64 q] (.aD []) R R1) (h2:dB X 131 [sI .i64 1,sI .i64 q] R1 R2) :
  dB X 116 [cr 17 r a b nn tg ll le,sI .i64 q] R R2:=by
 refine an.eN (rows:=[(116,110,sB false)]) ?_
 refine aa aI (T2 X R R1 R2 R R R R R 17 r a b nn tg ll le q 0 0 0 true) ?_
 have g1:decide ((X.M.Al:Int)>0)=false:=by simp;omega
 simp only[bt,cQ,cq,bT,bV,fj,aG.ok,aO,agx,qf,g1,eO,fV,aeN,true_and,and_true]
 exact⟨an.cW h1,an.cW h2⟩
theorem abI (ho:op≠4) (h1:dB X 156 [sI .i64 op,sI .i64 r,sI .i64 q] R R1) (h2:dB X 84 [aL ll] R1 R2) (h3:dB X 85 [sI .i64 q] R2 R3):dB X 129 [cr op r a b nn tg ll le,sI .i64 q] R R3:=by
 refine aa aI (T3 X R R1 R2 R3 R R R R op r a b nn tg ll le q) ?_
 have e0:(op != 4)=true:=by simpa using ho
 simp only[bt,cQ,bT,bV,qJ,aG.ok,aO,e0,true_and,and_true]
 exact⟨h1,h2,h3⟩
theorem abJ (hE:R4.e≠0) (h1:dB X 131 [sI .i64 1,sI .i64 q] R R1) (h2:dB X 156 [sI .i64 4,sI .i64 r,sI .i64 q] R1 R2) (h3:dB X 84 [aL ll] R2 R3) (h4:dB X 85 [sI .i64 q] R3 R4):dB X 129 [cr 4 r a b nn tg ll le,sI .i64 q] R R4:=by
 refine aa aI (T4 X R R1 R2 R3 R4 R R R r a b nn tg ll le q) ?_
 have e0:(R4.e != 0)=true:=by simpa using hE
 simp only[bt,cQ,bT,bV,qJ,fj,aG.ok,aO,e0,dO]
 exact⟨h1,h2,h3,h4⟩
theorem Ud (h1:dB X 131 [sI .i64 1,sI .i64 q] R R1)
  (h2:an aeB env 156 [.mp 0 0,sI .i64 4,sI .i64 r,sI .i64 q] (fR X R1) (.aD []) [qH X.M X.tP X.tR X.own R2.h 2 R2.k R2.e R2.p R2.nx,dN R1.cs,dN R2.cs]) (h3:dB X 84 [aL ll] R2 R3) (h4:dB X 85 [sI .i64 q] R3 R4)
  (hE:R4.e≠0→R7=R4) (h5:R4.e=0→dB X 156 [sI .i64 5,sI .i64 r,sI .i64 q] ⟨R1.h,R1.k,R1.cs,R4.e,R4.p,R4.nx⟩ R5) (h6:R4.e=0→dB X 84 [aL le] R5 R6) (h7:R4.e=0→dB X 85 [sI .i64 q] R6 R7) :
  dB X 129 [cr 4 r a b nn tg ll le,sI .i64 q] R R7:=by
 refine aa aI (T5 X R R1 R2 R3 R4 R5 R6 R7 r a b nn tg ll le q) ?_
 simp only[bt,cQ,bT,bV,qJ,K1,fj,aG.ok,aO]
 refine⟨h1,h2,h3,h4,fun h=> ?_,fun h=> ?_⟩
 · rw[hE (by simpa using h)]
 · have h:R4.e=0:=by simpa using h
   exact⟨h5 h,h6 h,h7 h,trivial⟩
end
def Ao (_:FuncId) (_:List AV) (_:Mem):Option (AV×Mem):=none
theorem Ue (op:Int):aE aeB env (aJ Ao av [] [(184,2,3),(177,0,1),(177,0,2),(177,0,3),(177,0,4),(177,0,5),(177,0,6),(177,0,7),(177,0,8),(177,0,9),(177,0,10),(177,0,11),(177,0,12),(177,0,13),(177,0,14),(177,0,15),(177,0,16),(177,0,17),(177,0,18),(177,0,19)] []) 1000000 177 ([sI tp op]) ([]) (jv 21 71525573730467).1 =
(.must (decide (op<0))
 (.must (!(op==1))
 (.must (!(op==26))
 (.must (!(op==33))
 (.must (!(op==36))
 (.must (!(op==27))
 (.must (!(op==32))
 (.must (!(op==35))
 (.must (!(op==63))
 (.must (!(op==65))
 (.must (!(op==34))
 (.must (!(op==40))
 (.must (!(op==44))
 (.must (!(op==45))
 (.must (!(op==46))
 (.must (!(op==47))
 (.must (!(op==64))
 (.must (!(op==54))
 (.must (!(op==58))
 (.must (!(op==59))
 (.out (.ret (.aD [sI .i64 0,sI .i64 0,sB false]) [])))))))))))))))))))))):=by kernel_rfl
theorem Uf (op:Int):aE aeB env (aJ Ao av [] [(184,2,3),(184,0,0),(177,0,1),(177,0,2),(177,0,3),(177,0,4),(177,0,5),(177,0,6),(177,0,7),(177,0,8),(177,0,9),(177,0,10),(177,0,11),(177,0,12),(177,0,13),(177,0,14),(177,0,15),(177,0,16),(177,0,17),(177,0,18),(177,0,19)] []) 1000000 177 ([sI tp op]) ([]) (jv 22 357627868652338).1 =
(.must (!(decide (op<0)))
 (.must (decide (op>120))
 (.must (!(op==1))
 (.must (!(op==26))
 (.must (!(op==33))
 (.must (!(op==36))
 (.must (!(op==27))
 (.must (!(op==32))
 (.must (!(op==35))
 (.must (!(op==63))
 (.must (!(op==65))
 (.must (!(op==34))
 (.must (!(op==40))
 (.must (!(op==44))
 (.must (!(op==45))
 (.must (!(op==46))
 (.must (!(op==47))
 (.must (!(op==64))
 (.must (!(op==54))
 (.must (!(op==58))
 (.must (!(op==59))
 (.out (.ret (.aD [sI .i64 0,sI .i64 0,sB false]) []))))))))))))))))))))))):=by kernel_rfl
theorem Ug (op:Int):aE aeB env (aJ Ao av [] [(168,2,3),(168,2,6),(168,4,3),(168,4,10),(167,0,0),(167,0,1),(167,0,2),(167,0,3),(167,0,4),(167,0,5),(167,0,6),(167,0,7),(144,0,1),(144,8,3),(144,8,7),(144,0,2),(144,0,3),(144,12,3),(144,12,7),(144,12,11),(144,0,4),(144,14,3),(144,14,7)] []) 1000000 144 ([sI tp op]) ([]) (jv 24 8940696716308593).1 =
(.must (!(op==69))
 (.must (!(decide (op≥103)))
 (.must (!(decide (op≥70)))
 (.must (!(decide (op≥106)))
 (.must (!(op==40))
 (.must (!(op==54))
 (.must (!(op==46))
 (.must (!(op==47))
 (.must (!(op==59))
 (.must (!(op==44))
 (.must (!(op==45))
 (.must (!(op==58))
 (.must (!(op==1))
 (.must (!(op==26))
 (.must (!(op==33))
 (.must (!(op==36))
 (.must (!(op==27))
 (.must (!(op==32))
 (.must (!(op==35))
 (.must (!(op==63))
 (.must (!(op==65))
 (.must (!(op==34))
 (.must (!(op==64))
 (.out (.ret (.aD [sI .i64 0,sI .i64 0,sB false]) []))))))))))))))))))))))))):=by kernel_rfl
theorem Uh (op:Int):aE aeB env (aJ Ao av [] [(168,2,3),(168,2,6),(168,0,0),(168,4,3),(168,4,7),(168,4,10),(168,0,1),(167,0,0),(167,0,1),(167,0,2),(167,0,3),(167,0,4),(167,0,5),(167,0,6),(167,0,7),(144,0,1),(144,8,3),(144,8,7),(144,0,2),(144,0,3),(144,12,3),(144,12,7),(144,12,11),(144,0,4),(144,14,3),(144,14,7)] []) 1000000 144 ([sI tp op]) ([]) (jv 27 1117587089538570963).1 =
(.must (!(op==69))
 (.must (decide (op≥103))
 (.must (!(decide (op≤105)))
 (.must (decide (op≥70))
 (.must (!(decide (op≤79)))
 (.must (decide (op≥106))
 (.must (!(decide (op≤120)))
 (.must (!(op==40))
 (.must (!(op==54))
 (.must (!(op==46))
 (.must (!(op==47))
 (.must (!(op==59))
 (.must (!(op==44))
 (.must (!(op==45))
 (.must (!(op==58))
 (.must (!(op==1))
 (.must (!(op==26))
 (.must (!(op==33))
 (.must (!(op==36))
 (.must (!(op==27))
 (.must (!(op==32))
 (.must (!(op==35))
 (.must (!(op==63))
 (.must (!(op==65))
 (.must (!(op==34))
 (.must (!(op==64))
 (.out (.ret (.aD [sI .i64 0,sI .i64 0,sB false]) [])))))))))))))))))))))))))))):=by kernel_rfl
abbrev shV (op:Int):AV:= .aD [sI .i64 (gC op),sI .i64 (iw op),sB (wE op)]
theorem Ap {op:Int} (h:op<0∨120<op):shV op = .aD [sI .i64 0,sI .i64 0,sB false]:=by
 have h1:gC op=0:=by
  unfold gC
  rw[if_neg (by omega),if_neg (by omega),if_neg (by omega)]
 have h2:iw op=0:=by
  unfold iw
  rw[if_neg (by omega)]
 have h3:wE op=false:=by
  unfold wE
  rw[h1,h2]
  simp only[decide_eq_false_iff_not]
  omega
 rw[shV,h1,h2,h3]
 rfl
def arN (n:Nat):Int:=if n=69∨n=103∨n=104∨n=105 then 1 else if(70≤n∧n≤79)∨(106≤n∧n≤120) then 2 else 0
def arC:ct:=⟨188,[],[],.agg ((List.range 121).map fun n=>sI .i64 (arN n)),[]⟩
theorem arD:an aeB env arC.g arC.args arC.m arC.v arC.m':=cj aI (K:=[]) fZ (n:=1000000) (by kernel_rfl)
def arK:List ct:=[arC]
theorem Zl:eS aeB env arK:=dH arD fZ
def sx (n:Nat):Bool:=
 match xT aeB env arK 100000 177 [sI .i64 n] [] with
 |some (.ret v m)=>dy v (shV n)&&qW m []
 |_=>false
theorem XU:(pw 0 31).all sx=true:=by kernel_rfl
theorem XV:(pw 31 30).all sx=true:=by kernel_rfl
theorem XW:(pw 61 30).all sx=true:=by kernel_rfl
theorem XX:(pw 91 30).all sx=true:=by kernel_rfl
theorem K4 {n:Nat} (h:n<121):sx n=true:=by
 have get : ∀a k,(pw a k).all sx=true→a≤n→n<a+k→sx n=true:=fun a k ha h1 h2=>QQ.1 ha n (Lk.2 ⟨h1,h2⟩)
 rcases be n 31 with q|q
 · exact get 0 31 XU (by omega) (by omega)
 rcases be n 61 with q|q
 · exact get 31 30 XV (by omega) (by omega)
 rcases be n 91 with q|q
 · exact get 61 30 XW (by omega) (by omega)
 · exact get 91 30 XX (by omega) (by omega)
theorem IG (op:Int):an aeB env 177 [sI .i64 op] [] (shV op) []:=by
 by_cases h0:op<0
 · rw[Ap (.inl h0)]
   refine aa aI (Ue op) ?_
   simp only[aG.ok,ka,beq_eq_false_iff_ne,decide_eq_true_eq,decide_eq_false_iff_not]
   repeat' first|exact aeQ|exact rfl|apply aeX
   all_goals omega
 · by_cases h1:120<op
   · rw[Ap (.inr h1)]
     refine aa aI (Uf op) ?_
     simp only[aG.ok,ka,beq_eq_false_iff_ne,decide_eq_false_iff_not,decide_eq_true_eq]
     repeat' first|exact aeQ|exact rfl|apply aeX
     all_goals omega
   · obtain⟨n,rfl⟩:=agA (by omega:0≤op)
     have hr:=K4 (n:=n) (by omega)
     unfold sx at hr
     split at hr
     · rename_i v m hx
       rw[jn] at hr
       rw[kZ hr.1,lD hr.2] at hx
       exact cj aI Zl hx
     · cases hr
def sy (n:Nat):Bool:=
 match xT aeB env arK 100000 144 [sI .i64 n] [] with
 |some (.ret v m)=>dy v (shV n)&&qW m []
 |_=>false
theorem XY:(pw 0 31).all sy=true:=by kernel_rfl
theorem XZ:(pw 31 30).all sy=true:=by kernel_rfl
theorem X0:(pw 61 30).all sy=true:=by kernel_rfl
theorem X1:(pw 91 30).all sy=true:=by kernel_rfl
theorem K5 {n:Nat} (h:n<121):sy n=true:=by
 have get : ∀a k,(pw a k).all sy=true→a≤n→n<a+k→sy n=true:=fun a k ha h1 h2=>QQ.1 ha n (Lk.2 ⟨h1,h2⟩)
 rcases be n 31 with q|q
 · exact get 0 31 XY (by omega) (by omega)
 rcases be n 61 with q|q
 · exact get 31 30 XZ (by omega) (by omega)
 rcases be n 91 with q|q
 · exact get 61 30 X0 (by omega) (by omega)
 · exact get 91 30 X1 (by omega) (by omega)
theorem Ui (op:Int):an aeB env 144 [sI .i64 op] [] (shV op) []:=by
 by_cases h0:op<0
 · rw[Ap (.inl h0)]
   refine aa aI (Ug op) ?_
   simp only[aG.ok,ka,beq_eq_false_iff_ne,decide_eq_true_eq,decide_eq_false_iff_not]
   repeat' first|exact aeQ|exact rfl|apply aeX
   all_goals omega
 · by_cases h1:120<op
   · rw[Ap (.inr h1)]
     refine aa aI (Uh op) ?_
     simp only[aG.ok,ka,beq_eq_false_iff_ne,decide_eq_false_iff_not,decide_eq_true_eq]
     repeat' first|exact aeQ|exact rfl|apply aeX
     all_goals omega
   · obtain⟨n,rfl⟩:=agA (by omega:0≤op)
     have hr:=K5 (n:=n) (by omega)
     unfold sy at hr
     split at hr
     · rename_i v m hx
       rw[jn] at hr
       rw[kZ hr.1,lD hr.2] at hx
       exact cj aI Zl hx
     · cases hr
abbrev tgA (tg:List Int):AV:= .p (.ps tg.length 1 (dg .u32 tg))
def tbS (X:Lx) (R R1 R2 R3 R4 R5 R6 R7:Rw) (r a b nn:Int) (tg:List Int) (ll le:List Ins) (q:Int) (i k:Nat) (ms:List PV) (t v:Int):FuncId→Nat→Nat→Option (AV→AV):=cJ [(133,5,1,sI .u32 t),(133,7,0,sI .i64 ((i+1:Nat):Int))]
def tmS (X:Lx) (R R1 R2 R3 R4 R5 R6 R7:Rw) (q n x:Int) (i k:Nat) (ms:List PV):FuncId→Nat→Nat→Option (AV→AV):=cJ [(133,11,1,sI .i64 x),(133,13,0,sI .i64 ((i+1:Nat):Int))]
def liS (X:Lx) (R R1 R2 R3 R4 R5 R6 R7:Rw) (xs:List Ins) (i:Nat) (op r a b nn:Int) (tg:List Int) (ll le:List Ins):FuncId→Nat→Nat→Option (AV→AV):=cJ [(84,3,1,cr op r a b nn tg ll le),(84,5,4,sI .i64 (R.nx+1)),(84,7,0,sI .i64 ((i+1:Nat):Int))]
theorem Uj (X:Lx) (R:Rw) (R1:Rw) (R2:Rw) (R3:Rw) (R4:Rw) (R5:Rw) (R6:Rw) (R7:Rw) (r a b nn:Int) (tg:List Int) (ll:List Ins) (le:List Ins) (q:Int):aE aeB env (aJ aB av [(133,0),(133,2)] [] []) 1000000 133 ([AV.mp 0 0,cr 14 r a b nn tg ll le,sI tp q]) (fR X R) (.fin) =
(.at (ah aeB env 133 0 [.mp 0 0,sI .i64 q,.mp 2 0,bP,.p (.ps tg.length 1 (dg acU tg)),sI .i64 (↑tg.length:Int),sI .i64 0] ([qH X.M X.tP X.tR X.own R.h 1 R.k R.e R.p R.nx,.ob (eG.gr 160 true) (adP aC (adP AV.p R.cs)),.pc [sP 14,sP r,.sc (.int .u32 a),.sc (.int .u32 b),.sc (.int .i32 nn),.ps tg.length 1 (dg acU tg),.ps ll.length 8 (ak ll),.ps le.length 8 (ak le)]]) 2 55)):=by kernel_rfl
abbrev iR (x0:List Int) (x1:Nat) (x2:Int):Prop:=sI .u32 (au (aA (dg acU x0) (aF x1*1)))=sI acU x2
abbrev EK (x0:Lx) (x1:Rw) (x2:Int) (x3:Int) (x4:Int) (x5:Int) (x6:List Int) (x7:List Ins) (x8:List Ins):Mem:=[qH x0.M x0.tP x0.tR x0.own x1.h 1 x1.k x1.e x1.p x1.nx,.ob (eG.gr 160 true) (adP aC (adP aC (adP AV.p x1.cs))),.pc [sP 14,sP x2,.sc (.int .u32 x3),.sc (.int .u32 x4),.sc (.int .i32 x5),.ps x6.length 1 (dg acU x6),.ps x7.length 8 (ak x7),.ps x8.length 8 (ak x8)],.tok]
theorem II (X:Lx) (R:Rw) (R1:Rw) (R2:Rw) (R3:Rw) (R4:Rw) (R5:Rw) (R6:Rw) (R7:Rw) (r a b nn:Int) (tg:List Int) (ll:List Ins) (le:List Ins) (q:Int) (i:Nat) (k:Nat) (ms:List PV) (t v:Int):grow aeB env (fc aB av [(133,0),(133,2)] [(133,0,1)] [(133,5,0),(133,5,1)] (tbS X R R1 R2 R3 R4 R5 R6 R7 r a b nn tg ll le q i k ms t v)) 1000000 true (ah aeB env 133 0 ([AV.mp 0 0,sI tp q,AV.mp 2 0,AV.os aeE 0 0 [],tgA tg,sI tp (↑tg.length:Int),sI tp (↑i:Int)]) (fR X R++[bf.pc [PV.sc (vd tp 14),PV.sc (vd tp r),PV.sc (vd acU a),PV.sc (vd acU b),PV.sc (vd aeY nn),PV.ps tg.length 1 (dg acU tg),PV.ps ll.length 8 (ak ll),PV.ps le.length 8 (ak le)]]) 2 55) (.fork (.ans 130 (sI .i64 v) ((cq X R1)) .fin) (.ans 130 (sI .i64 v) ((cq X R1)) .fin)) atEnd =
(.test ((gB i tg))
 (.must ((gA i tg))
 (.must ((j5 tg i))
 (.need ((iR tg i t))
 (.call ⟨130,(eI t q),(bT X R),sI .i64 v,(cq X R1)⟩
 (.need ((bK i))
 (.at (ah aeB env 133 0 [.mp 0 0,sI .i64 q,.mp 2 0,.os (some 3) 1 1 [sP v],.p (.ps tg.length 1 (dg acU tg)),sI .i64 (↑tg.length:Int),sI .i64 (↑(i+1):Int)] ((EK X R1 r a b nn tg ll le)) 2 55)))))))
 (.call ⟨130,(eI a q),(bT X R),sI .i64 v,(cq X R1)⟩
 (.at (ah aeB env 133 2 [.mp 0 0,sI .i64 q,sI .i64 v,bP,sI .i64 0,sI .i64 0] ((cQ X R1)) 2 55)))):=by kernel_rfl
abbrev yB (x0:Lx) (x1:Rw):Mem:=[qH x0.M x0.tP x0.tR x0.own x1.h 1 x1.k x1.e x1.p x1.nx,.ob (eG.gr 160 true) (adP aC (adP aC (adP AV.p x1.cs))),.tok]
theorem IJ (X:Lx) (R:Rw) (R1:Rw) (R2:Rw) (R3:Rw) (R4:Rw) (R5:Rw) (R6:Rw) (R7:Rw) (r a b nn:Int) (tg:List Int) (ll:List Ins) (le:List Ins) (q:Int) (i:Nat) (k:Nat) (ms:List PV) (t v:Int):grow aeB env (fc aB av [(133,0),(133,2)] [(133,0,1)] (fm 133 [(5,0),(5,1),(6,6)]) (tbS X R R1 R2 R3 R4 R5 R6 R7 r a b nn tg ll le q i k ms t v)) 1000000 true (ah aeB env 133 0 ([AV.mp 0 0,sI tp q,AV.mp 2 0,AV.os (aeF 3) k 1 ms,tgA tg,sI tp (↑tg.length:Int),sI tp (↑i:Int)]) (fR X R++[bf.pc [PV.sc (vd tp 14),PV.sc (vd tp r),PV.sc (vd acU a),PV.sc (vd acU b),PV.sc (vd aeY nn),PV.ps tg.length 1 (dg acU tg),PV.ps ll.length 8 (ak ll),PV.ps le.length 8 (ak le)],bf.tok]) 2 55) (.fork (.ans 130 (sI .i64 v) ((cq X R1)) .fin) (.ans 130 (sI .i64 v) ((cq X R1)) .fin)) atEnd =
(.test ((gB i tg))
 (.must ((gA i tg))
 (.must ((j5 tg i))
 (.need ((iR tg i t))
 (.call ⟨130,(eI t q),(bT X R),sI .i64 v,(cq X R1)⟩
 (.must (((k+1)*8).ble eY&&(k+1).ble eY&&true)
 (.need ((bK i))
 (.at (ah aeB env 133 0 [.mp 0 0,sI .i64 q,.mp 2 0,.os (some 3) (k+1) 1 (ms++[sP v]),.p (.ps tg.length 1 (dg acU tg)),sI .i64 (↑tg.length:Int),sI .i64 (↑(i+1):Int)] ((EK X R1 r a b nn tg ll le)) 2 55))))))))
 (.call ⟨130,(eI a q),(bT X R),sI .i64 v,(cq X R1)⟩
 (.at (ah aeB env 133 2 [.mp 0 0,sI .i64 q,sI .i64 v,.os (some 2) k 1 ms,sI .i64 (↑k:Int),sI .i64 0] ((yB X R1)) 2 55)))):=by kernel_rfl
theorem Uk (X:Lx) (R:Rw) (R1:Rw) (R2:Rw) (R3:Rw) (R4:Rw) (R5:Rw) (R6:Rw) (R7:Rw) (q n x:Int) (i:Nat) (k:Nat) (ms:List PV):grow aeB env (fc aB av [(133,0),(133,2)] [] [] (tmS X R R1 R2 R3 R4 R5 R6 R7 q n x i k ms)) 1000000 true (ah aeB env 133 2 ([AV.mp 0 0,sI tp q,sI tp n,AV.os aeE 0 0 [],sI tp 0,sI tp (↑i:Int)]) (fR X R) 2 55) (.ans 131 (.aD []) ((bt X R1)) (.ans 131 (.aD []) ((bt X R2)) (.ans 128 (.aD []) ((bt X R3)) .fin))) atEnd =
(.call ⟨131,(fj q),(bT X R),.aD [],(bt X R1)⟩
 (.call ⟨131,(cV n q),(cQ X R1),.aD [],(bt X R2)⟩
 (.call ⟨128,[.mp 0 0,sI .i64 q],(cQ X R2),.aD [],(bt X R3)⟩
 (.out (.ret (.aD []) (bV X R3)))))):=by kernel_rfl
theorem IK (X:Lx) (R:Rw) (R1:Rw) (R2:Rw) (R3:Rw) (R4:Rw) (R5:Rw) (R6:Rw) (R7:Rw) (q n x:Int) (i:Nat) (k:Nat) (ms:List PV):grow aeB env (fc aB av [(133,0),(133,2)] [(133,0,3)] [(133,11,0),(133,11,1)] (tmS X R R1 R2 R3 R4 R5 R6 R7 q n x i k ms)) 1000000 true (ah aeB env 133 2 ([AV.mp 0 0,sI tp q,sI tp n,AV.os (aeF 2) k 1 ms,sI tp (↑k:Int),sI tp (↑i:Int)]) (fR X R++[bf.tok]) 2 55) (.fork (.ans 134 (.aD []) ((cq X R1)) .fin) (.ans 131 (.aD []) ((bt X R1)) (.ans 131 (.aD []) ((bt X R2)) (.ans 128 (.aD []) ((bt X R3)) .fin)))) atEnd =
(.test ((bh i k))
 (.must ((bA i k))
 (.must (isInt tp (aA ms (aF i*1))&&true)
 (.need (sI .i64 (au (aA ms (aF i*1)))=sI tp x)
 (.call ⟨134,[.mp 0 0,.p (.sc (.bool (x==n))),sI .i64 214,sI .i64 q],(bT X R),.aD [],(cq X R1)⟩
 (.need ((bK i))
 (.at (ah aeB env 133 2 [.mp 0 0,sI .i64 q,sI .i64 n,.os (some 2) k 1 ms,sI .i64 (↑k:Int),sI .i64 (↑(i+1):Int)] ((yB X R1)) 2 55)))))))
 (.call ⟨131,(fj q),(bT X R),.aD [],(bt X R1)⟩
 (.call ⟨131,(cV n q),(cQ X R1),.aD [],(bt X R2)⟩
 (.call ⟨128,[.mp 0 0,sI .i64 q],(cQ X R2),.aD [],(bt X R3)⟩
 (.out (.ret (.aD []) (bV X R3))))))):=by kernel_rfl
theorem B7 (X:Lx) (R:Rw) (R1:Rw) (R2:Rw) (R3:Rw) (R4:Rw) (R5:Rw) (R6:Rw) (R7:Rw) (xs:List Ins):aE aeB env (aJ aB av [(84,0)] [] []) 1000000 84 ([AV.mp 0 0,aL xs]) (fR X R) (.fin) =
(.at (ah aeB env 84 0 [.mp 0 0,.p (.ps xs.length 8 (ak xs)),sI .i64 (↑xs.length:Int),sI .i64 0] ((bT X R)) 2 32)):=by kernel_rfl
abbrev qq (x0:Lx) (x1:Rw):Mem:=[qH x0.M x0.tP x0.tR x0.own x1.h 1 x1.k x1.e x1.p (x1.nx+1),.ob (eG.gr 160 true) (adP aC (adP AV.p x1.cs))]
def abK (X:Lx) (R:Rw) (R1:Rw) (R2:Rw) (R3:Rw) (R4:Rw) (R5:Rw) (R6:Rw) (R7:Rw) (xs:List Ins) (i:Nat) (op r a b nn:Int) (tg:List Int) (ll:List Ins) (le:List Ins):oP:=fc aB av [(84,0)] [(84,0,1),(84,0,2)] [(84,3,0),(84,3,1)] (liS X R R1 R2 R3 R4 R5 R6 R7 xs i op r a b nn tg ll le)
def adZ (X:Lx) (R:Rw) (R1:Rw) (R2:Rw) (R3:Rw) (R4:Rw) (R5:Rw) (R6:Rw) (R7:Rw) (xs:List Ins) (i:Nat) (op r a b nn:Int) (tg:List Int) (ll:List Ins) (le:List Ins):Sc:=(.fork (.fork .fin (.ans 116 (.aD []) ((bt X R1)) .fin)) .fin)
def mP (X:Lx) (R:Rw):aG:=
 (.out (.ret (.aD []) (bT X R)))
def wJ (X:Lx) (R:Rw) (R1:Rw) (R2:Rw) (R3:Rw) (R4:Rw) (R5:Rw) (R6:Rw) (R7:Rw) (xs:List Ins) (i:Nat) (op r a b nn:Int) (tg:List Int) (ll:List Ins) (le:List Ins):aG:=
 (.test ((dh i xs))
 (.must ((gk i xs))
 (.must ((qb xs i))
 (.need ((qc xs i op r a b nn tg ll le))
 (.test (R.e != 0)
 (mP X R)
 (.need (sI .i64 (tp.wrap (R.nx+1))=sI tp (R.nx+1))
 (.call ⟨116,[.mp 0 0,.agg [sI .i64 op,sI .i64 r,sI .u32 a,sI .u32 b,sI .i32 nn,.p (.ps tg.length 1 (dg acU tg)),.p (.ps ll.length 8 (ak ll)),.p (.ps le.length 8 (ak le))],sI .i64 (R.nx+1)],(qq X R),.aD [],(bt X R1)⟩
 (.need ((bK i))
 (.at (ah aeB env 84 0 [.mp 0 0,.p (.ps xs.length 8 (ak xs)),sI .i64 (↑xs.length:Int),sI .i64 (↑(i+1):Int)] ((bV X R1)) 2 32)))))))))
 (mP X R))
theorem wK (X:Lx) (R:Rw) (R1:Rw) (R2:Rw) (R3:Rw) (R4:Rw) (R5:Rw) (R6:Rw) (R7:Rw) (xs:List Ins) (i:Nat) (op r a b nn:Int) (tg:List Int) (ll:List Ins) (le:List Ins):grow aeB env (abK X R R1 R2 R3 R4 R5 R6 R7 xs i op r a b nn tg ll le) 1000000 true (ah aeB env 84 0 ([AV.mp 0 0,aL xs,sI tp (↑xs.length:Int),sI tp (↑i:Int)]) (fR X R) 2 32) (adZ X R R1 R2 R3 R4 R5 R6 R7 xs i op r a b nn tg ll le) atEnd=wJ X R R1 R2 R3 R4 R5 R6 R7 xs i op r a b nn tg ll le:=by kernel_rfl
def abL (X:Lx) (R:Rw) (R1:Rw) (R2:Rw) (R3:Rw) (R4:Rw) (R5:Rw) (R6:Rw) (R7:Rw) (xs:List Ins) (i:Nat) (op r a b nn:Int) (tg:List Int) (ll:List Ins) (le:List Ins):oP:=fc aB av [(84,0)] [(84,0,1),(84,0,2)] [(84,3,0),(84,3,1)] (liS X R R1 R2 R3 R4 R5 R6 R7 xs i op r a b nn tg ll le)
def ad0 (X:Lx) (R:Rw) (R1:Rw) (R2:Rw) (R3:Rw) (R4:Rw) (R5:Rw) (R6:Rw) (R7:Rw) (xs:List Ins) (i:Nat) (op r a b nn:Int) (tg:List Int) (ll:List Ins) (le:List Ins):Sc:=(.fork (.fork .fin (.ans 116 (.aD []) ((bt X R1)) .fin)) .fin)
def pE (X:Lx) (R:Rw):aG:=
 (.out (.ret (.aD []) [qH X.M X.tP X.tR X.own R.h 2 R.k R.e R.p R.nx,.dead,.ob (eG.gr 160 true) (adP aC (adP AV.p R.cs))]))
def Aq (X:Lx) (R:Rw) (R1:Rw) (R2:Rw) (R3:Rw) (R4:Rw) (R5:Rw) (R6:Rw) (R7:Rw) (xs:List Ins) (i:Nat) (op r a b nn:Int) (tg:List Int) (ll:List Ins) (le:List Ins):aG:=
 (.test ((dh i xs))
 (.must ((gk i xs))
 (.must ((qb xs i))
 (.need ((qc xs i op r a b nn tg ll le))
 (.test (R.e != 0)
 (pE X R)
 (.need (sI .i64 (tp.wrap (R.nx+1))=sI tp (R.nx+1))
 (.call ⟨116,[.mp 0 0,.agg [sI .i64 op,sI .i64 r,sI .u32 a,sI .u32 b,sI .i32 nn,.p (.ps tg.length 1 (dg acU tg)),.p (.ps ll.length 8 (ak ll)),.p (.ps le.length 8 (ak le))],sI .i64 (R.nx+1)],(qq X R),.aD [],(bt X R1)⟩
 (.need ((bK i))
 (.at (ah aeB env 84 0 [.mp 0 0,.p (.ps xs.length 8 (ak xs)),sI .i64 (↑xs.length:Int),sI .i64 (↑(i+1):Int)] ((bV X R1)) 2 32)))))))))
 (pE X R))
theorem B8 (X:Lx) (R:Rw) (R1:Rw) (R2:Rw) (R3:Rw) (R4:Rw) (R5:Rw) (R6:Rw) (R7:Rw) (xs:List Ins) (i:Nat) (op r a b nn:Int) (tg:List Int) (ll:List Ins) (le:List Ins):grow aeB env (abL X R R1 R2 R3 R4 R5 R6 R7 xs i op r a b nn tg ll le) 1000000 true (ah aeB env 84 0 ([AV.mp 0 0,aL xs,sI tp (↑xs.length:Int),sI tp (↑i:Int)]) (oB X R) 2 32) (ad0 X R R1 R2 R3 R4 R5 R6 R7 xs i op r a b nn tg ll le) atEnd=Aq X R R1 R2 R3 R4 R5 R6 R7 xs i op r a b nn tg ll le:=by kernel_rfl
structure X2 (X:Lx) (V:fS):Prop where
 ret:X.tR=V.ret
 X3:V.ret≤1
 own:X.own=V.own
 agn:V.own≤1000000000
 ty : ∀a:Nat,a<4294967296→match V.ty a with
  |some (p,r)=>r≤1∧an aeB env 8 [.agg X.M.cells,sI .u32 a] [] (.aD [.agg [sI .i64 p,sI .i64 r],sB true]) []
  |none=>an aeB env 8 [.agg X.M.cells,sI .u32 a] [] (.aD [.agg [sI .i64 0,sI .i64 0],sB false]) []
 qn:X.M.qn≤1000000000
 ind : ∀a:Nat,if 0<X.M.Al∧a<X.M.qn then ∃p r:Nat,V.ind a=some (p,r)∧r≤1∧X.M.va.getD (a*2) .aU = .sc (.int .i64 p)∧X.M.va.getD (a*2+1) .aU = .sc (.int .i64 r) else V.ind a=none
 ny:X.M.ny=V.cX.length
 glM:V.cX.length≤1000000000
 gl : ∀(a:Nat) (b:Bool),V.cX[a]? = some b→X.M.Iq.getD (a*2+0) .aU = .sc (.bool b)
 me:V.mem=decide (0<X.M.so)
def _root_.Go.Am.VR.and (v:VR) (F:Nat→Bool→Nat→VR):VR:=match v with
 |.aU e q=> .aU e q
 |.ok n d c=>F n d c
theorem pF {q k n c:Nat} {d:Bool} {F:Nat→Bool→Nat→VR}:(bU q k n d fun m=> .ok m d c).and F=bU q k n d fun m=>F m d c:=by
 unfold bU;split<;>rfl
section
variable {X:Lx} {V:fS} {R:Rw} {o:List Fr} {t:Fr} {n c:Nat}
theorem B9 {R1:Rw} {v:VR} {F:Nat→Bool→Nat→VR} {f:FuncId} {args:List AV} (h:dX o t R1 v) (hE : ∀R:Rw,R.e≠0→dB X f args R R)
  (hG : ∀n d c,v = .ok n d c→eJ R1 o ⟨t.op,t.base,t.res,d⟩ n c → ∃R2,dB X f args R1 R2∧dX o t R2 (F n d c)) : ∃R2,dB X f args R1 R2∧dX o t R2 (v.and F):=by
 cases v with
 |aU e q=>exact⟨R1,hE R1 (by rw[h.1];exact h.2.1),h⟩
 |ok n d c=>exact hG _ _ _ rfl h
theorem MF {P Q q:Int} (he:R.e≠0):dB X 135 [.agg [sI .i64 P,sI .i64 Q],sI .i64 q] R R:=T8 (yz he) (TX he)
theorem X4 {op q:Int} (he:R.e≠0):dB X 163 [sI .i64 op,sI .i64 q] R R:=T9 (IG op) (yz he) (TX he)
theorem Ca (g:eJ R o t n c) (hle:R.h+1≤c) (hc:c≤1000000000) (p r q:Nat) (hr:r≤1) :
  ∃R1 R2,dB X 131 [sI .i64 p,sI .i64 q] R R1∧dB X 132 [sI .i64 r,sI .i64 q] R1 R2∧dX o t R2 (bU q p n t.dead fun n1=> .ok (n1+r) t.dead c):=by
 obtain⟨R1,r1,a1,h1,x1⟩:=tv (X:=X) g p q
 have Gv:=g.nx
 obtain⟨R2,r2,a2⟩:=B9 (X:=X) (F:=fun m d c=> .ok (m+r) d c) (f:=132) (args:=[sI .i64 r,sI .i64 q]) a1 (fun R he=>TX he) (fun n' d c' hv g'=>by
  have:=g'.nx
  obtain⟨R2,r2,a2⟩:=T7 (X:=X) g' r q (by omega) (by omega)
  exact⟨R2,r2,a2⟩)
 rw[pF] at a2
 exact⟨R1,R2,r1,r2,a2⟩
theorem MG (g:eJ R o t n c) (hle:R.h+1≤c) (hc:c≤1000000000) (p r q:Nat) (hr:r≤1) :
  ∃R',dB X 135 [.agg [sI .i64 p,sI .i64 r],sI .i64 q] R R'∧dX o t R' (bU q p n t.dead fun n1=> .ok (n1+r) t.dead c):=by
 obtain⟨R1,R2,r1,r2,a2⟩:=Ca (X:=X) g hle hc p r q hr
 exact⟨R2,T8 r1 r2,a2⟩
theorem X5 (g:eJ R o t n c) (hle:R.h+1≤c) (hc:c≤1000000000) (op:Int) (q:Nat) :
  ∃R',dB X 163 [sI .i64 op,sI .i64 q] R R'∧dX o t R' (bU q (gC op) n t.dead fun n1=> .ok (n1+iw op) t.dead c):=by
 obtain⟨R1,R2,r1,r2,a2⟩:=Ca (X:=X) g hle hc (gC op) (iw op) q (yu op)
 exact⟨R2,T9 (IG op) r1 r2,a2⟩
theorem sA (g:eJ R o t n c) (p q:Nat) :
  ∃R1 R2,dB X 131 [sI .i64 p,sI .i64 q] R R1∧dB X 128 [sI .i64 q] R1 R2∧dX o t R2 (bU q p n t.dead fun _=> .ok 0 true c):=by
 obtain⟨R1,r1,a1,h1,x1⟩:=tv (X:=X) g p q
 obtain⟨R2,r2,a2⟩:=B9 (X:=X) (F:=fun _ _ c=> .ok 0 true c) (f:=128) (args:=[sI .i64 q]) a1 (fun R he=>TY he) (fun n' d c' hv g'=>by
  obtain⟨R2,r2,a2,_⟩:=IC (X:=X) g' q
  exact⟨R2,r2,a2⟩)
 rw[pF] at a2
 exact⟨R1,R2,r1,r2,a2⟩
theorem X6 (g:sv R o t n) {a k:Nat} (h:(bR (o++[t]))[a]? = some k):k≤1:=by
 obtain⟨f,hf,hk,_⟩:=Zk h
 obtain⟨_,_,m3,m4⟩:=lK g.ok f (mf hf)
 rw[hk];split<;>omega
def nE (R:Rw) (e q:Int):Rw:=⟨R.h,R.k,R.cs,e,q,R.nx⟩
theorem nF {R:Rw} {ec q:Int}:sw R true ec q=R:=by unfold sw;rw[if_pos (.inl rfl)]
theorem jO {R:Rw} {ec q:Int} (he:R.e=0) (XQ:ec≠0):sw R false ec q=nE R ec q:=by unfold sw nE;rw[if_neg (by simp[he,XQ])]
theorem Ar {R:Rw} {b:Bool} {ec q:Int} (he:R.e≠0):sw R b ec q=R:=by unfold sw;rw[if_pos (.inr (.inl he))]
theorem wL {R:Rw} {p:Prop} [Decidable p] {ec q:Int} (he:R.e=0) (XQ:ec≠0):sw R (decide p) ec q=if p then R else nE R ec q:=by
 by_cases h:p
 · rw[decide_eq_true h,nF,if_pos h]
 · rw[decide_eq_false h,jO he XQ,if_neg h]
theorem EL (g:sv R o t n) (he:R.e=0) (a:Nat) (ha:a<4294967296) (q:Nat) :
  (∃k,(bR (o++[t]))[a]? = some k∧k≤1∧Ask X 130 [sI .u32 a,sI .i64 q] (sI .i64 (k:Nat)) R R)∨((bR (o++[t]))[a]? = none∧Ask X 130 [sI .u32 a,sI .i64 q] (sI .i64 (0:Nat)) R (nE R 6 q)):=by
 have h:=yA (X:=X) g a ha q
 have MZ:(bR (o++[t])).length=(o++[t]).length:=by simp[bR]
 by_cases hlt:a<(o++[t]).length
 · have hs:(bR (o++[t]))[a]? = some ((bR (o++[t])).getD a 0):=by
    rw[de,df (by omega)];rfl
   rw[decide_eq_true hlt,nF] at h
   exact .inl ⟨_,hs,X6 g hs,h⟩
 · have hs:(bR (o++[t]))[a]? = none:=dT (by omega)
   rw[decide_eq_false hlt,jO he (by decide),de,hs] at h
   exact .inr ⟨hs,h⟩
variable {r b nn:Int} {tg:List Int} {ll le:List Ins}
theorem abM (g:eJ R o t n c) (a:Nat) (ha:a<4294967296) : ∃R',dB X 116 [cr 12 r a b nn tg ll le,sI .i64 c] R R'∧dX o t R' (dW V (bR (o++[t])) 12 a tg n t.dead c):=by
 have e1:dW V (bR (o++[t])) 12 a tg n t.dead c=(match(bR (o++[t]))[a]? with
  |none=> .aU 6 c
  |some k=>bU c k n t.dead fun _=> .ok 0 true c):=rfl
 rcases EL (X:=X) g.j9 g.e a ha c with⟨k,hk,_,hA⟩|⟨hk,hA⟩
 · obtain⟨R1,R2,r1,r2,a2⟩:=sA (X:=X) g k c
   refine⟨R2,Ub hA r1 r2,?_⟩
   rw[e1,hk];exact a2
 · have hb:(nE R 6 c).e≠0:=(by decide:(6:Int)≠0)
   refine⟨_,Ub hA (yz hb) (TY hb),?_⟩
   rw[e1,hk]
   exact⟨rfl,by decide,rfl⟩
theorem Ul (g:eJ R o t n c) (hle:R.h+1≤c) (hc:c≤1000000000) (a:Nat) (ha:a<4294967296) : ∃R',dB X 116 [cr 13 r a b nn tg ll le,sI .i64 c] R R'∧dX o t R' (dW V (bR (o++[t])) 13 a tg n t.dead c):=by
 have e1:dW V (bR (o++[t])) 13 a tg n t.dead c=(match(bR (o++[t]))[a]? with
  |none=> .aU 6 c
  |some k=>bU c 1 n t.dead fun n1=>bU c k n1 t.dead fun n2=> .ok (n2+k) t.dead c):=rfl
 rcases EL (X:=X) g.j9 g.e a ha c with⟨k,hk,hk1,hA⟩|⟨hk,hA⟩
 · obtain⟨R1,r1,a1,h1,x1⟩:=tv (X:=X) g 1 c
   have Gv:=g.nx
   have step : ∀v,dX o t R1 v→(∀n' d c',v = .ok n' d c'→d=t.dead∧c'=c) → ∃R2 R3,dB X 131 [sI .i64 k,sI .i64 c] R1 R2∧dB X 132 [sI .i64 k,sI .i64 c] R2 R3∧dX o t R3 (v.and fun m d c=>bU c k m d fun n2=> .ok (n2+k) d c):=by
    intro v hv hd
    cases v with
    |aU e q=>
     have hb:R1.e≠0:=by rw[hv.1];exact hv.2.1
     exact⟨R1,R1,yz hb,TX hb,hv⟩
    |ok m d c'=>
     obtain⟨rfl,rfl⟩:=hd _ _ _ rfl
     obtain⟨R2,R3,r2,r3,a3⟩:=Ca (X:=X) (t:=⟨t.op,t.base,t.res,t.dead⟩) hv (by omega) hc k k c' hk1
     exact⟨R2,R3,r2,r3,a3⟩
   obtain⟨R2,R3,r2,r3,a3⟩:=step _ a1 (fun n' d c' hv=>by
    unfold bU at hv;split at hv
    · cases hv
    · cases hv;exact⟨rfl,rfl⟩)
   refine⟨R3,ID hA r1 r2 r3,?_⟩
   rw[pF] at a3
   rw[e1,hk];exact a3
 · have hb:(nE R 6 c).e≠0:=(by decide:(6:Int)≠0)
   refine⟨_,ID hA (yz hb) (yz hb) (TX hb),?_⟩
   rw[e1,hk]
   exact⟨rfl,by decide,rfl⟩
theorem X7 (hv:X2 X V) (g:eJ R o t n c) (a:Nat) : ∃R',dB X 116 [cr 15 r a b nn tg ll le,sI .i64 c] R R'∧dX o t R' (dW V (bR (o++[t])) 15 a tg n t.dead c):=by
 obtain⟨R1,R2,r1,r2,a2⟩:=sA (X:=X) g V.ret c
 rw[←hv.ret] at r1
 exact⟨R2,XT r1 r2,a2⟩
theorem Um (hv:X2 X V) (g:eJ R o t n c) (hle:R.h+1≤c) (hc:c≤1000000000) (a:Nat) (ha:a<4294967296) : ∃R',dB X 116 [cr 16 r a b nn tg ll le,sI .i64 c] R R'∧dX o t R' (dW V (bR (o++[t])) 16 a tg n t.dead c):=by
 have e1:dW V (bR (o++[t])) 16 a tg n t.dead c=(match V.ty a with
  |none=> .aU 6 c
  |some (p,r)=>bU c p n t.dead fun n1=> .ok (n1+r) t.dead c):=rfl
 have h:=hv.ty a ha
 rw[e1]
 cases hty:V.ty a with
 |none=>
  rw[hty] at h
  have hb:(nE R 6 c).e≠0:=(by decide:(6:Int)≠0)
  have hA:=iL (X:=X) (R:=R) false 6 c
  rw[jO g.e (by decide)] at hA
  exact⟨_,IE h hA (MF hb),rfl,by decide,rfl⟩
 |some pr=>
  obtain⟨p,r'⟩:=pr
  rw[hty] at h
  have hA:=iL (X:=X) (R:=R) true 6 c
  rw[nF] at hA
  obtain⟨R2,r2,a2⟩:=MG (X:=X) g hle hc p r' c h.1
  exact⟨R2,IE h.2 hA r2,a2⟩
theorem X8 (hv:X2 X V) (g:eJ R o t n c) (hle:R.h+1≤c) (hc:c≤1000000000) (a:Nat) (ha:a<4294967296) : ∃R',dB X 116 [cr 17 r a b nn tg ll le,sI .i64 c] R R'∧dX o t R' (dW V (bR (o++[t])) 17 a tg n t.dead c):=by
 have e1:dW V (bR (o++[t])) 17 a tg n t.dead c=(match V.ind a with
  |none=> .aU 6 c
  |some (p,r)=>bU c 1 n t.dead fun n1=>bU c p n1 t.dead fun n2=> .ok (n2+r) t.dead c):=rfl
 have h:=hv.ind a
 have ad1:=hv.qn
 rw[e1]
 have hb:(nE R 6 c).e≠0:=(by decide:(6:Int)≠0)
 by_cases ht:0<X.M.Al
 · by_cases hlt:a<X.M.qn
   · rw[if_pos ⟨ht,hlt⟩] at h
     obtain⟨p,r',h1,h2,h3,h4⟩:=h
     rw[h1]
     have hA:=iL (X:=X) (R:=R) true 6 c
     rw[nF] at hA
     obtain⟨R1,r1,a1,hh1,x1⟩:=tv (X:=X) g 1 c
     have Gv:=g.nx
     obtain⟨R2,r2,a2⟩:=B9 (X:=X) (F:=fun m d c=>bU c p m d fun n2=> .ok (n2+r') d c) (f:=135) (args:=[.agg [sI .i64 p,sI .i64 r'],sI .i64 c]) a1 (fun R he=>MF he) (fun n' d c' Y9 g'=>by
      have:=g'.nx
      have ZE:c'=c:=by omega
      subst ZE
      obtain⟨R2,r2,a2⟩:=MG (X:=X) g' (by omega) hc p r' c' h2
      exact⟨R2,r2,a2⟩)
     rw[pF] at a2
     exact⟨R2,IF ht ad1 ⟨by omega,by omega⟩ (fun _=>⟨h3,h4⟩) (by rw[decide_eq_true (by omega)];exact hA) r1 (fun _=>r2) (fun hn=>absurd (by omega) hn),a2⟩
   · rw[if_neg (fun q=>hlt q.2)] at h
     rw[h]
     have hA:=iL (X:=X) (R:=R) false 6 c
     rw[jO g.e (by decide)] at hA
     exact⟨_,IF (P:=0) (Q:=0) ht ad1 ⟨by omega,by omega⟩ (fun q=>absurd q (by omega)) (by rw[decide_eq_false (by omega)];exact hA) (yz hb) (fun q=>absurd q (by omega)) (fun _=>rfl),rfl,by decide,rfl⟩
 · rw[if_neg (fun q=>ht q.1)] at h
   rw[h]
   have hA:=iL (X:=X) (R:=R) false 6 c
   rw[jO g.e (by decide)] at hA
   exact⟨_,Uc (by omega) hA (yz hb),rfl,by decide,rfl⟩
end
section
variable {X:Lx} {V:fS} {R R1 R2 R3:Rw} {o:List Fr} {t:Fr} {n c:Nat}
variable {op r a b nn q:Int} {tg:List Int} {ll le:List Ins}
theorem X9 (ho:op=32∨op=33∨op=34) (ha:0≤a∧a<4294967296) (h1:Ask X 134 [sB (decide (a<X.own)),sI .i64 6,sI .i64 q] (.aD []) R R1) (h2:dB X 163 [sI .i64 op,sI .i64 q] R1 R2) :
  dB X 136 [cr op r a b nn tg ll le,sI .i64 q] R R2:=by
 refine an.eN (rows:=[(136,53,sB true)]) ?_
 refine aa aI (nC X R R1 R2 R R R R R op r a b nn tg ll le q 0 true true) ?_
 have w1:ae1.wrap a=a:=mA (by omega) (by omega)
 rcases ho with rfl|rfl|rfl <;>
 · simp only[og,bt,cQ,cq,bT,bV,cV,ff,gM,bt,cQ,bV,cV,gN,cq,bT,iI,bt,cQ,bV,cV,iJ,cq,bT,iK,cq,bT,br,aG.ok,aO,w1,agx,dO]
   exact⟨an.cW h1,an.cW h2⟩
theorem Un {mu:Bool} (ha:0≤a∧a<4294967296) (hn:X.M.ny≤1000000000) (hlt:a<X.M.ny) (hc:X.M.Iq.getD (a.toNat*2+0) .aU = .sc (.bool mu))
  (h1:Ask X 134 [sB mu,sI .i64 212,sI .i64 q] (.aD []) R R1) (h2:Ask X 134 [sB true,sI .i64 6,sI .i64 q] (.aD []) R1 R2) (h3:dB X 163 [sI .i64 36,sI .i64 q] R2 R3) :
  dB X 136 [cr 36 r a b nn tg ll le,sI .i64 q] R R3:=by
 refine an.eN (rows:=[(136,53,sB mu)]) ?_
 refine aa aI (nC X R R1 R2 R3 R R R R 36 r a b nn tg ll le q 0 true mu) ?_
 have w1:ae1.wrap a=a:=mA (by omega) (by omega)
 have w2:ae1.wrap (X.M.ny:Int)=X.M.ny:=mA (by omega) (by omega)
 have g1:decide (a<(X.M.ny:Int))=true:=decide_eq_true hlt
 have g2:fV mu mu=true:=(KP _ _).2 rfl
 simp only[og,bt,cQ,cq,bT,bV,cV,ff,gM,bt,cQ,bV,cV,gN,cq,bT,iI,bt,cQ,bV,cV,iJ,cq,bT,iK,cq,bT,br,aG.ok,aO,w1,w2,g1,g2,hc,isBool,aW,eO,bE,agx,dO,aeN,jn,decide_eq_true_eq]
 exact⟨by omega,an.cW h1,an.cW h2,an.cW h3⟩
theorem Uo (ha:0≤a∧a<4294967296) (hn:X.M.ny≤1000000000) (hlt : ¬a<X.M.ny)
  (h1:Ask X 134 [sB false,sI .i64 6,sI .i64 q] (.aD []) R R1) (h3:dB X 163 [sI .i64 36,sI .i64 q] R1 R2) :
  dB X 136 [cr 36 r a b nn tg ll le,sI .i64 q] R R2:=by
 refine an.eN (rows:=[(136,53,sB true)]) ?_
 refine aa aI (nC X R R1 R2 R R R R R 36 r a b nn tg ll le q 0 true true) ?_
 have w1:ae1.wrap a=a:=mA (by omega) (by omega)
 have w2:ae1.wrap (X.M.ny:Int)=X.M.ny:=mA (by omega) (by omega)
 have g1:decide (a<(X.M.ny:Int))=false:=decide_eq_false hlt
 simp only[og,bt,cQ,cq,bT,bV,cV,ff,gM,bt,cQ,bV,cV,gN,cq,bT,iI,bt,cQ,bV,cV,iJ,cq,bT,iK,cq,bT,br,aG.ok,aO,w1,w2,g1,agx,dO]
 exact⟨an.cW h1,an.cW h3⟩
theorem Ya (ha:0≤a∧a<4294967296) (hn:X.M.ny≤1000000000)
  (h1:Ask X 134 [sB (decide (a<X.M.ny)),sI .i64 6,sI .i64 q] (.aD []) R R1) (h3:dB X 163 [sI .i64 35,sI .i64 q] R1 R2) :
  dB X 136 [cr 35 r a b nn tg ll le,sI .i64 q] R R2:=by
 refine an.eN (rows:=[(136,53,sB true)]) ?_
 refine aa aI (nC X R R1 R2 R R R R R 35 r a b nn tg ll le q 0 true true) ?_
 have w1:ae1.wrap a=a:=mA (by omega) (by omega)
 have w2:ae1.wrap (X.M.ny:Int)=X.M.ny:=mA (by omega) (by omega)
 simp only[og,bt,cQ,cq,bT,bV,cV,ff,gM,bt,cQ,bV,cV,gN,cq,bT,iI,bt,cQ,bV,cV,iJ,cq,bT,iK,cq,bT,br,aG.ok,aO,w1,w2,agx,dO]
 exact⟨an.cW h1,an.cW h3⟩
theorem Yb (ho:op=63∨op=64) (h1:Ask X 134 [sB (decide ((X.M.so:Int)>0)),sI .i64 6,sI .i64 q] (.aD []) R R1) (h2:dB X 163 [sI .i64 op,sI .i64 q] R1 R2) :
  dB X 136 [cr op r a b nn tg ll le,sI .i64 q] R R2:=by
 refine an.eN (rows:=[(136,53,sB true)]) ?_
 refine aa aI (nC X R R1 R2 R R R R R op r a b nn tg ll le q 0 true true) ?_
 rcases ho with rfl|rfl <;>
 · simp only[og,bt,cQ,cq,bT,bV,cV,ff,gM,bt,cQ,bV,cV,gN,cq,bT,iI,bt,cQ,bV,cV,iJ,cq,bT,iK,cq,bT,br,aG.ok,aO,agx,dO]
   exact⟨an.cW h1,an.cW h2⟩
theorem abN (ho:gI op=true) (h1:Ask X 134 [sB (decide ((X.M.so:Int)>0)),sI .i64 6,sI .i64 q] (.aD []) R R1) (h2:Ask X 134 [sB (decide (a≤dr op)),sI .i64 211,sI .i64 q] (.aD []) R1 R2) (h3:dB X 163 [sI .i64 op,sI .i64 q] R2 R3) :
  dB X 136 [cr op r a b nn tg ll le,sI .i64 q] R R3:=by
 have hal:an aeB env 162 [sI .i64 op] [] (.aD [sI .u32 (dr op),sB true]) []:=by
  have:=uP op
  rw[show tK op=true from ho] at this
  exact this
 have ho':=of_decide_eq_true ho
 refine an.eN (rows:=[(136,53,sB true)]) ?_
 refine aa aI (nC X R R1 R2 R3 R R R R op r a b nn tg ll le q (dr op) true true) ?_
 have e0:(op==32)=false:=by simp;omega
 have e1:(op==33)=false:=by simp;omega
 have e2:(op==34)=false:=by simp;omega
 have e3:(op==35)=false:=by simp;omega
 have e4:(op==36)=false:=by simp;omega
 have e5:(op==63)=false:=by simp;omega
 have e6:(op==64)=false:=by simp;omega
 simp only[og,bt,cQ,cq,bT,bV,cV,ff,gM,bt,cQ,bV,cV,gN,cq,bT,iI,bt,cQ,bV,cV,iJ,cq,bT,iK,cq,bT,br,aG.ok,aO,e0,e1,e2,e3,e4,e5,e6,dO]
 exact⟨an.cW hal,an.cW h1,an.cW h2,an.cW h3⟩
theorem Up (ho:gI op=false) (h32:op≠32∧op≠33∧op≠34∧op≠35∧op≠36∧op≠63∧op≠64) (h3:dB X 163 [sI .i64 op,sI .i64 q] R R1) :
  dB X 136 [cr op r a b nn tg ll le,sI .i64 q] R R1:=by
 have hal:an aeB env 162 [sI .i64 op] [] (.aD [sI .u32 (dr op),sB false]) []:=by
  have:=uP op
  rw[show tK op=false from ho] at this
  exact this
 obtain⟨k0,k1,k2,k3,k4,k5,k6⟩:=h32
 refine an.eN (rows:=[(136,53,sB true)]) ?_
 refine aa aI (nC X R R1 R R R R R R op r a b nn tg ll le q (dr op) false true) ?_
 have e0:(op==32)=false:=by simpa using k0
 have e1:(op==33)=false:=by simpa using k1
 have e2:(op==34)=false:=by simpa using k2
 have e3:(op==35)=false:=by simpa using k3
 have e4:(op==36)=false:=by simpa using k4
 have e5:(op==63)=false:=by simpa using k5
 have e6:(op==64)=false:=by simpa using k6
 simp only[og,bt,cQ,cq,bT,bV,cV,ff,gM,bt,cQ,bV,cV,gN,cq,bT,iI,bt,cQ,bV,cV,iJ,cq,bT,iK,cq,bT,br,aG.ok,aO,e0,e1,e2,e3,e4,e5,e6,dO]
 exact⟨an.cW hal,an.cW h3⟩
def sC (R:Rw) (e q:Int):Rw:=if e=0 then R else nE R e q
theorem qu (g:eJ R o t n c) (hle:R.h+1≤c) (hc:c≤1000000000) (op e:Int) :
  ∃R',dB X 163 [sI .i64 op,sI .i64 c] (sC R e c) R'∧dX o t R' (if e≠0 then .aU e c else bU c (gC op) n t.dead fun n1=> .ok (n1+iw op) t.dead c):=by
 by_cases he:e=0
 · rw[sC,if_pos he,if_neg (by simpa using he)]
   exact X5 g hle hc op c
 · rw[sC,if_neg he,if_pos he]
   exact⟨_,X4 he,rfl,he,rfl⟩
theorem OE (hv:X2 X V) (g:eJ R o t n c) (hle:R.h+1≤c) (hc:c≤1000000000) {op:Int} {a:Nat} (ha:a<4294967296) :
  ∃R',dB X 136 [cr op r a b nn tg ll le,sI .i64 c] R R'∧dX o t R' (if bJ V op a≠0 then .aU (bJ V op a) c else bU c (gC op) n t.dead fun n1=> .ok (n1+iw op) t.dead c):=by
 have haI:(0:Int)≤(a:Int)∧(a:Int)<4294967296:=⟨by omega,by omega⟩
 have hgN:X.M.ny≤1000000000:=by rw[hv.ny];exact hv.glM
 by_cases h1:op=32∨op=33∨op=34
 · have e1:bJ V op a=if(a:Int)<V.own then 0 else 6:=by unfold bJ;rw[if_pos h1]
   have hA:=iL (X:=X) (R:=R) (decide ((a:Int)<X.own)) 6 c
   rw[wL g.e (by decide)] at hA
   have hR:(if(a:Int)<X.own then R else nE R 6 c)=sC R (bJ V op a) c:=by
    rw[e1,hv.own];by_cases hq:(a:Int)<V.own
    · rw[if_pos hq,if_pos hq];rfl
    · rw[if_neg hq,if_neg hq];rfl
   rw[hR] at hA
   obtain⟨R',r1,a1⟩:=qu (X:=X) g hle hc op (bJ V op a)
   exact⟨R',X9 h1 haI hA r1,a1⟩
 by_cases h2:op=36
 · subst h2
   by_cases hlt:a<X.M.ny
   · have hg:a<V.cX.length:=by rw[←hv.ny];exact hlt
     have hs:V.cX[a]? = some V.cX[a]:=df hg
     have hcell:=hv.gl a _ hs
     have e1:bJ V 36 a=if V.cX[a]=true then 0 else 212:=by
      unfold bJ
      rw[if_neg (by decide),if_pos rfl,aeL,hs]
      cases V.cX[a]<;>rfl
     have hA:=iL (X:=X) (R:=R) V.cX[a] 212 c
     have hR:sw R V.cX[a] 212 c=sC R (bJ V 36 a) c:=by
      rw[e1]
      cases V.cX[a]
      · rw[jO g.e (by decide)];rfl
      · rw[nF];rfl
     rw[hR] at hA
     have hB:=iL (X:=X) (R:=sC R (bJ V 36 a) c) true 6 c
     rw[nF] at hB
     obtain⟨R',r1,a1⟩:=qu (X:=X) g hle hc 36 (bJ V 36 a)
     exact⟨R',Un haI hgN (by omega) (by rw[aeL];exact hcell) hA hB r1,a1⟩
   · have hs:V.cX[a]? = none:=dT (by rw[←hv.ny];omega)
     have e1:bJ V 36 a=6:=by
      unfold bJ
      rw[if_neg (by decide),if_pos rfl,aeL,hs]
     have hA:=iL (X:=X) (R:=R) false 6 c
     rw[jO g.e (by decide),show nE R 6 c=sC R (bJ V 36 a) c by rw[e1];rfl] at hA
     obtain⟨R',r1,a1⟩:=qu (X:=X) g hle hc 36 (bJ V 36 a)
     exact⟨R',Uo haI hgN (by omega) hA r1,a1⟩
 by_cases h3:op=35
 · subst h3
   have e1:bJ V 35 a=if(a:Int)<V.cX.length then 0 else 6:=by unfold bJ;rw[if_neg (by decide),if_neg (by decide),if_pos rfl]
   have hA:=iL (X:=X) (R:=R) (decide ((a:Int)<X.M.ny)) 6 c
   rw[wL g.e (by decide)] at hA
   have hR:(if(a:Int)<X.M.ny then R else nE R 6 c)=sC R (bJ V 35 a) c:=by
    rw[e1,hv.ny];by_cases hq:(a:Int)<V.cX.length
    · rw[if_pos hq,if_pos hq];rfl
    · rw[if_neg hq,if_neg hq];rfl
   rw[hR] at hA
   obtain⟨R',r1,a1⟩:=qu (X:=X) g hle hc 35 (bJ V 35 a)
   exact⟨R',Ya haI hgN hA r1,a1⟩
 have hmA:=iL (X:=X) (R:=R) (decide ((X.M.so:Int)>0)) 6 c
 rw[wL g.e (by decide)] at hmA
 have hmR:(if(X.M.so:Int)>0 then R else nE R 6 c)=if V.mem=true then R else nE R 6 c:=by
  rw[hv.me]
  by_cases hq:0<X.M.so
  · rw[if_pos (by omega),if_pos (by simpa using hq)]
  · rw[if_neg (by omega),if_neg (by simpa using hq)]
 rw[hmR] at hmA
 by_cases h4:op=63∨op=64
 · have e1:bJ V op a=if V.mem=true then 0 else 6:=by unfold bJ;rw[if_neg (by omega),if_neg h2,if_neg h3,if_pos h4]
   have hR:(if V.mem=true then R else nE R 6 c)=sC R (bJ V op a) c:=by
    rw[e1];by_cases hq:V.mem=true
    · rw[if_pos hq,if_pos hq];rfl
    · rw[if_neg hq,if_neg hq];rfl
   rw[hR] at hmA
   obtain⟨R',r1,a1⟩:=qu (X:=X) g hle hc op (bJ V op a)
   exact⟨R',Yb h4 hmA r1,a1⟩
 by_cases h5:gI op=true
 · have e1:bJ V op a=if V.mem=true then(if dr op<a then 211 else 0) else 6:=by unfold bJ;rw[if_neg (by omega),if_neg h2,if_neg h3,if_neg h4,if_pos h5]
   have hB:=iL (X:=X) (R:=if V.mem=true then R else nE R 6 c) (decide ((a:Int)≤dr op)) 211 c
   have hR:sw (if V.mem=true then R else nE R 6 c) (decide ((a:Int)≤dr op)) 211 c=sC R (bJ V op a) c:=by
    rw[e1]
    by_cases hq:V.mem=true
    · rw[if_pos hq,if_pos hq,wL g.e (by decide)]
      by_cases hz:(a:Int)≤dr op
      · rw[if_pos hz,if_neg (by omega)];rfl
      · rw[if_neg hz,if_pos (by omega)];rfl
    · rw[if_neg hq,if_neg hq,Ar (by decide:(6:Int)≠0)];rfl
   rw[hR] at hB
   obtain⟨R',r1,a1⟩:=qu (X:=X) g hle hc op (bJ V op a)
   exact⟨R',abN h5 hmA hB r1,a1⟩
 · have e1:bJ V op a=0:=by unfold bJ;rw[if_neg (by omega),if_neg h2,if_neg h3,if_neg h4,if_neg h5]
   obtain⟨R',r1,a1⟩:=qu (X:=X) g hle hc op (bJ V op a)
   rw[show sC R (bJ V op a) c=R by rw[e1];rfl] at r1
   exact⟨R',Up (by simpa using h5) (by omega) r1,a1⟩
end
section
variable {X:Lx} {V:fS} {R:Rw} {o:List Fr} {t:Fr} {n c:Nat}
variable {r a b nn:Int} {tg:List Int} {ll le:List Ins}
theorem sv.aU (g:sv R o t n) (e q:Int):sv (nE R e q) o t n:=⟨g.h,g.k,g.cs,g.ok⟩
def Jw (R:Rw) (mM:Bool) (e q:Int):Rw:=if mM=true then R else nE R e q
theorem wM (g:sv R o t n) (he:R.e=0) (mM:Bool) (x:Int) (hx:0≤x∧x<4294967296) (q:Nat) :
  Ask X 130 [sI .u32 x,sI .i64 q] (sI .i64 ((bR (o++[t])).getD x.toNat 0:Nat)) (Jw R mM 6 q) (Jw R (mM&&decide (x<(o++[t]).length)) 6 q):=by
 obtain⟨m,rfl⟩:=agA hx.1
 have hd:decide ((m:Int)<((o++[t]).length:Int))=decide (m<(o++[t]).length):=by congr 1;exact propext (by omega)
 cases mM with
 |true=>
  have h:=yA (X:=X) g m (by omega) q
  have e1:sw R (decide (m<(o++[t]).length)) 6 q=Jw R (true&&decide ((m:Int)<((o++[t]).length:Int))) 6 q:=by
   rw[wL he (by decide),aeO,hd,Jw]
   by_cases hq:m<(o++[t]).length
   · rw[if_pos hq,if_pos (decide_eq_true hq)]
   · rw[if_neg hq,if_neg (by simpa using hq)]
  rw[e1] at h
  exact h
 |false=>
  have h:=yA (X:=X) (g.aU 6 q) m (by omega) q
  rw[Ar (by decide:(6:Int)≠0)] at h
  exact h
def Cb (ls:List Nat) (l:List Int):List PV:=l.map fun x=> .sc (.int .i64 (ls.getD x.toNat 0:Nat))
theorem Uq (ls:List Nat) (l:List Int) {i:Nat} (h:i<l.length):(Cb ls l).getD i .aU = .sc (.int .i64 (ls.getD (l.getD i 0).toNat 0:Nat)):=by
 rw[Cb,de,en,df h]
 simp[de,df h]
def IL (R:Rw) (mM same:Bool) (q:Int):Rw:=Jw (Jw R same 214 q) mM 6 q
theorem Yc (he:R.e=0) (mM same y:Bool) (q:Int):Ask X 134 [sB y,sI .i64 214,sI .i64 q] (.aD []) (IL R mM same q) (IL R mM (same&&y) q):=by
 have h:=iL (X:=X) (R:=IL R mM same q) y 214 q
 have e1:sw (IL R mM same q) y 214 q=IL R mM (same&&y) q:=by
  cases mM with
  |false=>
   have e (z:Bool):IL R false z q=nE (Jw R z 214 q) 6 q:=rfl
   rw[e,Ar (R:=nE (Jw R same 214 q) 6 q) (by decide:(6:Int)≠0),e]
   cases same<;>cases y<;>rfl
  |true=>
   have e0:IL R true false q=nE R 214 q:=rfl
   have e1:IL R true true q=R:=rfl
   cases same with
   |false=>rw[e0,Ar (R:=nE R 214 q) (by decide:(214:Int)≠0),afc,e0]
   |true=>
    rw[e1,aeO]
    cases y with
    |true=>rw[nF,e1]
    |false=>rw[jO he (by decide),e0]
 rw[e1] at h
 exact h
theorem Yd (g:eJ R o t n c) (mM same:Bool) (k:Nat) :
  ∃R1 R2 R3,dB X 131 [sI .i64 (1:Nat),sI .i64 c] (IL R mM same c) R1∧dB X 131 [sI .i64 k,sI .i64 c] R1 R2∧dB X 128 [sI .i64 c] R2 R3 ∧
   dX o t R3 (if mM=false then .aU 6 c else if same=false then .aU 214 c else bU c 1 n t.dead fun n1=>bU c k n1 t.dead fun _=> .ok 0 true c):=by
 cases mM with
 |false=>
  have hb:(IL R false same c).e≠0:=(by decide:(6:Int)≠0)
  exact⟨_,_,_,yz hb,yz hb,TY hb,rfl,by decide,rfl⟩
 |true=>cases same with
  |false=>
   have hb:(IL R true false c).e≠0:=(by decide:(214:Int)≠0)
   exact⟨_,_,_,yz hb,yz hb,TY hb,rfl,by decide,rfl⟩
  |true=>
   obtain⟨R1,r1,a1,h1,x1⟩:=tv (X:=X) g 1 c
   have Gv:=g.nx
   have step : ∀v,dX o t R1 v→(∀n' d c',v = .ok n' d c'→d=t.dead∧c'=c) → ∃R2 R3,dB X 131 [sI .i64 k,sI .i64 c] R1 R2∧dB X 128 [sI .i64 c] R2 R3∧dX o t R3 (v.and fun m d c=>bU c k m d fun _=> .ok 0 true c):=by
    intro v hv hd
    cases v with
    |aU e q=>
     have hb:R1.e≠0:=by rw[hv.1];exact hv.2.1
     exact⟨R1,R1,yz hb,TY hb,hv⟩
    |ok m d c'=>
     obtain⟨rfl,rfl⟩:=hd _ _ _ rfl
     obtain⟨R2,R3,r2,r3,a3⟩:=sA (X:=X) (t:=⟨t.op,t.base,t.res,t.dead⟩) hv k c'
     exact⟨R2,R3,r2,r3,a3⟩
   obtain⟨R2,R3,r2,r3,a3⟩:=step _ a1 (fun n' d c' hv=>by
    unfold bU at hv;split at hv
    · cases hv
    · cases hv;exact⟨rfl,rfl⟩)
   rw[pF] at a3
   exact⟨R1,R2,R3,r1,r2,r3,a3⟩
abbrev i14 (r a b nn:Int) (tg:List Int) (ll le:List Ins):bf:= .pc [.sc (.int .i64 14),.sc (.int .i64 r),.sc (.int .u32 a),.sc (.int .u32 b),.sc (.int .i32 nn),.ps tg.length 1 (dg .u32 tg),.ps ll.length 8 (ak ll),.ps le.length 8 (ak le)]
theorem OF (he:R.e=0) (mM:Bool) (ls:List Nat) (v q:Nat) (hlen:tg.length≤1000000000) {R1 R2 R3:Rw}
  (r1:dB X 131 [sI .i64 (1:Nat),sI .i64 q] (IL R mM (tg.all fun x=>ls.getD x.toNat 0==v) q) R1) (r2:dB X 131 [sI .i64 v,sI .i64 q] R1 R2) (r3:dB X 128 [sI .i64 q] R2 R3) :
  ∀(m i:Nat),i+m=tg.length→bp aeB env (ah aeB env 133 2 [.mp 0 0,sI .i64 q,sI .i64 v,.os (some 2) tg.length 1 (Cb ls tg),sI .i64 tg.length,sI .i64 i]
   (fR X (IL R mM ((tg.take i).all fun x=>ls.getD x.toNat 0==v) q)++[.tok]) 2 55) (.ret (.aD []) (oB X R3)):=by
 intro m
 induction m with
 |zero=>
  intro i hi
  have YZ:tg.take i=tg:=dE (by omega)
  rw[YZ]
  refine af aI (IK X (IL R mM (tg.all fun x=>ls.getD x.toNat 0==v) q) R1 R2 R3 R R R R q v 0 i tg.length (Cb ls tg)) ?_
  have g1:decide ((i:Int)<(tg.length:Int))=false:=by simp;omega
  simp only[bt,cQ,cq,bT,bV,bK,bh,bA,cV,fj,yB,br,aG.ok,aO,g1,dO]
  exact⟨r1,r2,r3⟩
 |succ m ih=>
  intro i hi
  have hlt:i<tg.length:=by omega
  have hih:=ih (i+1) (by omega)
  have ZK:tg.take (i+1)=tg.take i++[tg.getD i 0]:=by
   rw[afZ,df hlt,de,df hlt];rfl
  rw[ZK,af0,af5,agm,aeN] at hih
  have hA:=Yc (X:=X) he mM ((tg.take i).all fun x=>ls.getD x.toNat 0==v) (ls.getD (tg.getD i 0).toNat 0==v) q
  refine af aI (IK X _ (IL R mM (((tg.take i).all fun x=>ls.getD x.toNat 0==v)&&(ls.getD (tg.getD i 0).toNat 0==v)) q) R R R R R R q v (ls.getD (tg.getD i 0).toNat 0:Nat) i tg.length (Cb ls tg)) ?_
  have g1:decide ((i:Int)<(tg.length:Int))=true:=by simp;omega
  have hm:=Uq ls tg hlt
  have hy:(((ls.getD (tg.getD i 0).toNat 0:Nat):Int)==(v:Int))=(ls.getD (tg.getD i 0).toNat 0==v):=by
   rw[Bool.eq_iff_iff,beq_iff_eq,beq_iff_eq];omega
  have w1:=fk i (by omega)
  simp only[bt,cQ,cq,bT,bV,bK,bh,bA,cV,fj,yB,br,aG.ok,aO,g1,w1,aeL,aez,hm,isInt,au,ik,hy,bE,dO,aeN,jn,decide_eq_true_eq]
  exact⟨by omega,hA,hih⟩
theorem OG (g:eJ R o t n c) (ha:0≤a∧a<4294967296) (V1 : ∀x∈tg,0≤x∧x<4294967296) (hlen:tg.length≤1000000000) {R1 R2 R3:Rw}
  (r1:dB X 131 [sI .i64 (1:Nat),sI .i64 c] (IL R ((tg.all fun x=>decide (x<(o++[t]).length))&&decide (a<(o++[t]).length)) (tg.all fun x=>(bR (o++[t])).getD x.toNat 0==(bR (o++[t])).getD a.toNat 0) c) R1)
  (r2:dB X 131 [sI .i64 ((bR (o++[t])).getD a.toNat 0:Nat),sI .i64 c] R1 R2) (r3:dB X 128 [sI .i64 c] R2 R3) :
  ∀(m i:Nat),i+m=tg.length→1≤i→bp aeB env (ah aeB env 133 0 [.mp 0 0,sI .i64 c,.mp 2 0,.os (some 3) i 1 (Cb (bR (o++[t])) (tg.take i)),tgA tg,sI .i64 tg.length,sI .i64 i]
   (fR X (Jw R ((tg.take i).all fun x=>decide (x<(o++[t]).length)) 6 c)++[i14 r a b nn tg ll le,.tok]) 2 55) (.ret (.aD []) (oB X R3)):=by
 intro m
 induction m with
 |zero=>
  intro i hi h1
  have YZ:tg.take i=tg:=dE (by omega)
  obtain rfl:i=tg.length:=by omega
  rw[YZ]
  have hA:=wM (X:=X) g.j9 g.e (tg.all fun x=>decide (x<(o++[t]).length)) a ha c
  have PA:=OF (X:=X) g.e ((tg.all fun x=>decide (x<(o++[t]).length))&&decide (a<(o++[t]).length)) (bR (o++[t])) ((bR (o++[t])).getD a.toNat 0) c hlen r1 r2 r3 tg.length 0 (by omega)
  have hz:IL R ((tg.all fun x=>decide (x<(o++[t]).length))&&decide (a<(o++[t]).length)) ((tg.take 0).all fun x=>(bR (o++[t])).getD x.toNat 0==(bR (o++[t])).getD a.toNat 0) c =
    Jw R ((tg.all fun x=>decide (x<(o++[t]).length))&&decide (a<(o++[t]).length)) 6 c:=rfl
  rw[hz] at PA
  refine af aI (IJ X _ (Jw R ((tg.all fun x=>decide (x<(o++[t]).length))&&decide (a<(o++[t]).length)) 6 c) R R R R R R r a b nn tg ll le c tg.length tg.length (Cb (bR (o++[t])) tg) 0 ((bR (o++[t])).getD a.toNat 0:Nat)) ?_
  have g1:decide ((tg.length:Int)<(tg.length:Int))=false:=by simp
  simp only[cq,bT,bK,EK,j5,eI,iR,yB,gB,gA,br,aG.ok,aO,g1,dO]
  exact⟨hA,PA⟩
 |succ m ih=>
  intro i hi h1
  have hlt:i<tg.length:=by omega
  have hih:=ih (i+1) (by omega) (by omega)
  have ZK:tg.take (i+1)=tg.take i++[tg.getD i 0]:=by
   rw[afZ,df hlt,de,df hlt];rfl
  have hmem:tg.getD i 0∈tg:=by rw[de,df hlt];exact eQ hlt
  rw[ZK,af0,af5,agm,aeN] at hih
  have Z4:Cb (bR (o++[t])) (tg.take i++[tg.getD i 0])=Cb (bR (o++[t])) (tg.take i)++[.sc (.int .i64 ((bR (o++[t])).getD (tg.getD i 0).toNat 0:Nat))]:=by simp[Cb]
  rw[Z4] at hih
  have hA:=wM (X:=X) g.j9 g.e ((tg.take i).all fun x=>decide (x<(o++[t]).length)) (tg.getD i 0) (V1 _ hmem) c
  refine af aI (IJ X _ (Jw R (((tg.take i).all fun x=>decide (x<(o++[t]).length))&&decide (tg.getD i 0<(o++[t]).length)) 6 c) R R R R R R r a b nn tg ll le c i i (Cb (bR (o++[t])) (tg.take i)) (tg.getD i 0) ((bR (o++[t])).getD (tg.getD i 0).toNat 0:Nat)) ?_
  have g1:decide ((i:Int)<(tg.length:Int))=true:=by simp;omega
  have w1:=fk i (by omega)
  have BI:eY=70368744177664:=rfl
  simp only[cq,bT,bK,EK,j5,eI,iR,yB,gB,gA,br,aG.ok,aO,g1,w1,aeL,aez,BA,Bz,bE,dO,aeN,jn,decide_eq_true_eq,aey]
  exact⟨by omega,hlt,hA,⟨by omega,by omega⟩,hih⟩
theorem OH (g:eJ R o t n c) (ha:0≤a∧a<4294967296) (V1 : ∀x∈tg,0≤x∧x<4294967296) (hlen:tg.length≤1000000000) :
  ∃R',dB X 133 [cr 14 r a b nn tg ll le,sI .i64 c] R R'∧dX o t R' (dW V (bR (o++[t])) 14 a tg n t.dead c):=by
 have MZ:(bR (o++[t])).length=(o++[t]).length:=by simp[bR]
 obtain⟨R1,R2,R3,r1,r2,r3,a3⟩:=Yd (X:=X) g ((tg.all fun x=>decide (x<(o++[t]).length))&&decide (a<(o++[t]).length)) (tg.all fun x=>(bR (o++[t])).getD x.toNat 0==(bR (o++[t])).getD a.toNat 0) ((bR (o++[t])).getD a.toNat 0)
 refine⟨R3,?_,?_⟩
 · refine aa aI (Uj X R R R R R R R R r a b nn tg ll le c) ?_
   simp only[br,aG.ok,aO]
   cases Ye:tg with
   |nil=>
    subst Ye
    have hA:=wM (X:=X) g.j9 g.e true a ha c
    have h2:bp aeB env (ah aeB env 133 2 [.mp 0 0,sI .i64 c,sI .i64 ((bR (o++[t])).getD a.toNat 0:Nat),.os none 0 0 [],sI .i64 0,sI .i64 (0:Nat)] (fR X (Jw R (true&&decide (a<(o++[t]).length)) 6 c)) 2 55) (.ret (.aD []) (oB X R3)):=by
     refine af aI (Uk X _ R1 R2 R3 R R R R c ((bR (o++[t])).getD a.toNat 0:Nat) 0 0 0 []) ?_
     simp only[bt,cQ,bT,bV,cV,fj,aG.ok,aO,dO]
     exact⟨r1,r2,r3⟩
    refine af aI (II X R (Jw R (true&&decide (a<(o++[t]).length)) 6 c) R R R R R R r a b nn [] ll le c 0 0 [] 0 ((bR (o++[t])).getD a.toNat 0:Nat)) ?_
    simp only[cQ,cq,bT,bK,EK,j5,eI,iR,gB,gA,br,aG.ok,aO,aep]
    refine⟨fun hq=>absurd hq (by decide),fun _=>⟨hA,h2⟩⟩
   |cons x l=>
    have hlt:0<tg.length:=by rw[Ye];simp
    have hA:=wM (X:=X) g.j9 g.e true x (V1 x (by rw[Ye];simp)) c
    have uB:=OG (X:=X) (r:=r) (b:=b) (nn:=nn) (ll:=ll) (le:=le) g ha V1 hlen r1 r2 r3 (tg.length-1) 1 (by omega) (by omega)
    rw[Ye] at uB
    have hT:(aeu 1 (x::l)).all (fun x=>decide (x<((o++[t]).length:Int)))=(true&&decide (x<((o++[t]).length:Int))):=by simp
    rw[hT] at uB
    refine af aI (II X R (Jw R (true&&decide (x<(o++[t]).length)) 6 c) R R R R R R r a b nn (x::l) ll le c 0 0 [] x ((bR (o++[t])).getD x.toNat 0:Nat)) ?_
    have g1:decide (((0:Nat):Int)<(((x::l).length:Nat):Int))=true:=by simp
    have BI:eY=70368744177664:=rfl
    have hgd:(x::l).getD 0 0=x:=rfl
    simp only[cQ,cq,bT,bK,EK,j5,eI,iR,gB,gA,br,aG.ok,aO,g1,aeL,aeA,BA,Bz,hgd,bE,dO,aeN,jn,decide_eq_true_eq,aey]
    refine⟨by simp,by simp,hA,?_⟩
    first|exact⟨rfl,uB⟩|exact⟨by omega,rfl,uB⟩|exact uB
 · have e1:dW V (bR (o++[t])) 14 a tg n t.dead c=(match zT (bR (o++[t])) tg a with
    |.inl e=> .aU e c
    |.inr k=>bU c 1 n t.dead fun n1=>bU c k n1 t.dead fun _=> .ok 0 true c):=rfl
   rw[e1]
   unfold zT
   rw[MZ]
   by_cases hall:(tg.all fun x=>decide (x<((o++[t]).length:Int)))=true
   · rw[if_neg (by rw[hall];decide)]
     rw[hall,aeO] at a3
     by_cases hlt:a<((o++[t]).length:Int)
     · have hs:(bR (o++[t]))[a.toNat]? = some ((bR (o++[t])).getD a.toNat 0):=by
        rw[de,df (by omega)];rfl
       rw[hs]
       rw[decide_eq_true hlt,if_neg (by decide)] at a3
       dsimp only
       by_cases hsame:(tg.all fun x=>(bR (o++[t])).getD x.toNat 0==(bR (o++[t])).getD a.toNat 0)=true
       · rw[if_pos hsame]
         rw[hsame,if_neg (by decide)] at a3
         exact a3
       · rw[if_neg hsame]
         rw[if_pos (by simpa using hsame)] at a3
         exact a3
     · have hs:(bR (o++[t]))[a.toNat]? = none:=dT (by omega)
       rw[hs]
       rw[decide_eq_false hlt,if_pos rfl] at a3
       exact a3
   · have hall:(tg.all fun x=>decide (x<((o++[t]).length:Int)))=false:=by simpa using hall
     rw[hall,afc,if_pos rfl] at a3
     rw[if_pos hall]
     exact a3
end
theorem iM {q k n c c' m:Nat} {d d':Bool} {f:Nat→VR} (h:bU q k n d f = .ok m d' c') : ∃x,f x = .ok m d' c':=by
 unfold bU at h;split at h
 · cases h
 · exact⟨_,h⟩
theorem As {q r n m c':Nat} {d d':Bool} {f:VR} (h:dx r n d q f = .ok m d' c'):f = .ok m d' c':=by
 unfold dx at h
 obtain⟨x,hx⟩:=iM (c:=0) h
 split at hx
 · cases hx
 · exact hx
theorem IM {V:fS} {ls:List Nat} {op a:Int} {tg:List Int} {n m c c':Nat} {d d':Bool} (h:dW V ls op a tg n d c = .ok m d' c'):c'=c:=by
 unfold dW at h
 split at h
 · split at h
   · cases h
   · obtain⟨x,hx⟩:=iM (c:=0) h
     cases hx;rfl
 split at h
 · split at h
   · cases h
   · obtain⟨x,hx⟩:=iM (c:=0) h
     obtain⟨y,hy⟩:=iM (c:=0) hx
     cases hy;rfl
 split at h
 · split at h
   · cases h
   · obtain⟨x,hx⟩:=iM (c:=0) h
     obtain⟨y,hy⟩:=iM (c:=0) hx
     cases hy;rfl
 split at h
 · obtain⟨x,hx⟩:=iM (c:=0) h
   cases hx;rfl
 split at h
 · split at h
   · cases h
   · obtain⟨x,hx⟩:=iM (c:=0) h
     cases hx;rfl
 split at h
 · split at h
   · cases h
   · obtain⟨x,hx⟩:=iM (c:=0) h
     obtain⟨y,hy⟩:=iM (c:=0) hx
     cases hy;rfl
 split at h
 · cases h
 · obtain⟨x,hx⟩:=iM (c:=0) h
   cases hx;rfl
mutual
theorem uU (V:fS) (ls:List Nat) : ∀(x:Ins) (n:Nat) (d:Bool) (c m:Nat) (d':Bool) (c':Nat),gQ V ls x n d c = .ok m d' c'→c≤c'∧c'+1≤c+jz x
 |.mk op r a b nn tg l e,n,d,c,m,d',c',h=>by
  simp only[gQ] at h
  simp only[jz]
  split at h
  · cases h;omega
  split at h
  · split at h
    · cases h
    · rename_i n1 d1 c1 h1
      have:=kS V _ l 0 false c n1 d1 c1 h1
      have:=As h
      cases this;omega
  split at h
  · obtain⟨x,h⟩:=iM (c:=0) h
    split at h
    · cases h
    · rename_i n1 d1 c1 h1
      have:=kS V _ l 0 false c n1 d1 c1 h1
      have h:=As h
      split at h
      · cases h
      · rename_i n2 d2 c2 h2
        have:=kS V _ e 0 false c1 n2 d2 c2 h2
        have h:=As h
        cases h;omega
  · have:=IM h
    omega
theorem kS (V:fS) (ls:List Nat) : ∀(l:List Ins) (n:Nat) (d:Bool) (c m:Nat) (d':Bool) (c':Nat),cM V ls l n d c = .ok m d' c'→c≤c'∧c'≤c+bF l
 |[],n,d,c,m,d',c',h=>by simp only[cM] at h;cases h;simp
 |x::r,n,d,c,m,d',c',h=>by
  simp only[cM] at h
  simp only[bF]
  split at h
  · cases h
  · rename_i n1 d1 c1 h1
    have:=uU V ls x n d (c+1) n1 d1 c1 h1
    have:=kS V ls r n1 d1 c1 m d' c' h
    omega
end
theorem EM (V:fS) (ls:List Nat) (x:Ins) (r:List Ins) (n:Nat) (d:Bool) (c:Nat):cM V ls (x::r) n d c=(gQ V ls x n d (c+1)).and fun n d c=>cM V ls r n d c:=by
 simp only[cM]
 cases gQ V ls x n d (c+1)<;>rfl
theorem Yf:(acU==acU)=true:=rfl
theorem iki:(aeY==aeY)=true:=rfl
def Cc (x:Ins):Bool:=decide (0≤x.results∧x.results≤1)
structure Fit (l:List Ins) (c k:Nat):Prop where
 res:th Cc l=true
 wf:Ke l
 tag:iZ l≤1000000000
 num:c+bF l≤1000000000
 dep:k+dw 1 l≤1000
section
variable {X:Lx} {V:fS} {ll:List Ins}
theorem tA (o:List Fr) (t:Fr) (d:Bool):bR (o++[⟨t.op,t.base,t.res,d⟩])=bR (o++[t]):=by simp[bR]
def CL (X:Lx) (V:fS) (l:List Ins):Prop:= ∀(R:Rw) (o:List Fr) (t:Fr) (n c:Nat),Fit l c (o.length+1)→eJ R o t n c → ∃R',dB X 84 [aL l] R R'∧dX o t R' (cM V (bR (o++[t])) l n t.dead c)
def CI (X:Lx) (V:fS) (o:List Fr) (t:Fr) (x:Ins):Prop:= ∀(R:Rw) (d:Bool) (n c:Nat),c+jz x≤1000000001→eJ R o ⟨t.op,t.base,t.res,d⟩ n c→R.h+1≤c → ∃R',dB X 116 [HB x,sI .i64 c] R R'∧dX o t R' (gQ V (bR (o++[t])) x n d c)
theorem Ur {R:Rw} (he:R.e≠0) (l:List Ins) (hl:l.length≤1000000000):dB X 84 [aL l] R R:=by
 refine an.settle (l0:=X.M.cells++[sI .i64 X.tP,sI .i64 X.tR,sI .u64 X.own,sI .i64 R.h,.ms 1 0 R.k 4 none,sI .i64 R.e,sI .i64 R.p,sI .i64 R.nx]) ?_ (aw 2)
 refine aa aI (B7 X R R R R R R R R l) ?_
 simp only[bT,aG.ok,aO]
 have e0:(R.e != 0)=true:=by simpa using he
 cases l with
 |nil=>
  refine af aI (wK X R R R R R R R R [] 0 0 0 0 0 0 [] [] []) ?_
  simp only[wJ,bt,qc,bV,qb,bK,dh,gk,qq,mP,bT,br,aG.ok,aO,aep]
  exact⟨fun h=>absurd h (by decide),fun _=>trivial⟩
 |cons x r=>
  obtain⟨op,rs,a,b,nn,tg,ll,le⟩:=x
  have hg:(Ins.mk op rs a b nn tg ll le::r)[0]? = some (.mk op rs a b nn tg ll le):=rfl
  obtain⟨c0,c1,c2,c3,c4,c5,c6,c7⟩:=hY hg
  refine af aI (wK X R R R R R R R R (.mk op rs a b nn tg ll le::r) 0 op rs a b nn tg ll le) ?_
  have g1:decide (((0:Nat):Int)<((Ins.mk op rs a b nn tg ll le::r).length:Int))=true:=by simp
  simp only[wJ,bt,qc,bV,qb,bK,dh,gk,qq,mP,bT,br,aG.ok,aO,g1,e0,aeL,bm,aex,c0,c1,c2,c3,c4,c5,c6,c7,isInt,aX,au,aq,aK,aj,bE,ik,Yf,iki,dO,aeN,jn,decide_eq_true_eq]
  exact⟨by omega,rfl⟩
theorem OI {o:List Fr} {t:Fr} {xs:List Ins} (hx:xs.length≤1000000000) (IH : ∀x∈xs,CI X V o t x) :
  ∀(m i:Nat),i+m=xs.length → ∀(R:Rw) (v:VR),dX o t R v→(∀n d c,v = .ok n d c→c+bF (xs.drop i)≤1000000000) →
   ∃R',bp aeB env (ah aeB env 84 0 [.mp 0 0,aL xs,sI .i64 xs.length,sI .i64 i] (oB X R) 2 32) (.ret (.aD []) (oB X R'))∧dX o t R' (v.and fun n d c=>cM V (bR (o++[t])) (xs.drop i) n d c):=by
 intro m
 induction m with
 |zero=>
  intro i hi R v hv _
  refine⟨R,af aI (B8 X R R R R R R R R xs i 0 0 0 0 0 [] [] []) ?_,?_⟩
  · have g1:decide ((i:Int)<(xs.length:Int))=false:=by simp;omega
    simp only[Aq,bt,qc,bV,qb,bK,dh,gk,qq,pE,br,aG.ok,aO,g1,pD,false_implies,true_implies,true_and]
  · rw[List.drop_eq_nil_of_le (by omega)]
    cases v with
    |aU e q=>exact hv
    |ok n d c=>exact hv
 |succ m ih=>
  intro i hi R v hv hb
  have hlt:i<xs.length:=by omega
  have CT:xs[i]? = some xs[i]:=df hlt
  have PC:xs.drop i=xs[i]::xs.drop (i+1):=aeo hlt
  have hmem:xs[i]∈xs:=eQ hlt
  generalize xs[i]=x at *
  have uq:=IH x hmem
  obtain⟨op,rs,a,b,nn,tg,ll,le⟩:=x
  obtain⟨c0,c1,c2,c3,c4,c5,c6,c7⟩:=hY CT
  have g1:decide ((i:Int)<(xs.length:Int))=true:=by simp;omega
  have w1:=fk i (by omega)
  cases v with
  |aU e q=>
   have e0:(R.e != 0)=true:=by rw[hv.1];simpa using hv.2.1
   refine⟨R,af aI (B8 X R R R R R R R R xs i op rs a b nn tg ll le) ?_,hv⟩
   simp only[Aq,bt,qc,bV,qb,bK,dh,gk,qq,pE,br,aG.ok,aO,g1,e0,aeL,bm,aex,c0,c1,c2,c3,c4,c5,c6,c7,isInt,aX,au,aq,aK,aj,bE,ik,Yf,iki,dO,aeN,jn,decide_eq_true_eq]
   exact⟨by omega,rfl⟩
  |ok n d c=>
   have Y5:=hb n d c rfl
   rw[PC] at Y5
   have hn1:1≤jz (.mk op rs a b nn tg ll le):=by simp only[jz];omega
   simp only[bF] at Y5
   have hg:eJ ⟨R.h,R.k,R.cs,R.e,R.p,R.nx+1⟩ o ⟨t.op,t.base,t.res,d⟩ n (c+1):=by
    obtain⟨⟨q1,q2,q3,q4⟩,q5,q6,q8,q7⟩:=hv
    exact⟨⟨q1,q2,q3,q4⟩,q5,by simp only;omega,q8,by simp only;omega⟩
   obtain⟨R1,r1,a1⟩:=uq _ d n (c+1) (by omega) hg (by have:=hv.le;simp only;omega)
   obtain⟨R',gR,aR⟩:=ih (i+1) (by omega) R1 _ a1 (fun n' d' c' Y9=>by
    have:=uU V _ _ _ _ _ _ _ _ Y9
    omega)
   refine⟨R',af aI (B8 X R R1 R R R R R R xs i op rs a b nn tg ll le) ?_,?_⟩
   · have e0:(R.e != 0)=false:=by have:=hv.e;simp[this]
     have Gv:R.nx=(c:Int):=hv.nx
     have w2:tp.wrap (R.nx+1)=R.nx+1:=aZ (by omega) (by omega)
     have ZE:((c+1:Nat):Int)=R.nx+1:=by omega
     rw[ZE] at r1
     simp only[Aq,bt,qc,bV,qb,bK,dh,gk,qq,pE,br,aG.ok,aO,g1,e0,w1,w2,aeL,bm,aex,c0,c1,c2,c3,c4,c5,c6,c7,isInt,aX,au,aq,aK,aj,bE,ik,Yf,iki,dO,aeN,jn,decide_eq_true_eq]
     exact⟨by omega,rfl,r1,gR⟩
   · rw[PC]
     show dX o t R' (cM V (bR (o++[t])) (.mk op rs a b nn tg ll le::xs.drop (i+1)) n d c)
     rw[EM]
     exact aR
theorem Yg {o:List Fr} {t:Fr} {xs:List Ins} (hx:xs.length≤1000000000) (IH : ∀x∈xs,CI X V o t x) {R:Rw} {n c:Nat} (hc:c+bF xs≤1000000000) (g:eJ R o t n c) :
  ∃R',dB X 84 [aL xs] R R'∧dX o t R' (cM V (bR (o++[t])) xs n t.dead c):=by
 cases xs with
 |nil=>
  refine⟨R,?_,by simp only[cM];exact g⟩
  refine an.settle (l0:=X.M.cells++[sI .i64 X.tP,sI .i64 X.tR,sI .u64 X.own,sI .i64 R.h,.ms 1 0 R.k 4 none,sI .i64 R.e,sI .i64 R.p,sI .i64 R.nx]) ?_ (aw 2)
  refine aa aI (B7 X R R R R R R R R []) ?_
  simp only[bT,aG.ok,aO]
  refine af aI (wK X R R R R R R R R [] 0 0 0 0 0 0 [] [] []) ?_
  simp only[wJ,bt,qc,bV,qb,bK,dh,gk,qq,mP,bT,br,aG.ok,aO,aep]
  exact⟨fun h=>absurd h (by decide),fun _=>trivial⟩
 |cons x r=>
  have uq:=IH x (by simp)
  obtain⟨op,rs,a,b,nn,tg,ll,le⟩:=x
  have hn1:1≤jz (.mk op rs a b nn tg ll le):=by simp only[jz];omega
  simp only[bF] at hc
  have CT:(Ins.mk op rs a b nn tg ll le::r)[0]? = some (.mk op rs a b nn tg ll le):=rfl
  obtain⟨c0,c1,c2,c3,c4,c5,c6,c7⟩:=hY CT
  have hg:eJ ⟨R.h,R.k,R.cs,R.e,R.p,R.nx+1⟩ o ⟨t.op,t.base,t.res,t.dead⟩ n (c+1):=by
   obtain⟨⟨q1,q2,q3,q4⟩,q5,q6,q8,q7⟩:=g
   exact⟨⟨q1,q2,q3,q4⟩,q5,by simp only;omega,q8,by simp only;omega⟩
  obtain⟨R1,r1,a1⟩:=uq _ t.dead n (c+1) (by omega) hg (by have:=g.le;simp only;omega)
  obtain⟨R',gR,aR⟩:=OI (V:=V) hx IH r.length 1 (by simp;omega) R1 _ a1 (fun n' d' c' Y9=>by
   have:=uU V _ _ _ _ _ _ _ _ Y9
   simp only[List.drop_succ_cons,adr]
   omega)
  refine⟨R',aa aI (B7 X R R R R R R R R _) ?_,?_⟩
  · simp only[bT,aG.ok,aO]
    refine af aI (wK X R R1 R R R R R R (.mk op rs a b nn tg ll le::r) 0 op rs a b nn tg ll le) ?_
    have g1:decide (((0:Nat):Int)<((Ins.mk op rs a b nn tg ll le::r).length:Int))=true:=by simp
    have e0:(R.e != 0)=false:=by have:=g.e;simp[this]
    have Gv:R.nx=(c:Int):=g.nx
    have w2:tp.wrap (R.nx+1)=R.nx+1:=aZ (by omega) (by omega)
    have ZE:((c+1:Nat):Int)=R.nx+1:=by omega
    rw[ZE] at r1
    simp only[wJ,bt,qc,bV,qb,bK,dh,gk,qq,mP,bT,br,aG.ok,aO,g1,e0,w2,aeL,bm,aex,c0,c1,c2,c3,c4,c5,c6,c7,isInt,aX,au,aq,aK,aj,bE,ik,Yf,iki,dO,aeN,jn,decide_eq_true_eq]
    exact⟨by omega,rfl,r1,rfl,gR⟩
  · rw[EM]
    exact aR
theorem nG {o:List Fr} {t:Fr} {d:Bool} {R:Rw} {v:VR} (h:dX o ⟨t.op,t.base,t.res,d⟩ R v):dX o t R v:=by
 cases v with
 |aU e q=>exact h
 |ok n d c=>exact h
theorem yC (Wl:CL X V ll) {R:Rw} {o:List Fr} {t:Fr} {n c:Nat} (g:eJ R o t n c) {op r:Int} (q:Nat) (hop:op=2∨op=3∨op=4∨op=5) (hr:0≤r) (CN:r≤1) (hh:R.h+1≤c)
  (hfit:Fit ll c (o.length+2)) : ∃R1 R2 R3,dB X 156 [sI .i64 op,sI .i64 r,sI .i64 q] R R1∧an aeB env 156 [.mp 0 0,sI .i64 op,sI .i64 r,sI .i64 q] (fR X R) (.aD []) [qH X.M X.tP X.tR X.own R1.h 2 R1.k R1.e R1.p R1.nx,dN R.cs,dN R1.cs] ∧
    dB X 84 [aL ll] R1 R2∧dB X 85 [sI .i64 q] R2 R3∧dX o t R3 ((cM V ((if op=3 then 0 else r.toNat)::bR (o++[t])) ll 0 false c).and fun n1 d1 c1=>dx r.toNat n1 d1 q (.ok (n+r.toNat) t.dead c1)):=by
 have hd:=hfit.dep
 obtain⟨R1,r1,k1,g1⟩:=Oy (X:=X) g q hop hr CN (by omega)
 obtain⟨R2,r2,a2⟩:=Wl R1 (o++[t]) ⟨op,R.h,r,false⟩ 0 c (by rw[du];exact hfit) g1
 rw[T6] at a2
 dsimp only at a2
 cases hv:cM V ((if op=3 then 0 else r.toNat)::bR (o++[t])) ll 0 false c with
 |aU e p=>
  rw[hv] at a2
  have hb:R2.e≠0:=by rw[a2.1];exact a2.2.1
  exact⟨R1,R2,R2,r1,k1,r2,abF hb,a2⟩
 |ok n1 d1 c1=>
  rw[hv] at a2
  have jG:=kS V _ _ _ _ _ _ _ _ hv
  have Us:=hfit.num
  obtain⟨R3,r3,a3⟩:=Oz (X:=X) (s:=t) a2 q (by simp only;omega) (by omega)
  refine⟨R1,R2,R3,r1,k1,r2,r3,?_⟩
  have hn:(R.h-t.base).toNat=n:=by have:=g.h;omega
  simp only[hn] at a3
  exact a3
end
theorem tB {p:Ins→Bool} : ∀{l:List Ins},th p l=true → ∀x∈l,Gw p x=true
 |[],_,_,hx=>by cases hx
 |y::r,h,x,hx=>by
  simp only[th,jn] at h
  cases hx with
  |head=>exact h.1
  |tail _ hx=>exact tB h.2 x hx
theorem qa : ∀{l:List Ins},Ke l → ∀x∈l,Jt x
 |[],_,_,hx=>by cases hx
 |y::r,h,x,hx=>by
  simp only[Ke] at h
  cases hx with
  |head=>exact h.1
  |tail _ hx=>exact qa h.2 x hx
theorem wN : ∀{l:List Ins},∀x∈l,vY x≤iZ l
 |[],_,hx=>by cases hx
 |y::r,x,hx=>by
  simp only[iZ]
  cases hx with
  |head=>omega
  |tail _ hx=>have:=wN x hx;omega
theorem wO {d:Nat} : ∀{l:List Ins},∀x∈l,vX d x≤dw d l
 |[],_,hx=>by cases hx
 |y::r,x,hx=>by
  simp only[dw]
  cases hx with
  |head=>omega
  |tail _ hx=>have:=wO (d:=d) x hx;omega
theorem tC (l:List Ins):dw 1 l+1≤max 1 (dw 2 l):=by
 by_cases h:l=[]
 · subst h;simp[dw]
 · have h2:dw 2 l=dw 1 l+1:=nr 1 l h
   omega
theorem Ut {r n q a x:Nat} {d b:Bool} {f:VR}:dx r n d q f=(dx r n d q (.ok a b x)).and fun _ _ _=>f:=by
 unfold dx bU
 split
 · rfl
 · dsimp only
   split<;>rfl
theorem Yh {v:VR} {F G:Nat→Bool→Nat→VR}:(v.and F).and G=v.and fun n d c=>(F n d c).and G:=by cases v<;>rfl
section
variable {X:Lx} {V:fS}
theorem OJ (hv:X2 X V) {o:List Fr} {t:Fr} (x:Ins) (hl:CL X V x.l) (he:CL X V x.e) (hok:Gw Cc x=true) (hwf:Jt x) (abO:vY x≤1000000000) (agp:o.length+1+vX 1 x≤1000):CI X V o t x:=by
 obtain⟨op,r,a,b,nn,tg,ll,le⟩:=x
 intro R d n c Us g hh
 simp only[Ins.l,Ins.e] at hl he
 simp only[Gw,jn] at hok
 obtain⟨hres,abP,ad3⟩:=hok
 obtain⟨hr0,CN⟩:0≤r∧r≤1:=of_decide_eq_true hres
 simp only[Jt] at hwf
 obtain⟨_,_,wa,_,_,⟨wt1,wt2⟩,⟨_,wl⟩,_,we⟩:=hwf
 simp only[vY] at abO
 simp only[vX,aex] at agp
 simp only[jz] at Us
 have ha:=Mb wa
 have V1 : ∀x∈tg,0≤x∧x<4294967296:=fun x hx=>by have:=Mb (wt2 x hx);omega
 have d1:=tC ll
 have d2:=tC le
 have tQ:=tA o t d
 have ad4:Fit ll c (o.length+2):=⟨abP,wl,by omega,by omega,by omega⟩
 show ∃R',dB X 116 [cr op r a b nn tg ll le,sI .i64 c] R R'∧dX o t R' (gQ V (bR (o++[t])) (.mk op r a b nn tg ll le) n d c)
 by_cases o0:op=0
 · subst o0
   obtain⟨R1,r1,a1,_⟩:=IC (X:=X) g c
   refine⟨R1,Ua r1,?_⟩
   simp only[gQ,if_true]
   exact a1
 by_cases PE:op=2∨op=3
 · obtain⟨R1,R2,R3,r1,_,r2,r3,a3⟩:=yC hl g (op:=op) (r:=r) c (by omega) hr0 CN hh ad4
   refine⟨R3,tw (by omega) (abI (by omega) r1 r2 r3),?_⟩
   rw[tQ] at a3
   have e1:gQ V (bR (o++[t])) (.mk op r a b nn tg ll le) n d c=(cM V ((if op=3 then 0 else r.toNat)::bR (o++[t])) ll 0 false c).and fun n1 d1 c1=>dx r.toNat n1 d1 c (.ok (n+r.toNat) d c1):=by
    simp only[gQ]
    rw[if_neg o0,if_pos PE]
    cases cM V ((if op=3 then 0 else r.toNat)::bR (o++[t])) ll 0 false c<;>rfl
   rw[e1]
   exact nG a3
 by_cases o4:op=4
 · subst o4
   obtain⟨R1,r1,a1,h1,x1⟩:=tv (X:=X) g 1 c
   have e1:gQ V (bR (o++[t])) (.mk 4 r a b nn tg ll le) n d c=(bU c 1 n d fun m=> .ok m d c).and fun n0 _ _=>(cM V (r.toNat::bR (o++[t])) ll 0 false c).and fun n1 d1 c1=>
    dx r.toNat n1 d1 c ((cM V (r.toNat::bR (o++[t])) le 0 false c1).and fun n2 d2 c2=>dx r.toNat n2 d2 c (.ok (n0+r.toNat) d c2)):=by
    simp only[gQ]
    rw[if_neg o0,if_neg PE,if_true,pF]
    congr 1
   rw[e1]
   have ad5 : ∀n0 d0 c0,(bU c 1 n d fun m=> .ok m d c) = .ok n0 d0 c0→d0=d∧c0=c:=fun n0 d0 c0 hp=>by
    obtain⟨m,hm⟩:=iM (c:=0) hp
    cases hm;exact⟨rfl,rfl⟩
   dsimp only at a1
   generalize hvp:(bU c 1 n d fun m=>VR.ok m d c)=vp at a1 ad5
   cases vp with
   |aU e q=>
    have hb:R1.e≠0:=by rw[a1.1];exact a1.2.1
    exact⟨R1,tw (by omega) (abJ hb r1 (agd hb) (Ur hb ll (by have:=eu ll;omega)) (abF hb)),a1⟩
   |ok n0 d0 c0=>
    obtain⟨rfl,rfl⟩:=ad5 _ _ _ rfl
    have Gv:=g.nx
    obtain⟨R2,R3,R4,r2,k2,r3,r4,a4⟩:=yC hl a1 (op:=4) (r:=r) c0 (by omega) hr0 CN (by omega) ad4
    rw[tA,tA,if_neg (by decide)] at a4
    simp only[VR.and]
    show ∃R',_∧dX o t R' ((cM V (r.toNat::bR (o++[t])) ll 0 false c0).and fun n1 d1 c1=>dx r.toNat n1 d1 c0 ((cM V (r.toNat::bR (o++[t])) le 0 false c1).and fun n2 d2 c2=>dx r.toNat n2 d2 c0 (.ok (n0+r.toNat) d0 c2)))
    have e2:((cM V (r.toNat::bR (o++[t])) ll 0 false c0).and fun n1 d1 c1=>dx r.toNat n1 d1 c0 ((cM V (r.toNat::bR (o++[t])) le 0 false c1).and fun n2 d2 c2=>dx r.toNat n2 d2 c0 (.ok (n0+r.toNat) d0 c2))) =
     ((cM V (r.toNat::bR (o++[t])) ll 0 false c0).and fun n1 d1 c1=>dx r.toNat n1 d1 c0 (.ok (n0+r.toNat) d0 c1)).and fun _ _ c1=>(cM V (r.toNat::bR (o++[t])) le 0 false c1).and fun n2 d2 c2=>dx r.toNat n2 d2 c0 (.ok (n0+r.toNat) d0 c2):=by
     rw[Yh]
     cases cM V (r.toNat::bR (o++[t])) ll 0 false c0 with
     |aU e q=>rfl
     |ok n1 d1 c1=>
      simp only[VR.and]
      rw[Ut (a:=n0+r.toNat) (b:=d0) (x:=c1)]
      unfold dx bU
      split
      · rfl
      · dsimp only
        split<;>rfl
    rw[e2]
    have hc4 : ∀n4 d4 c4,((cM V (r.toNat::bR (o++[t])) ll 0 false c0).and fun n1 d1 c1=>dx r.toNat n1 d1 c0 (.ok (n0+r.toNat) d0 c1)) = .ok n4 d4 c4→c0≤c4∧c4≤c0+bF ll:=by
     intro n4 d4 c4 h4
     cases hvl:cM V (r.toNat::bR (o++[t])) ll 0 false c0 with
     |aU e q=>rw[hvl] at h4;cases h4
     |ok n1 d1 c1=>
      rw[hvl] at h4
      have:=As h4
      cases this
      exact kS V _ _ _ _ _ _ _ _ hvl
    have a4:=nG a4
    generalize hv4:((cM V (r.toNat::bR (o++[t])) ll 0 false c0).and fun n1 d1 c1=>dx r.toNat n1 d1 c0 (.ok (n0+r.toNat) d0 c1))=v4 at a4 hc4
    have a4':dX o t R4 v4:=by
     rw[←hv4];rw[←hv4] at a4;exact nG a4
    cases v4 with
    |aU e q=>
     have hb:R4.e≠0:=by rw[a4'.1];exact a4'.2.1
     exact⟨R4,tw (by omega) (Ud (R5:=R4) (R6:=R4) r1 k2 r3 r4 (fun _=>rfl) (fun h=>absurd h hb) (fun h=>absurd h hb) (fun h=>absurd h hb)),a4'⟩
    |ok n4 d4 c4=>
     obtain⟨ajg,ajh⟩:=hc4 _ _ _ rfl
     have gS:eJ ⟨R1.h,R1.k,R1.cs,R4.e,R4.p,R4.nx⟩ o ⟨t.op,t.base,t.res,d0⟩ n0 c4:=⟨⟨a1.h,a1.k,a1.cs,a1.ok⟩,a4'.e,a4'.nx,a4'.p0,by have:=a1.le;simp only;omega⟩
     obtain⟨R5,R6,R7,r5,_,r6,r7,a7⟩:=yC he gS (op:=5) (r:=r) c0 (by omega) hr0 CN (by simp only;omega) ⟨ad3,we,by omega,by omega,by omega⟩
     rw[tA,if_neg (by decide)] at a7
     exact⟨R7,tw (by omega) (Ud r1 k2 r3 r4 (fun h=>absurd a4'.e h) (fun _=>r5) (fun _=>r6) (fun _=>r7)),nG a7⟩
 have e0:gQ V (bR (o++[t])) (.mk op r a b nn tg ll le) n d c=dW V (bR (o++[t])) op a tg n d c:=by
  simp only[gQ]
  rw[if_neg o0,if_neg PE,if_neg o4]
 rw[e0,←tQ]
 obtain⟨a,rfl⟩:=agA ha.1
 have ha':a<4294967296:=by omega
 have hc9:c≤1000000000:=by omega
 have fin : ∀{R':Rw} {v:VR},dB X 116 [cr op r a b nn tg ll le,sI .i64 c] R R'∧dX o ⟨t.op,t.base,t.res,d⟩ R' v→dB X 116 [cr op r a b nn tg ll le,sI .i64 c] R R'∧dX o t R' v:=fun h=>⟨h.1,nG h.2⟩
 by_cases Zm:op=12
 · subst Zm
   obtain⟨R',h⟩:=abM (V:=V) (r:=r) (b:=b) (nn:=nn) (tg:=tg) (ll:=ll) (le:=le) g a ha'
   exact⟨R',fin h⟩
 by_cases Zn:op=13
 · subst Zn
   obtain⟨R',h⟩:=Ul (V:=V) (r:=r) (b:=b) (nn:=nn) (tg:=tg) (ll:=ll) (le:=le) g hh hc9 a ha'
   exact⟨R',fin h⟩
 by_cases Zo:op=14
 · subst Zo
   obtain⟨R',h1,h2⟩:=OH (V:=V) (r:=r) (a:=a) (b:=b) (nn:=nn) (tg:=tg) (ll:=ll) (le:=le) g ⟨by omega,by omega⟩ V1 (by omega)
   exact⟨R',fin ⟨OC h1,h2⟩⟩
 by_cases Zp:op=15
 · subst Zp
   obtain⟨R',h⟩:=X7 (r:=r) (b:=b) (nn:=nn) (tg:=tg) (ll:=ll) (le:=le) hv g a
   exact⟨R',fin h⟩
 by_cases Zq:op=16
 · subst Zq
   obtain⟨R',h⟩:=Um (r:=r) (b:=b) (nn:=nn) (tg:=tg) (ll:=ll) (le:=le) hv g hh hc9 a ha'
   exact⟨R',fin h⟩
 by_cases Zr:op=17
 · subst Zr
   obtain⟨R',h⟩:=X8 (r:=r) (b:=b) (nn:=nn) (tg:=tg) (ll:=ll) (le:=le) hv g hh hc9 a ha'
   exact⟨R',fin h⟩
 · obtain⟨R',h1,h2⟩:=OE (r:=r) (b:=b) (nn:=nn) (tg:=tg) (ll:=ll) (le:=le) hv g hh hc9 (op:=op) ha'
   refine⟨R',fin ⟨OD (by omega) h1,?_⟩⟩
   have e1:dW V (bR (o++[⟨t.op,t.base,t.res,d⟩])) op a tg n d c=if bJ V op a≠0 then .aU (bJ V op a) c else bU c (gC op) n d fun n1=> .ok (n1+iw op) d c:=by
    unfold dW
    rw[if_neg Zm,if_neg Zn,if_neg Zo,if_neg Zp,if_neg Zq,if_neg Zr]
   rw[e1]
   exact h2
theorem Uu (hv:X2 X V) : ∀l:List Ins,CL X V l:=by
 refine tj fun l hl=> ?_
 intro R o t n c hf g
 refine Yg (V:=V) (by have:=eu l;have:=hf.num;omega) (fun x hx=> ?_) hf.num g
 obtain⟨h1,h2⟩:=hl x hx
 have:=hf.tag
 have:=hf.dep
 have ht:=wN x hx
 have hd:=wO (d:=1) x hx
 exact OJ hv x h1 h2 (tB hf.res x hx) (qa hf.wf x hx) (by omega) (by omega)
end
def loS (X:Lx) (n:Nat) (P Q lo:Int) (l:List Ins) (R1 R2:Rw):FuncId→Nat→Nat→Option (AV→AV):=cJ [(40,7,5,.agg [sI .i64 lo,aL l]),(40,8,8,sI .u64 X.own)]
def abR (X:Lx) (n:Nat) (P Q lo:Int) (l:List Ins) (R1:Rw) (R2:Rw):oP:=fc (fun f _ m=>cond (ai f 8) (some (.aD [.agg [sI .i64 X.tP,sI .i64 X.tR],sB true],m)) (cond (ai f 84) (some (.aD [],oB X R1)) (cond (ai f 85) (some (.aD [],oB X R2)) none))) av [] [(40,0,0),(83,2,3),(83,0,0)] [(40,7,3),(40,7,5)] (loS X n P Q lo l R1 R2)
def ad6:Sc:=(jv 4 229).1
abbrev EN (x0:Lx) (x1:Rw):Mem:=[.ac (iQ x0.M++[sI .i64 x0.tP,sI .i64 x0.tR,sI .u64 x0.own,sI .i64 x1.h,.ms 2 0 x1.k 4 none,sI .i64 x1.e,sI .i64 x1.p,sI .i64 x1.nx]),.dead,.ob (eG.gr 160 true) (adP AV.p x1.cs)]
def yD (X:Lx) (R1:Rw) (R2:Rw):aG:=
 (.call ⟨85,[.mp 0 0,sI .i64 0],[.ac (iQ X.M++[sI .i64 X.tP,sI .i64 X.tR,sI .u64 X.own,sI .i64 R1.h,.ms 1 0 R1.k 4 none,sI .i64 R1.e,sI .i64 R1.p,sI .i64 R1.nx]),.ob (eG.gr 160 true) (adP aC (adP aC (adP AV.p R1.cs)))],.aD [],(EN X R2)⟩ (.out (.ret (.aD [sI .i64 R2.e,sI .i64 R2.p]) [])))
def yE (X:Lx) (l:List Ins) (R1:Rw) (R2:Rw):aG:=
 (.call ⟨84,(qJ l),[.ac (iQ X.M++[sI .i64 X.tP,sI .i64 X.tR,sI .u64 X.own,sI .i64 0,bP,sI .i64 0,sI .i64 0,sI .i64 0])],.aD [],(EN X R1)⟩ (yD X R1 R2))
def MH (X:Lx) (n:Nat) (P Q lo:Int) (l:List Ins) (R1:Rw) (R2:Rw):aG:=
 (.test (decide ((↑n:Int)≥(↑X.M.Ge:Int)))
 (.out (.ret (.aD [sI .i64 6,sI .i64 0]) []))
 (.call ⟨8,[.agg X.M.cells,sI .u32 (acU.wrap (tp.wrap ((↑X.M.Ip:Int)+(↑n:Int))))],[],.aD [.agg [sI .i64 X.tP,sI .i64 X.tR],sB true],[]⟩
 (.must (bE (↑n:Int) X.M.Ge&&true&&true)
 (.must (isInt tp (aA X.M.wG (aF n*3+1))&&(aX (aA X.M.wG (aF n*3+1+1))&&true)&&true)
 (.need (AV.agg [sI .i64 (au (aA X.M.wG (aF n*3+1))),AV.p (PV.ps (aq (aA X.M.wG (aF n*3+1+1))) (aK (aA X.M.wG (aF n*3+1+1))) (aj (aA X.M.wG (aF n*3+1+1))))]=AV.agg [sI tp lo,aL l])
 (.need (sI .u64 (ae1.wrap (ae1.wrap X.tP+ae1.wrap lo))=sI ae1 X.own)
 (.test (decide (X.tR<0))
 (yE X l R1 R2)
 (.test (decide (X.tR>1))
 (yE X l R1 R2)
 (.call ⟨84,(qJ l),[.ac (iQ X.M++[sI .i64 X.tP,sI .i64 X.tR,sI .u64 X.own,sI .i64 0,.ms 1 0 1 4 none,sI .i64 0,sI .i64 0,sI .i64 0]),.ob (eG.gr 160 true) [sI .i64 0,sI .i64 0,sI .i64 X.tR,sB false]],.aD [],(EN X R1)⟩
 (yD X R1 R2))))))))))
theorem Uv (X:Lx) (n:Nat) (P Q lo:Int) (l:List Ins) (R1:Rw) (R2:Rw):aE aeB env (abR X n P Q lo l R1 R2) 1000000 40 ([AV.agg X.M.cells,sI tp (↑n:Int)]) ([]) ad6=MH X n P Q lo l R1 R2:=by kernel_rfl
theorem OK {X:Lx} {V:fS} (hv:X2 X V) {n:Nat} {lo:Int} {l:List Ins} (hn:n<X.M.Ge) (hf:X.M.Ge≤1000000000) (hi:X.M.Ip≤1000000000) (hlo:X.M.wG.getD (n*3+1) .aU = .sc (.int .i64 lo)) (hl:X.M.wG.getD (n*3+2) .aU = .ps l.length 8 (ak l))
  (hp:0≤X.tP∧X.tP≤1000000) (ags:0≤lo∧lo≤1000000) (how:X.own=X.tP+lo) (hty:an aeB env 8 [.agg X.M.cells,sI .u32 (X.M.Ip+n:Nat)] [] (.aD [.agg [sI .i64 X.tP,sI .i64 X.tR],sB true]) [])
  (hfit:Fit l 0 1):an aeB env 40 [.agg X.M.cells,sI .i64 n] [] (.aD [sI .i64 (wF V l).1,sI .i64 ((wF V l).2:Nat)]) []:=by
 have Uw:=hv.ret
 have ahJ:=hv.X3
 have g0:eJ ⟨0,1,frC 0 0 X.tR false,0,0,0⟩ [] ⟨0,0,X.tR,false⟩ 0 0:=by
  refine⟨⟨rfl,rfl,⟨[],rfl⟩,?_⟩,rfl,rfl,rfl,by simp⟩
  exact⟨rfl,rfl,by simp only;omega,by simp only;omega,trivial,by simp,by simp,by simp⟩
 obtain⟨R1,r1,a1⟩:=Uu hv l _ [] ⟨0,0,X.tR,false⟩ 0 0 hfit g0
 have tQ:bR ([]++[(⟨0,0,X.tR,false⟩:Fr)])=[V.ret]:=by simp[bR,Uw]
 rw[tQ] at a1
 have hres:X.tR.toNat=V.ret:=by omega
 have key : ∃R2,dB X 85 [sI .i64 (0:Nat)] R1 R2∧R2.e=(wF V l).1∧R2.p=((wF V l).2:Nat):=by
  unfold wF
  dsimp only at a1
  cases hvl:cM V [V.ret] l 0 false 0 with
  |aU e p=>
   rw[hvl] at a1
   exact⟨R1,abF (by rw[a1.1];exact a1.2.1),a1.1,a1.2.2⟩
  |ok m d c=>
   rw[hvl] at a1
   obtain⟨R2,r2,h2⟩:=OA (X:=X) a1 0
   refine⟨R2,r2,?_⟩
   simp only[hres] at h2
   have hp0:=a1.p0
   cases CK:dx V.ret m d 0 (.ok 0 false 0) with
   |aU e p=>rw[CK] at h2;dsimp only;rw[CK];exact h2
   |ok m' d' c'=>rw[CK] at h2;dsimp only;rw[CK];exact⟨h2.1,by rw[h2.2,hp0];rfl⟩
 obtain⟨R2,r2,e2,p2⟩:=key
 rw[←e2,←p2]
 refine aa aI (Uv X n X.tP X.tR lo l R1 R2) ?_
 have w1:tp.wrap ((X.M.Ip:Int)+n)=((X.M.Ip+n:Nat):Int):=by rw[aZ (by omega) (by omega)];omega
 have w2:acU.wrap ((X.M.Ip+n:Nat):Int)=((X.M.Ip+n:Nat):Int):=Zg (by omega) (by omega)
 have w3:ae1.wrap X.tP=X.tP:=mA (by omega) (by omega)
 have w4:ae1.wrap lo=lo:=mA (by omega) (by omega)
 have w5:ae1.wrap (X.tP+lo)=X.own:=by rw[mA (by omega) (by omega),how]
 have g1:decide ((n:Int)≥(X.M.Ge:Int))=false:=by simp;omega
 have g2:decide (X.tR<0)=false:=by simp;omega
 have g3:decide (X.tR>1)=false:=by simp;omega
 simp only[MH,EN,qJ,yD,EN,yE,EN,qJ,br,aG.ok,aO,w1,w2,w3,w4,w5,g1,g2,g3,aeL,bm,aex,hlo,hl,isInt,aX,au,aq,aK,aj,ik,bE,dO,aeN,jn,decide_eq_true_eq]
 exact⟨hty,by omega,r1,r2⟩
end Go.Proofs.YtdmmllcjgjmbbaaGreatDoor.N
end
