import Derived.Test.YtdmmllcjgjmbbaaGreatDoorMN
import Derived.Test.YtdmmllcjgjmbbaaGreatDoorMH
import Derived.Test.YtdmmllcjgjmbbaaGreatDoorMJ
open Nat renaming le_trans→ba,beq→ae,le_refl→bx,zero_le→abb,lt_or_ge→fg
open List renaming flatMap→aem,getElem?_eq_getElem→cb,getElem?_eq_some_iff→dp,mem_of_mem_take→dd,getElem?_append_left→od,flatMap_cons→adE,take_sublist→afb,map→ab6,any_append→afc,getElem_of_mem→afd,any_eq_false→afe,map_append→ab3,map_cons→oT,any_cons→aeV,map_nil→wi,any_nil→aff
open Go.Proofs.Tryz renaming prog→acb
open Go.IntKind renaming i64→sb,u64→ae6,u32→abY
open Int renaming toNat_natCast→acy,le_trans→afg,le_refl→afh
open Bool renaming or_eq_false_iff→pf,and_eq_true→c8,and_true→aeq,true_and→aeM
open Go.Value renaming int→sT
open Decidable renaming not_not→afi
noncomputable section
section
set_option linter.unusedSimpArgs false
set_option linter.unusedVariables false
namespace Go.Proofs.YtdmmllcjgjmbbaaGreatDoor.N
open Go Go.Am
def vpC (M:Mo) (c:Int) (f:FuncId) (args:List AV) (m:Mem):Option (AV×Mem):=cond (ae f 12) (some (sI .i64 c,m)) none
def vsC (M:Mo) (d:Nat) (e n i a:Int) (f:FuncId) (args:List AV) (m:Mem):Option (AV×Mem):=cond (ae f 43) (some (.agg [sI .i64 e,sI .i64 n,sI .i64 i,sI .i64 a],m)) none
def aaM (M:Mo) (c:Int):bH:=aT (vpC M c) aA [(20,1)] [(20,0,0)] []
def adX:Sc:= .fin
def Ou (M:Mo) (c:Int):az:=
 (.call ⟨12,[.agg (ab6 AV.p M.aI)],[],sI .i64 c,[]⟩
 (.test (c != 0)
 (.out (.ret (.agg [sI .i64 c,sI .i64 0,sI .i64 0,sI .i64 0]) []))
 (.at (ak acb env 20 1 [.mp 0 0,.mp 1 0,sI .i64 2] ([.pc M.aI,.pc [sP 0,sP 0,sP 0,sP 0]]) 0 24))))
theorem Sq (M:Mo) (c:Int):aG acb env (aaM M c) 1000000 20 ([AV.agg (ab6 AV.p M.aI)]) ([]) adX=Ou M c:=by kernel_rfl
def aaN (M:Mo) (d:Nat) (e n i a:Int):bH:=aT (vsC M d e n i a) aA [(20,1)] [(20,0,2),(20,0,3)] []
def adY:Sc:= .fin
def GA (M:Mo) (d:Nat) (e n i a:Int):az:=
 (.test (decide ((↑d:Int)≤11))
 (.call ⟨43,[.agg (ab6 AV.p M.aI),sI .i64 (↑d:Int)],[],.agg [sI .i64 e,sI .i64 n,sI .i64 i,sI .i64 a],[]⟩
 (.test (e != 0)
 (.out (.ret (.agg [sI .i64 e,sI .i64 n,sI .i64 i,sI .i64 a]) []))
 (.at (ak acb env 20 1 [.mp 0 0,.mp 1 0,sI .i64 (sb.wrap ((↑d:Int)+1))] ([.pc M.aI,.pc [sP 0,sP 0,sP 0,sP 0]]) 0 24))))
 (.out (.ret (.agg [sI .i64 0,sI .i64 0,sI .i64 0,sI .i64 0]) [])))
theorem IB (M:Mo) (d:Nat) (e n i a:Int):grow acb env (aaN M d e n i a) 1000000 true (ak acb env 20 1 ([AV.mp 0 0,AV.mp 1 0,sI sb (↑d:Int)]) ([aU.pc M.aI,aU.pc [sP 0,sP 0,sP 0,sP 0]]) 0 24) adY atEnd=GA M d e n i a:=by kernel_rfl
abbrev Wr:=Int×Int×Int×Int
def wV (w:Wr):AV:= .agg [sI .i64 w.1,sI .i64 w.2.1,sI .i64 w.2.2.1,sI .i64 w.2.2.2]
def GB (F:Nat→Wr):Nat→Nat→Wr
 |0,_=>(0,0,0,0)
 |r+1,d=>if(F d).1≠0 then F d else GB F r (d+1)
def ng (M:Mo) (F:Nat→Wr):Wr:=if m9 M≠0 then(m9 M,0,0,0) else GB F 10 2
theorem Kb (M:Mo) (hc:an acb env 12 [.agg (M.aI.map .p)] [] (sI .i64 (m9 M)) []) (F:Nat→Wr) (h:m9 M=0 → ∀d:Nat,2≤d→d≤11→an acb env 43 [.agg (M.aI.map .p),sI .i64 d] [] (wV (F d)) []) :
  an acb env 20 [.agg (M.aI.map .p)] [] (wV (ng M F)) []:=by
 have loop:m9 M=0 → ∀r d:Nat,d+r=12→2≤d→cO acb env (ak acb env 20 1 [.mp 0 0,.mp 1 0,sI .i64 d] [.pc M.aI,.pc [sP 0,sP 0,sP 0,sP 0]] 0 24) (.ret (wV (GB F r d)) []):=by
  intro z0 r
  induction r with
  |zero=>
   intro d hd h2
   have e:decide ((d:Int)≤11)=false:=decide_eq_false (by omega)
   refine aj aM (IB M d 0 0 0 0) ?_
   simp only[GA,az.ok,e]
   exact⟨fun q=>(by cases q),fun _=>(by first | exact True.intro | rfl)⟩
  |succ r ih=>
   intro d hd h2
   have e:decide ((d:Int)≤11)=true:=decide_eq_true (by omega)
   have w:sb.wrap ((d:Int)+1)=((d+1:Nat):Int):=by rw[aN (by omega) (by omega)];rfl
   have k:=ih (d+1) (by omega) (by omega)
   refine aj aM (IB M d (F d).1 (F d).2.1 (F d).2.2.1 (F d).2.2.2) ?_
   simp only[GA,az.ok,e,w]
   refine⟨fun _=>⟨h z0 d h2 (by omega),fun q=> ?_,fun q=> ?_⟩,fun q=>(by cases q)⟩
   · rw[GB,if_pos (by simpa using q)];rfl
   · rw[GB,if_neg (by simpa using q)];exact k
 refine af aM (Sq M (m9 M)) ?_
 simp only[Ou,az.ok]
 refine⟨hc,fun q=> ?_,fun q=> ?_⟩
 · rw[ng,if_pos (by simpa using q)];rfl
 · rw[ng,if_neg (by simpa using q)]
   exact loop (by simpa using q) 10 2 (by decide) (by decide)
end Go.Proofs.YtdmmllcjgjmbbaaGreatDoor.N
end
section
set_option linter.unusedSimpArgs false
set_option linter.unusedVariables false
namespace Go.Proofs.YtdmmllcjgjmbbaaGreatDoor.N
open Go Go.Am
structure _root_.Go.Am.Mo.le (A M:Mo):Prop where
 tys:A.tys.Sublist M.tys
 aQ:A.aQ.Sublist M.aQ
 fns:A.fns.Sublist M.fns
 fR:A.fR.Sublist M.fR
 gA:A.gA.Sublist M.gA
 gls:A.gls.Sublist M.gls
 exs:A.exs.Sublist M.exs
 els:A.els.Sublist M.els
 bk:A.bk.Sublist M.bk
 st:(A.st=M.st∧A.sn=M.sn)∨A.sn=0
theorem iq {α:Type} {p:α→Bool} {l m:List α} (h:l.Sublist m) (hm:m.any p=false):l.any p=false:=by
 rw[afe] at hm ⊢
 exact fun x hx=>hm x (h.subset hx)
theorem Bb : ∀(l:List Da) (n m:Int),-1≤n→n≤m→kU n l≤kU m l
 |[],_,_,_,h=>h
 |x::r,n,m,h0,h=>by
  simp only[kU]
  exact Bb r _ _ (by omega) (by omega)
theorem yD : ∀{l m:List Da},l.Sublist m → ∀n:Int,-1≤n→kU n m≤kU n l
 |_,_,.slnil,_,_=>afh _
 |_,_,.cons x h,n,h0=>by
  have h1:=yD h n h0
  rename_i m
  have h2:=Bb m (n-min (x.bs.length:Int) (n+1)) n (by omega) (by omega)
  show kU (n-min (x.bs.length:Int) (n+1)) m≤_
  omega
 |_,_,.cons_cons x h,n,h0=>by
  simp only[kU]
  exact yD h _ (by omega)
theorem yE {α β:Type} {f:α→List β} : ∀{l m:List α},l.Sublist m→(l.flatMap f).Sublist (m.flatMap f)
 |_,_,.slnil=> .refl _
 |_,_,.cons x h=>by
  rw[adE]
  exact(yE h).trans (List.sublist_append_right _ _)
 |_,_,.cons_cons x h=>by
  rw[adE,adE]
  exact(List.Sublist.refl _).append (yE h)
theorem IC {A M:Mo} (h:A.le M):(A2 A).Sublist (A2 M):=(yE h.aQ).append (h.exs.map _)
theorem CK {A M:Mo} (h:A.le M):(qw A).Sublist (qw M):=(((h.fns.map _).append (h.gls.map _)).append (h.els.map _)).append (h.bk.map _)
structure _root_.Go.Am.Mo.Kc (M:Mo):Prop where
 many:oy M=false
 yF:qx M 141=false
 left : ¬kU 1048576 M.bk<0
 long:rW M=false
 rest:pV M=false
 ED:qx M 2=false
theorem CM (M:Mo):m9 M=0↔M.Kc:=by
 unfold m9 A3 Eo Et
 constructor
 · intro h
   cases h1:oy M with
   |true=>simp[h1] at h
   |false=>
    cases h2:qx M 141 with
    |true=>simp[h1,h2] at h
    |false=>
     by_cases h3:kU 1048576 M.bk<0
     · simp[h1,h2,h3] at h
     · cases h4:rW M with
       |true=>simp[h1,h2,h3,h4] at h
       |false=>
        cases h5:pV M with
        |true=>simp[h1,h2,h3,h4,h5] at h
        |false=>
         cases h6:qx M 2 with
         |true=>simp[h1,h2,h3,h4,h5,h6] at h
         |false=>exact⟨h1,h2,h3,h4,h5,h6⟩
 · intro⟨h1,h2,h3,h4,h5,h6⟩
   simp[h1,h2,h3,h4,h5,h6]
theorem EE {A M:Mo} (h:A.le M) (hM:M.Kc):A.Kc where
 many:=by
  have m:=hM.many
  simp only[oy,pf,decide_eq_false_iff_not] at m ⊢
  have a1:=h.tys.length_le;have a2:=h.aQ.length_le;have a3:=h.fns.length_le;have a4:=h.fR.length_le;have a5:=h.gA.length_le
  have a6:=h.gls.length_le;have a7:=h.exs.length_le;have a8:=h.els.length_le;have a9:=h.bk.length_le
  exact⟨⟨⟨by omega,by omega⟩,by omega⟩,iq h.els m.2⟩
 yF:=iq (CK h) hM.yF
 left:=fun q=>hM.left (Int.lt_of_le_of_lt (yD h.bk _ (by decide)) q)
 long:=iq (IC h) hM.long
 rest:=by
  have m:=hM.rest
  simp only[pV,pf] at m ⊢
  obtain⟨⟨⟨⟨⟨⟨⟨m1,m2⟩,m3⟩,m4⟩,m5⟩,m6⟩,m7⟩,m8⟩:=m
  refine⟨⟨⟨⟨⟨⟨⟨iq h.tys m1,iq h.aQ m2⟩,iq h.fns m3⟩,iq (IC h) m4⟩,iq h.fR m5⟩,iq h.gA m6⟩,iq h.exs m7⟩,?_⟩
  rcases h.st with⟨e1,e2⟩ | e
  · rw[e1,e2];exact m8
  · rw[e];simp
 ED:=iq (CK h) hM.ED
theorem le_refl (M:Mo):M.le M:=⟨.refl _,.refl _,.refl _,.refl _,.refl _,.refl _,.refl _,.refl _,.refl _,.inl ⟨rfl,rfl⟩⟩
theorem jG {α:Type} {w:α→Prop} {l m:List α} (h:l.Sublist m) (hm:m0 w m):m0 w l:=⟨ba h.length_le hm.1,fun x hx=>hm.2 x (h.subset hx)⟩
theorem Ov {A M:Mo} (h:A.le M) (hM:M.fit):A.fit:=⟨ba h.tys.length_le hM.tys,ba h.aQ.length_le hM.aQ,ba h.fns.length_le hM.fns,ba h.fR.length_le hM.fR,ba h.gA.length_le hM.gA,ba h.gls.length_le hM.gls,ba h.exs.length_le hM.exs,ba h.els.length_le hM.els,ba h.bk.length_le hM.bk⟩
theorem ID {A M:Mo} (h:A.le M) (hM:M.vn):A.vn:=fun l hl=>hM l ((CK h).subset hl)
theorem TR {A M:Mo} (h:A.le M) (hM:M.wf):A.wf:=⟨jG h.tys hM.tys,jG h.aQ hM.aQ,jG h.fns hM.fns,jG h.fR hM.fR,jG h.gA hM.gA,jG h.gls hM.gls,jG h.exs hM.exs,by
 rcases h.st with⟨_,e⟩ | e
 · rw[e];exact hM.sn
 · rw[e];decide,jG h.els hM.els,jG h.bk hM.bk⟩
end Go.Proofs.YtdmmllcjgjmbbaaGreatDoor.N
end
section
namespace Go.Am
def lu (op:Int):Nat:=
 if op=69∨op=103∨op=104∨op=105∨op=26∨op=33∨op=36∨op=34∨op=40∨op=44∨op=45∨op=46∨op=47∨op=64 then 1
 else if(70≤op∧op≤79)∨(106≤op∧op≤120)∨op=54∨op=58∨op=59 then 2 else if op=27 then 3 else 0
def jt (op:Int):Nat:=
 if op=69∨op=103∨op=104∨op=105∨(70≤op∧op≤79)∨(106≤op∧op≤120)∨op=27∨op=32∨op=35∨op=63∨op=65∨op=34∨op=40∨op=44∨op=45∨op=46∨op=47∨op=64 then 1 else 0
def yG (op:Int):Bool:=decide (lu op≠0∨jt op≠0∨op=1)
theorem Kd (op:Int):jt op≤1:=by unfold jt;split<;>omega
def IE (op:Int):Bool:=decide (op=40∨op=44∨op=45∨op=46∨op=47∨op=54∨op=58∨op=59)
def lz (op:Int):Int:=if op=40∨op=54 then 2 else if op=46∨op=47∨op=59 then 1 else 0
structure jH where
 ty:Int→Option (Nat×Nat)
 ind:Int→Option (Nat×Nat)
 dg:List Bool
 mem:Bool
 own:Nat
 ret:Nat
inductive VR where
 |bw (e:Int) (at':Nat)
 |ok (n:Nat) (dead:Bool) (c:Nat)
def dF (at' k n:Nat) (d:Bool) (f:Nat→VR):VR:=if n<k∧d=false then .bw 200 at' else f (n-k)
def gM (r n:Nat) (d:Bool) (at':Nat) (f:VR):VR:=dF at' r n d fun m=>if 0<m then .bw 201 at' else f
def dG (V:jH) (op a:Int):Int:=
 if op=32∨op=33∨op=34 then(if a<V.own then 0 else 6)
 else if op=36 then(match V.dg[a.toNat]? with
  |some true=>0
  |some false=>212
  |none=>6)
 else if op=35 then(if a<V.dg.length then 0 else 6)
 else if op=63∨op=64 then(if V.mem=true then 0 else 6)
 else if IE op=true then(if V.mem=true then(if lz op<a then 211 else 0) else 6)
 else 0
def W8 (ls:List Nat) (tags:List Int) (a:Int):Int ⊕ Nat:=
 if tags.all (fun t=>decide (t<ls.length))=false then .inl 6
 else match ls[a.toNat]? with
  |none=> .inl 6
  |some k=>if tags.all (fun t=>ls.getD t.toNat 0==k)=true then .inr k else .inl 214
def gj (V:jH) (ls:List Nat) (op a:Int) (tags:List Int) (n:Nat) (d:Bool) (c:Nat):VR:=
 if op=12 then(match ls[a.toNat]? with
  |none=> .bw 6 c
  |some k=>dF c k n d fun _=> .ok 0 true c)
 else if op=13 then(match ls[a.toNat]? with
  |none=> .bw 6 c
  |some k=>dF c 1 n d fun n1=>dF c k n1 d fun n2=> .ok (n2+k) d c)
 else if op=14 then(match W8 ls tags a with
  |.inl e=> .bw e c
  |.inr k=>dF c 1 n d fun n1=>dF c k n1 d fun _=> .ok 0 true c)
 else if op=15 then dF c V.ret n d fun _=> .ok 0 true c
 else if op=16 then(match V.ty a with
  |none=> .bw 6 c
  |some (p,r)=>dF c p n d fun n1=> .ok (n1+r) d c)
 else if op=17 then(match V.ind a with
  |none=> .bw 6 c
  |some (p,r)=>dF c 1 n d fun n1=>dF c p n1 d fun n2=> .ok (n2+r) d c)
 else if dG V op a≠0 then .bw (dG V op a) c
 else dF c (lu op) n d fun n1=> .ok (n1+jt op) d c
mutual
def mT (V:jH) (ls:List Nat):Ins→Nat→Bool→Nat→VR
 |.mk op r a _ _ tags l e,n,d,c=>
  if op=0 then .ok 0 true c
  else if op=2∨op=3 then
   (match eV V ((if op=3 then 0 else r.toNat)::ls) l 0 false c with
     |.bw e p=> .bw e p
     |.ok n1 d1 c1=>gM r.toNat n1 d1 c (.ok (n+r.toNat) d c1))
  else if op=4 then
   dF c 1 n d fun n0=>(match eV V (r.toNat::ls) l 0 false c with
    |.bw e p=> .bw e p
    |.ok n1 d1 c1=>gM r.toNat n1 d1 c (match eV V (r.toNat::ls) e 0 false c1 with
     |.bw e p=> .bw e p
     |.ok n2 d2 c2=>gM r.toNat n2 d2 c (.ok (n0+r.toNat) d c2)))
  else gj V ls op a tags n d c
def eV (V:jH) (ls:List Nat):List Ins→Nat→Bool→Nat→VR
 |[],n,d,c=> .ok n d c
 |x::r,n,d,c=>match mT V ls x n d (c+1) with
  |.bw e p=> .bw e p
  |.ok n1 d1 c1=>eV V ls r n1 d1 c1
end
def kW (V:jH) (l:List Ins):Int×Nat:=
 match eV V [V.ret] l 0 false 0 with
 |.bw e p=>(e,p)
 |.ok n d _=>match gM V.ret n d 0 (.ok 0 false 0) with
  |.bw e p=>(e,p)
  |.ok .. =>(0,0)
end Go.Am
end
section
set_option linter.unusedSimpArgs false
set_option linter.unusedVariables false
namespace Go.Proofs.YtdmmllcjgjmbbaaGreatDoor.N
open Go Go.Am
def W9:Env:={env with wr:=fun f d=>ae f 95&&ae d 23}
def vxC (M:Mo) (i:Nat) (L:List ByteArray) (c0 c1 c2 c3:Int) (e:Int) (f:FuncId) (args:List AV) (m:Mem):Option (AV×Mem):=cond (ae f 92) (some (.au [sI .i64 e,sI .i64 0],m)) none
def adZ (M:Mo) (i:Nat) (L:List ByteArray) (c0 c1 c2 c3:Int) (e:Int):FuncId→Nat→Nat→Option (AV→AV):=cM [(123,3,5,sI .i64 0)]
def ad0 (M:Mo) (i:Nat) (L:List ByteArray) (c0 c1 c2 c3:Int) (e:Int):FuncId→Nat→Nat→Option (AV→AV):=cM [(123,3,5,sI .i64 1)]
def ad1 (M:Mo) (i:Nat) (L:List ByteArray) (c0 c1 c2 c3:Int) (e:Int):FuncId→Nat→Nat→Option (AV→AV):=cM [(123,3,5,sI .i64 2)]
def ad2 (M:Mo) (i:Nat) (L:List ByteArray) (c0 c1 c2 c3:Int) (e:Int):FuncId→Nat→Nat→Option (AV→AV):=cM [(123,3,5,sI .i64 3)]
def veC (M:Mo) (LL:List ByteArray) (e s i a:Int) (f:FuncId) (args:List AV) (m:Mem):Option (AV×Mem):=cond (ae f 90) (some (.agg [sI .i64 e,sI .i64 s,sI .i64 i,sI .i64 a],[.pc M.aI,.ac [.vm 3],.ac [.vm 4],.ob (.map [.int .i64 0,.int .i64 1,.int .i64 2,.int .i64 3] [0,1,2,3] 4) [sI .i64 (sb.wrap ((↑M.aQ.length:Int)+(↑M.fns.length:Int))),sI .i64 (↑M.fR.length:Int),sI .i64 (↑M.gA.length:Int),sI .i64 (↑M.gls.length:Int)],.ob (.smap LL) []])) none
def Xa (M:Mo) (i:Nat) (L:List ByteArray) (c0 c1 c2 c3 e:Int):bH:=gx (vxC M i L c0 c1 c2 c3 e) aA [] [(123,0,0)] [(123,2,3),(123,2,4)] (adZ M i L c0 c1 c2 c3 e)
def aaO:Sc:= .fin
def IF (M:Mo) (i:Nat) (L:List ByteArray) (c0 c1 c2 c3 e:Int):az:=
 (.must (aW (↑i:Int) M.exs.length&&true&&true)
 (.must (isStr (aF (aem aS M.exs) (aJ i*3))&&(isInt sb (aF (aem aS M.exs) (aJ i*3+1))&&(isInt abY (aF (aem aS M.exs) (aJ i*3+1+1))&&true))&&true)
 (.need (sI .i64 (av (aF (aem aS M.exs) (aJ i*3+1)))=sI sb 0)
 (.test (decide (ae6.wrap (av (aF (aem aS M.exs) (aJ i*3+1+1)))≥ae6.wrap c0))
 (.out (.ret (.au [sI .i64 6,sI .i64 0]) [.pc M.aI,.ac [.vm 3],.ac [.vm 4],.ob (aD.map [sT sb 0,sT sb 1,sT sb 2,sT sb 3] [0,1,2,3] 4) [sI .i64 c0,sI .i64 c1,sI .i64 c2,sI .i64 c3],.ob (aD.smap L) []]))
 (.call ⟨92,[.p (.sc (.bool !fE L (br (aF (aem aS M.exs) (aJ i*3))))),sI .i64 7],[],.au [sI .i64 e,sI .i64 0],[]⟩
 (.out (.ret (.au [sI .i64 e,sI .i64 0]) [.pc M.aI,.ac [.vm 3],.ac [.vm 4],.ob (aD.map [sT sb 0,sT sb 1,sT sb 2,sT sb 3] [0,1,2,3] 4) [sI .i64 c0,sI .i64 c1,sI .i64 c2,sI .i64 c3],.ob (aD.smap (qL L (br (aF (aem aS M.exs) (aJ i*3))))) []])))))))
theorem Ow (M:Mo) (i:Nat) (L:List ByteArray) (c0 c1 c2 c3 e:Int):aG acb env (Xa M i L c0 c1 c2 c3 e) 1000000 123 ([sI sb (↑i:Int),AV.mp 0 0,AV.mp 1 0,AV.mp 2 0]) ([aU.pc M.aI,aU.ac [AV.vm 3],aU.ac [AV.vm 4],aU.ob (aD.map [sT sb 0,sT sb 1,sT sb 2,sT sb 3] [0,1,2,3] 4) [sI sb c0,sI sb c1,sI sb c2,sI sb c3],aU.ob (aD.smap L) []]) aaO=IF M i L c0 c1 c2 c3 e:=by kernel_rfl
def Xb (M:Mo) (i:Nat) (L:List ByteArray) (c0 c1 c2 c3 e:Int):bH:=gx (vxC M i L c0 c1 c2 c3 e) aA [] [(123,0,0)] [(123,2,3),(123,2,4)] (ad0 M i L c0 c1 c2 c3 e)
def aaP:Sc:= .fin
def IG (M:Mo) (i:Nat) (L:List ByteArray) (c0 c1 c2 c3 e:Int):az:=
 (.must (aW (↑i:Int) M.exs.length&&true&&true)
 (.must (isStr (aF (aem aS M.exs) (aJ i*3))&&(isInt sb (aF (aem aS M.exs) (aJ i*3+1))&&(isInt abY (aF (aem aS M.exs) (aJ i*3+1+1))&&true))&&true)
 (.need (sI .i64 (av (aF (aem aS M.exs) (aJ i*3+1)))=sI sb 1)
 (.test (decide (ae6.wrap (av (aF (aem aS M.exs) (aJ i*3+1+1)))≥ae6.wrap c1))
 (.out (.ret (.au [sI .i64 6,sI .i64 0]) [.pc M.aI,.ac [.vm 3],.ac [.vm 4],.ob (aD.map [sT sb 0,sT sb 1,sT sb 2,sT sb 3] [0,1,2,3] 4) [sI .i64 c0,sI .i64 c1,sI .i64 c2,sI .i64 c3],.ob (aD.smap L) []]))
 (.call ⟨92,[.p (.sc (.bool !fE L (br (aF (aem aS M.exs) (aJ i*3))))),sI .i64 7],[],.au [sI .i64 e,sI .i64 0],[]⟩
 (.out (.ret (.au [sI .i64 e,sI .i64 0]) [.pc M.aI,.ac [.vm 3],.ac [.vm 4],.ob (aD.map [sT sb 0,sT sb 1,sT sb 2,sT sb 3] [0,1,2,3] 4) [sI .i64 c0,sI .i64 c1,sI .i64 c2,sI .i64 c3],.ob (aD.smap (qL L (br (aF (aem aS M.exs) (aJ i*3))))) []])))))))
theorem Ox (M:Mo) (i:Nat) (L:List ByteArray) (c0 c1 c2 c3 e:Int):aG acb env (Xb M i L c0 c1 c2 c3 e) 1000000 123 ([sI sb (↑i:Int),AV.mp 0 0,AV.mp 1 0,AV.mp 2 0]) ([aU.pc M.aI,aU.ac [AV.vm 3],aU.ac [AV.vm 4],aU.ob (aD.map [sT sb 0,sT sb 1,sT sb 2,sT sb 3] [0,1,2,3] 4) [sI sb c0,sI sb c1,sI sb c2,sI sb c3],aU.ob (aD.smap L) []]) aaP=IG M i L c0 c1 c2 c3 e:=by kernel_rfl
def Xc (M:Mo) (i:Nat) (L:List ByteArray) (c0 c1 c2 c3 e:Int):bH:=gx (vxC M i L c0 c1 c2 c3 e) aA [] [(123,0,0)] [(123,2,3),(123,2,4)] (ad1 M i L c0 c1 c2 c3 e)
def aaQ:Sc:= .fin
def II (M:Mo) (i:Nat) (L:List ByteArray) (c0 c1 c2 c3 e:Int):az:=
 (.must (aW (↑i:Int) M.exs.length&&true&&true)
 (.must (isStr (aF (aem aS M.exs) (aJ i*3))&&(isInt sb (aF (aem aS M.exs) (aJ i*3+1))&&(isInt abY (aF (aem aS M.exs) (aJ i*3+1+1))&&true))&&true)
 (.need (sI .i64 (av (aF (aem aS M.exs) (aJ i*3+1)))=sI sb 2)
 (.test (decide (ae6.wrap (av (aF (aem aS M.exs) (aJ i*3+1+1)))≥ae6.wrap c2))
 (.out (.ret (.au [sI .i64 6,sI .i64 0]) [.pc M.aI,.ac [.vm 3],.ac [.vm 4],.ob (aD.map [sT sb 0,sT sb 1,sT sb 2,sT sb 3] [0,1,2,3] 4) [sI .i64 c0,sI .i64 c1,sI .i64 c2,sI .i64 c3],.ob (aD.smap L) []]))
 (.call ⟨92,[.p (.sc (.bool !fE L (br (aF (aem aS M.exs) (aJ i*3))))),sI .i64 7],[],.au [sI .i64 e,sI .i64 0],[]⟩
 (.out (.ret (.au [sI .i64 e,sI .i64 0]) [.pc M.aI,.ac [.vm 3],.ac [.vm 4],.ob (aD.map [sT sb 0,sT sb 1,sT sb 2,sT sb 3] [0,1,2,3] 4) [sI .i64 c0,sI .i64 c1,sI .i64 c2,sI .i64 c3],.ob (aD.smap (qL L (br (aF (aem aS M.exs) (aJ i*3))))) []])))))))
theorem Oy (M:Mo) (i:Nat) (L:List ByteArray) (c0 c1 c2 c3 e:Int):aG acb env (Xc M i L c0 c1 c2 c3 e) 1000000 123 ([sI sb (↑i:Int),AV.mp 0 0,AV.mp 1 0,AV.mp 2 0]) ([aU.pc M.aI,aU.ac [AV.vm 3],aU.ac [AV.vm 4],aU.ob (aD.map [sT sb 0,sT sb 1,sT sb 2,sT sb 3] [0,1,2,3] 4) [sI sb c0,sI sb c1,sI sb c2,sI sb c3],aU.ob (aD.smap L) []]) aaQ=II M i L c0 c1 c2 c3 e:=by kernel_rfl
def Xd (M:Mo) (i:Nat) (L:List ByteArray) (c0 c1 c2 c3 e:Int):bH:=gx (vxC M i L c0 c1 c2 c3 e) aA [] [(123,0,0)] [(123,2,3),(123,2,4)] (ad2 M i L c0 c1 c2 c3 e)
def aaR:Sc:= .fin
def IJ (M:Mo) (i:Nat) (L:List ByteArray) (c0 c1 c2 c3 e:Int):az:=
 (.must (aW (↑i:Int) M.exs.length&&true&&true)
 (.must (isStr (aF (aem aS M.exs) (aJ i*3))&&(isInt sb (aF (aem aS M.exs) (aJ i*3+1))&&(isInt abY (aF (aem aS M.exs) (aJ i*3+1+1))&&true))&&true)
 (.need (sI .i64 (av (aF (aem aS M.exs) (aJ i*3+1)))=sI sb 3)
 (.test (decide (ae6.wrap (av (aF (aem aS M.exs) (aJ i*3+1+1)))≥ae6.wrap c3))
 (.out (.ret (.au [sI .i64 6,sI .i64 0]) [.pc M.aI,.ac [.vm 3],.ac [.vm 4],.ob (aD.map [sT sb 0,sT sb 1,sT sb 2,sT sb 3] [0,1,2,3] 4) [sI .i64 c0,sI .i64 c1,sI .i64 c2,sI .i64 c3],.ob (aD.smap L) []]))
 (.call ⟨92,[.p (.sc (.bool !fE L (br (aF (aem aS M.exs) (aJ i*3))))),sI .i64 7],[],.au [sI .i64 e,sI .i64 0],[]⟩
 (.out (.ret (.au [sI .i64 e,sI .i64 0]) [.pc M.aI,.ac [.vm 3],.ac [.vm 4],.ob (aD.map [sT sb 0,sT sb 1,sT sb 2,sT sb 3] [0,1,2,3] 4) [sI .i64 c0,sI .i64 c1,sI .i64 c2,sI .i64 c3],.ob (aD.smap (qL L (br (aF (aem aS M.exs) (aJ i*3))))) []])))))))
theorem Oz (M:Mo) (i:Nat) (L:List ByteArray) (c0 c1 c2 c3 e:Int):aG acb env (Xd M i L c0 c1 c2 c3 e) 1000000 123 ([sI sb (↑i:Int),AV.mp 0 0,AV.mp 1 0,AV.mp 2 0]) ([aU.pc M.aI,aU.ac [AV.vm 3],aU.ac [AV.vm 4],aU.ob (aD.map [sT sb 0,sT sb 1,sT sb 2,sT sb 3] [0,1,2,3] 4) [sI sb c0,sI sb c1,sI sb c2,sI sb c3],aU.ob (aD.smap L) []]) aaR=IJ M i L c0 c1 c2 c3 e:=by kernel_rfl
def aaS (M:Mo) (LL:List ByteArray) (e s i a:Int):bH:=aT (veC M LL e s i a) aA [] [] []
def ad3:Sc:= .fin
def Xe (M:Mo) (LL:List ByteArray) (e s i a:Int):az:=
 (.call ⟨90,[sI .i64 7,sI .i64 (↑M.exs.length:Int),.fn (Fn.func 123) [] [.mp 0 0,.mp 1 0,.mp 2 0]],[.pc M.aI,.ac [.vm 3],.ac [.vm 4],.ob (aD.map [sT sb 0,sT sb 1,sT sb 2,sT sb 3] [0,1,2,3] 4) [sI .i64 (sb.wrap ((↑M.aQ.length:Int)+(↑M.fns.length:Int))),sI .i64 (↑M.fR.length:Int),sI .i64 (↑M.gA.length:Int),sI .i64 (↑M.gls.length:Int)],.ob (aD.smap []) []],.agg [sI .i64 e,sI .i64 s,sI .i64 i,sI .i64 a],[.pc M.aI,.ac [.vm 3],.ac [.vm 4],.ob (aD.map [sT sb 0,sT sb 1,sT sb 2,sT sb 3] [0,1,2,3] 4) [sI .i64 (sb.wrap ((↑M.aQ.length:Int)+(↑M.fns.length:Int))),sI .i64 (↑M.fR.length:Int),sI .i64 (↑M.gA.length:Int),sI .i64 (↑M.gls.length:Int)],.ob (aD.smap LL) []]⟩
 (.out (.ret (.agg [sI .i64 e,sI .i64 s,sI .i64 i,sI .i64 a]) [])))
theorem Sr (M:Mo) (LL:List ByteArray) (e s i a:Int):aG acb W9 (aaS M LL e s i a) 1000000 95 ([AV.agg (ab6 AV.p M.aI)]) ([]) ad3=Xe M LL e s i a:=by kernel_rfl
def kq (L:List ByteArray) (c:Int) (x:Ex):Int:=if ae6.wrap x.ix≥ae6.wrap c then 6 else if fE L x.nm=true then 7 else 0
def nq (L:List ByteArray) (c:Int) (x:Ex):List ByteArray:=if ae6.wrap x.ix≥ae6.wrap c then L else qL L x.nm
theorem OA (M:Mo) (L:List ByteArray) (c0 c1 c2 c3:Int) {i:Nat} {x:Ex} (hx:M.exs[i]? = some x) (hk:x.kind=0) :
  an acb env 123 [sI .i64 i,.mp 0 0,.mp 1 0,.mp 2 0] (rU M L [] c0 c1 c2 c3) (.au [sI .i64 (kq L c0 x),sI .i64 0]) (rU M (nq L c0 x) [] c0 c1 c2 c3):=by
 have hi:i<M.exs.length:=(dp.1 hx).1
 have c:=bp (z:=3) (enc:=aS) (fun _=>rfl) hx
 have d0:(M.exs.flatMap aS).getD (i*3) .bw = .sc (.string x.nm):=c 0 (by decide)
 have d1:(M.exs.flatMap aS).getD (i*3+1) .bw = .sc (.int .i64 x.kind):=c 1 (by decide)
 have d2:(M.exs.flatMap aS).getD (i*3+1+1) .bw = .sc (.int .u32 x.ix):=c 2 (by decide)
 have hin:aW (i:Int) M.exs.length=true:=by simp only[aW,c8,decide_eq_true_eq];omega
 refine af aM (Ow M i L c0 c1 c2 c3 (if(!fE L x.nm)=true then 0 else 7)) ?_
 simp only[IF,bF,az.ok,isStr,isInt,br,av,acy,d0,d1,d2,hin,hk,aeq,aeM]
 have hu:=eF (!fE L x.nm) 7
 by_cases q:ae6.wrap x.ix≥ae6.wrap c0
 · have e1:kq L c0 x=6:=if_pos q
   have e2:nq L c0 x=L:=if_pos q
   rw[e1,e2]
   exact⟨(by first | rfl | trivial),(by first | rfl | trivial),(by first | rfl | trivial),fun _=>rfl,fun z=>absurd q (by simpa using z)⟩
 · have e1:kq L c0 x=if(!fE L x.nm)=true then 0 else 7:=by
    rw[kq,if_neg q]
    cases fE L x.nm<;>rfl
   have e2:nq L c0 x=qL L x.nm:=if_neg q
   rw[e1,e2]
   exact⟨(by first | rfl | trivial),(by first | rfl | trivial),(by first | rfl | trivial),fun z=>absurd (by simpa using z) q,fun _=>⟨hu,rfl⟩⟩
theorem OB (M:Mo) (L:List ByteArray) (c0 c1 c2 c3:Int) {i:Nat} {x:Ex} (hx:M.exs[i]? = some x) (hk:x.kind=1) :
  an acb env 123 [sI .i64 i,.mp 0 0,.mp 1 0,.mp 2 0] (rU M L [] c0 c1 c2 c3) (.au [sI .i64 (kq L c1 x),sI .i64 0]) (rU M (nq L c1 x) [] c0 c1 c2 c3):=by
 have hi:i<M.exs.length:=(dp.1 hx).1
 have c:=bp (z:=3) (enc:=aS) (fun _=>rfl) hx
 have d0:(M.exs.flatMap aS).getD (i*3) .bw = .sc (.string x.nm):=c 0 (by decide)
 have d1:(M.exs.flatMap aS).getD (i*3+1) .bw = .sc (.int .i64 x.kind):=c 1 (by decide)
 have d2:(M.exs.flatMap aS).getD (i*3+1+1) .bw = .sc (.int .u32 x.ix):=c 2 (by decide)
 have hin:aW (i:Int) M.exs.length=true:=by simp only[aW,c8,decide_eq_true_eq];omega
 refine af aM (Ox M i L c0 c1 c2 c3 (if(!fE L x.nm)=true then 0 else 7)) ?_
 simp only[IG,bF,az.ok,isStr,isInt,br,av,acy,d0,d1,d2,hin,hk,aeq,aeM]
 have hu:=eF (!fE L x.nm) 7
 by_cases q:ae6.wrap x.ix≥ae6.wrap c1
 · have e1:kq L c1 x=6:=if_pos q
   have e2:nq L c1 x=L:=if_pos q
   rw[e1,e2]
   exact⟨(by first | rfl | trivial),(by first | rfl | trivial),(by first | rfl | trivial),fun _=>rfl,fun z=>absurd q (by simpa using z)⟩
 · have e1:kq L c1 x=if(!fE L x.nm)=true then 0 else 7:=by
    rw[kq,if_neg q]
    cases fE L x.nm<;>rfl
   have e2:nq L c1 x=qL L x.nm:=if_neg q
   rw[e1,e2]
   exact⟨(by first | rfl | trivial),(by first | rfl | trivial),(by first | rfl | trivial),fun z=>absurd (by simpa using z) q,fun _=>⟨hu,rfl⟩⟩
theorem OC (M:Mo) (L:List ByteArray) (c0 c1 c2 c3:Int) {i:Nat} {x:Ex} (hx:M.exs[i]? = some x) (hk:x.kind=2) :
  an acb env 123 [sI .i64 i,.mp 0 0,.mp 1 0,.mp 2 0] (rU M L [] c0 c1 c2 c3) (.au [sI .i64 (kq L c2 x),sI .i64 0]) (rU M (nq L c2 x) [] c0 c1 c2 c3):=by
 have hi:i<M.exs.length:=(dp.1 hx).1
 have c:=bp (z:=3) (enc:=aS) (fun _=>rfl) hx
 have d0:(M.exs.flatMap aS).getD (i*3) .bw = .sc (.string x.nm):=c 0 (by decide)
 have d1:(M.exs.flatMap aS).getD (i*3+1) .bw = .sc (.int .i64 x.kind):=c 1 (by decide)
 have d2:(M.exs.flatMap aS).getD (i*3+1+1) .bw = .sc (.int .u32 x.ix):=c 2 (by decide)
 have hin:aW (i:Int) M.exs.length=true:=by simp only[aW,c8,decide_eq_true_eq];omega
 refine af aM (Oy M i L c0 c1 c2 c3 (if(!fE L x.nm)=true then 0 else 7)) ?_
 simp only[II,bF,az.ok,isStr,isInt,br,av,acy,d0,d1,d2,hin,hk,aeq,aeM]
 have hu:=eF (!fE L x.nm) 7
 by_cases q:ae6.wrap x.ix≥ae6.wrap c2
 · have e1:kq L c2 x=6:=if_pos q
   have e2:nq L c2 x=L:=if_pos q
   rw[e1,e2]
   exact⟨(by first | rfl | trivial),(by first | rfl | trivial),(by first | rfl | trivial),fun _=>rfl,fun z=>absurd q (by simpa using z)⟩
 · have e1:kq L c2 x=if(!fE L x.nm)=true then 0 else 7:=by
    rw[kq,if_neg q]
    cases fE L x.nm<;>rfl
   have e2:nq L c2 x=qL L x.nm:=if_neg q
   rw[e1,e2]
   exact⟨(by first | rfl | trivial),(by first | rfl | trivial),(by first | rfl | trivial),fun z=>absurd (by simpa using z) q,fun _=>⟨hu,rfl⟩⟩
theorem OD (M:Mo) (L:List ByteArray) (c0 c1 c2 c3:Int) {i:Nat} {x:Ex} (hx:M.exs[i]? = some x) (hk:x.kind=3) :
  an acb env 123 [sI .i64 i,.mp 0 0,.mp 1 0,.mp 2 0] (rU M L [] c0 c1 c2 c3) (.au [sI .i64 (kq L c3 x),sI .i64 0]) (rU M (nq L c3 x) [] c0 c1 c2 c3):=by
 have hi:i<M.exs.length:=(dp.1 hx).1
 have c:=bp (z:=3) (enc:=aS) (fun _=>rfl) hx
 have d0:(M.exs.flatMap aS).getD (i*3) .bw = .sc (.string x.nm):=c 0 (by decide)
 have d1:(M.exs.flatMap aS).getD (i*3+1) .bw = .sc (.int .i64 x.kind):=c 1 (by decide)
 have d2:(M.exs.flatMap aS).getD (i*3+1+1) .bw = .sc (.int .u32 x.ix):=c 2 (by decide)
 have hin:aW (i:Int) M.exs.length=true:=by simp only[aW,c8,decide_eq_true_eq];omega
 refine af aM (Oz M i L c0 c1 c2 c3 (if(!fE L x.nm)=true then 0 else 7)) ?_
 simp only[IJ,bF,az.ok,isStr,isInt,br,av,acy,d0,d1,d2,hin,hk,aeq,aeM]
 have hu:=eF (!fE L x.nm) 7
 by_cases q:ae6.wrap x.ix≥ae6.wrap c3
 · have e1:kq L c3 x=6:=if_pos q
   have e2:nq L c3 x=L:=if_pos q
   rw[e1,e2]
   exact⟨(by first | rfl | trivial),(by first | rfl | trivial),(by first | rfl | trivial),fun _=>rfl,fun z=>absurd q (by simpa using z)⟩
 · have e1:kq L c3 x=if(!fE L x.nm)=true then 0 else 7:=by
    rw[kq,if_neg q]
    cases fE L x.nm<;>rfl
   have e2:nq L c3 x=qL L x.nm:=if_neg q
   rw[e1,e2]
   exact⟨(by first | rfl | trivial),(by first | rfl | trivial),(by first | rfl | trivial),fun z=>absurd (by simpa using z) q,fun _=>⟨hu,rfl⟩⟩
end Go.Proofs.YtdmmllcjgjmbbaaGreatDoor.N
end
section
set_option linter.unusedSimpArgs false
set_option linter.unusedVariables false
namespace Go.Proofs.YtdmmllcjgjmbbaaGreatDoor.N
open Go Go.Am
def nr (s:Int) (e a:Nat→Int):Nat→Nat→Wr
 |0,_=>(0,0,0,0)
 |r+1,i=>if e i≠0 then(e i,s,i,a i) else nr s e a r (i+1)
theorem mU (s:Int) (e a:Nat→Int) : ∀r i,jq s e a r i=wV (nr s e a r i)
 |0,_=>rfl
 |r+1,i=>by
  rw[jq,nr]
  split
  · rfl
  · exact mU s e a r (i+1)
theorem dH {s:Int} {e a:Nat→Int} : ∀{r i:Nat},(nr s e a r i).1=0 ↔ ∀j,i≤j→j<i+r→e j=0
 |0,i=>⟨fun _ j h1 h2=>by omega,fun _=>rfl⟩
 |r+1,i=>by
  rw[nr]
  by_cases h:e i≠0
  · rw[if_pos h]
    exact⟨fun q=>absurd q h,fun q=>q i (bx _) (by omega)⟩
  · rw[if_neg h,dH]
    have h':e i=0:=afi.1 h
    exact⟨fun q j h1 h2=>by
     by_cases e1:j=i
     · rw[e1];exact h'
     · exact q j (by omega) (by omega),fun q j h1 h2=>q j (by omega) (by omega)⟩
theorem EF {F:Nat→Wr} : ∀{r d:Nat},GB F r d=(0,0,0,0) ↔ ∀j,d≤j→j<d+r→(F j).1=0
 |0,i=>⟨fun _ j h1 h2=>by omega,fun _=>rfl⟩
 |r+1,i=>by
  rw[GB]
  by_cases h:(F i).1≠0
  · rw[if_pos h]
    exact⟨fun q=>absurd (congrArg Prod.fst q) h,fun q=>absurd (q i (bx _) (by omega)) h⟩
  · rw[if_neg h,EF]
    have h':(F i).1=0:=afi.1 h
    exact⟨fun q j h1 h2=>by
     by_cases e1:j=i
     · rw[e1];exact h'
     · exact q j (by omega) (by omega),fun q j h1 h2=>q j (by omega) (by omega)⟩
def lA (M:Mo) (k:Int):Int:=if k=0 then yC M else if k=1 then M.fR.length else if k=2 then M.gA.length else M.gls.length
def iL (M:Mo) (l:List Ex) (L:List ByteArray):List ByteArray:=l.foldl (fun L x=>nq L (lA M x.kind) x) L
def vM (M:Mo) (y:Ty) (lo:Int):jH where
 ty a:=(sj M a.toNat).map fun z=>(z.p.toNat,z.r.toNat)
 ind a:=if 0<M.fR.length then(M.tys[a.toNat]?).map fun z=>(z.p.toNat,z.r.toNat) else none
 dg:=M.gls.map Gl.mu
 mem:=decide (0<M.gA.length)
 own:=(y.p+lo).toNat
 ret:=y.r.toNat
def lookW (M:Mo) (n:Nat):Int×Nat:=match M.fns[n]? with
 |none=>(6,0)
 |some x=>match sj M (M.aQ.length+n) with
  |none=>(6,0)
  |some y=>kW (vM M y x.lo) x.l
def cj (M:Mo) (d:Nat):Wr:=
 if d=2 then nr 2 (fun i=>(M.aQ[i]?).elim 0 fun x=>P2 M x.ty) (fun _=>0) M.aQ.length 0
 else if d=3 then nr 3 (fun i=>(M.fns[i]?).elim 0 fun x=>P2 M x.ty) (fun _=>0) M.fns.length 0
 else if d=6 then nr 6 (fun i=>(M.gls[i]?).elim 0 fun x=>P4 x.l) (fun _=>0) M.gls.length 0
 else if d=7 then nr 7 (fun i=>(M.exs[i]?).elim 0 fun x=>kq (iL M (M.exs.take i) []) (lA M x.kind) x) (fun _=>0) M.exs.length 0
 else if d=8 then(if M.st=true then nr 8 (fun _=>Ot M) (fun _=>0) 1 0 else(0,0,0,0))
 else if d=9 then nr 9 (fun i=>(M.els[i]?).elim 0 fun x=>TQ M x) (fun _=>0) M.els.length 0
 else if d=10 then nr 10 (fun i=>(lookW M i).1) (fun i=>((lookW M i).2:Nat)) M.fns.length 0
 else if d=11 then nr 11 (fun i=>(M.bk[i]?).elim 0 fun x=>if M.gA.length=0 then 6 else P4 x.l) (fun _=>0) M.bk.length 0
 else(0,0,0,0)
theorem lB {α:Type} {l:List α} {f:α→Int}:(∀j,0≤j→j<0+l.length→(l[j]?).elim 0 f=0) ↔ ∀x∈l,f x=0:=by
 constructor
 · intro h x hx
   obtain⟨j,hj,e⟩:=afd hx
   have:=h j (abb _) (by omega)
   rw[cb hj,e] at this
   exact this
 · intro h j _ hj
   rw[cb (by omega:j<l.length)]
   exact h _ (List.getElem_mem _)
structure _root_.Go.Am.Mo.Valid (M:Mo):Prop where
 may:M.Kc
 aQ : ∀x∈M.aQ,P2 M x.ty=0
 fns : ∀x∈M.fns,P2 M x.ty=0
 gls : ∀x∈M.gls,P4 x.l=0
 exs : ∀i x,M.exs[i]? = some x→kq (iL M (M.exs.take i) []) (lA M x.kind) x=0
 st:M.st=true→Ot M=0
 els : ∀x∈M.els,TQ M x=0
 Xf : ∀i,i<M.fns.length→(lookW M i).1=0
 bk : ∀x∈M.bk,(if M.gA.length=0 then 6 else P4 x.l)=0
theorem Bc (M:Mo):ng M (cj M)=(0,0,0,0)↔M.Valid:=by
 unfold ng
 by_cases h:m9 M≠0
 · rw[if_pos h]
   exact⟨fun q=>absurd (congrArg Prod.fst q) h,fun g=>absurd ((CM M).2 g.may) h⟩
 · rw[if_neg h,EF]
   have h0:m9 M=0:=afi.1 h
   constructor
   · intro q
     refine⟨(CM M).1 h0,lB.1 (dH.1 (q 2 (by decide) (by decide))),lB.1 (dH.1 (q 3 (by decide) (by decide))),lB.1 (dH.1 (q 6 (by decide) (by decide))),fun i x hx=> ?_,fun hs=> ?_,
      lB.1 (dH.1 (q 9 (by decide) (by decide))),fun i hi=> ?_,lB.1 (dH.1 (q 11 (by decide) (by decide)))⟩
     · have hi:i<M.exs.length:=(dp.1 hx).1
       have k:=dH.1 (q 7 (by decide) (by decide)) i (abb _) (by omega)
       simp only[hx,Option.elim] at k
       exact k
     · have k:=q 8 (by decide) (by decide)
       rw[show cj M 8=if M.st=true then nr 8 (fun _=>Ot M) (fun _=>0) 1 0 else(0,0,0,0) from rfl,if_pos hs] at k
       exact dH.1 k 0 (bx _) (by decide)
     · exact dH.1 (q 10 (by decide) (by decide)) i (abb _) (by omega)
   · intro g j h1 h2
     have hj:j=2∨j=3∨j=4∨j=5∨j=6∨j=7∨j=8∨j=9∨j=10∨j=11:=by omega
     rcases hj with rfl | rfl | rfl | rfl | rfl | rfl | rfl | rfl | rfl | rfl
     · exact dH.2 (lB.2 g.aQ)
     · exact dH.2 (lB.2 g.fns)
     · rfl
     · rfl
     · exact dH.2 (lB.2 g.gls)
     · refine dH.2 fun i _ hi=> ?_
       rw[cb (by omega:i<M.exs.length)]
       exact g.exs i _ (cb _)
     · show(if M.st=true then nr 8 (fun _=>Ot M) (fun _=>0) 1 0 else(0,0,0,0)).1=0
       by_cases hs:M.st=true
       · rw[if_pos hs];exact dH.2 fun _ _ _=>g.st hs
       · rw[if_neg hs]
     · exact dH.2 (lB.2 g.els)
     · exact dH.2 fun i _ hi=>g.Xf i (by omega)
     · exact dH.2 (lB.2 g.bk)
def yH (M:Mo):Mo:={M with exs:=M.exs.take (M.exs.length-1),st:=false,sn:=0}
def sk (M:Mo):Mo:={M with els:=M.els.take (M.els.length-1),bk:=M.bk.take (M.bk.length-1)}
theorem so (M:Mo):(yH M).le M:=⟨.refl _,.refl _,.refl _,.refl _,.refl _,.refl _,afb _ _,.refl _,.refl _,.inr rfl⟩
theorem sr (M:Mo):(sk M).le M:=⟨.refl _,.refl _,.refl _,.refl _,.refl _,.refl _,.refl _,afb _ _,afb _ _,.inl ⟨rfl,rfl⟩⟩
theorem EG {M:Mo} (g:M.Valid):(yH M).Valid where
 may:=EE (so M) g.may
 aQ:=g.aQ
 fns:=g.fns
 gls:=g.gls
 exs i x hx:=by
  have hx:(M.exs.take (M.exs.length-1))[i]? = some x:=hx
  have hi:i<M.exs.length-1:=by
   have:=(dp.1 hx).1
   rw[List.length_take] at this
   omega
  rw[List.getElem?_take_of_lt hi] at hx
  have k:=g.exs i x hx
  show kq (iL M ((M.exs.take (M.exs.length-1)).take i) []) (lA M x.kind) x=0
  rw[List.take_take,Nat.min_eq_left (by omega)]
  exact k
 st h:=by cases h
 els:=g.els
 Xf:=g.Xf
 bk:=g.bk
theorem EH {M:Mo} (g:M.Valid):(sk M).Valid where
 may:=EE (sr M) g.may
 aQ:=g.aQ
 fns:=g.fns
 gls:=g.gls
 exs:=g.exs
 st:=g.st
 els x hx:=g.els x (dd hx)
 Xf:=g.Xf
 bk x hx:=g.bk x (dd hx)
def Rv (v v':VR):Prop:=v=v' ∨ ∃q,v = .bw 6 q
theorem OE {a k n:Nat} {d:Bool} {f f':Nat→VR} (h : ∀m,Rv (f m) (f' m)):Rv (dF a k n d f) (dF a k n d f'):=by
 unfold dF
 split
 · exact .inl rfl
 · exact h _
theorem Xg {r n a:Nat} {d:Bool} {f f':VR} (h:Rv f f'):Rv (gM r n d a f) (gM r n d a f'):=by
 unfold gM
 refine OE fun m=> ?_
 split
 · exact .inl rfl
 · exact h
theorem Ke {V:jH} {t:Int→Option (Nat×Nat)} (h : ∀a p,V.ty a=some p→t a=some p) (ls:List Nat) (op a:Int) (tags:List Int) (n:Nat) (d:Bool) (c:Nat):Rv (gj V ls op a tags n d c) (gj {V with ty:=t} ls op a tags n d c):=by
 by_cases o:op=16
 · subst o
   cases e:V.ty a with
   |none=>exact .inr ⟨c,by simp[gj,e]⟩
   |some p=>exact .inl (by simp[gj,e,h a p e])
 · refine .inl ?_
   unfold gj
   rw[if_neg o,if_neg o]
   rfl
mutual
theorem Kf {V:jH} {t:Int→Option (Nat×Nat)} (h : ∀a p,V.ty a=some p→t a=some p) : ∀(x:Ins) (ls:List Nat) (n:Nat) (d:Bool) (c:Nat),Rv (mT V ls x n d c) (mT {V with ty:=t} ls x n d c)
 |.mk op r a b nn tags l e,ls,n,d,c=>by
  simp only[mT]
  by_cases o0:op=0
  · rw[if_pos o0,if_pos o0];exact .inl rfl
  rw[if_neg o0,if_neg o0]
  by_cases TS:op=2∨op=3
  · rw[if_pos TS,if_pos TS]
    rcases lV h l ((if op=3 then 0 else r.toNat)::ls) 0 false c with k | ⟨q,k⟩
    · rw[k]
      exact .inl rfl
    · rw[k]
      exact .inr ⟨q,rfl⟩
  rw[if_neg TS,if_neg TS]
  by_cases o4:op=4
  · rw[if_pos o4,if_pos o4]
    refine OE fun n0=> ?_
    rcases lV h l (r.toNat::ls) 0 false c with k | ⟨q,k⟩
    · rw[k]
      cases eV {V with ty:=t} (r.toNat::ls) l 0 false c with
      |bw e p=>exact .inl rfl
      |ok n1 d1 c1=>
       refine Xg ?_
       rcases lV h e (r.toNat::ls) 0 false c1 with k | ⟨q,k⟩
       · rw[k]
         exact .inl rfl
       · rw[k]
         exact .inr ⟨q,rfl⟩
    · rw[k]
      exact .inr ⟨q,rfl⟩
  · rw[if_neg o4,if_neg o4]
    exact Ke h ls op a tags n d c
theorem lV {V:jH} {t:Int→Option (Nat×Nat)} (h : ∀a p,V.ty a=some p→t a=some p) : ∀(l:List Ins) (ls:List Nat) (n:Nat) (d:Bool) (c:Nat),Rv (eV V ls l n d c) (eV {V with ty:=t} ls l n d c)
 |[],ls,n,d,c=> .inl (by simp only[eV])
 |x::r,ls,n,d,c=>by
  simp only[eV]
  rcases Kf h x ls n d (c+1) with k | ⟨q,k⟩
  · rw[k]
    cases mT {V with ty:=t} ls x n d (c+1) with
    |bw e p=>exact .inl rfl
    |ok n1 d1 c1=>exact lV h r ls n1 d1 c1
  · rw[k]
    exact .inr ⟨q,rfl⟩
end
theorem Kg {V:jH} {t:Int→Option (Nat×Nat)} (h : ∀a p,V.ty a=some p→t a=some p) {l:List Ins} (hb:(kW V l).1=0):(kW {V with ty:=t} l).1=0:=by
 unfold kW at hb ⊢
 rcases lV h l [V.ret] 0 false 0 with k | ⟨q,k⟩
 · rw[k] at hb
   exact hb
 · rw[k] at hb
   exact absurd (show(6:Int)=0 from hb) (by decide)
def pW:Ins:= .mk 0 0 0 0 0 [] [] []
def pX:Fu:=⟨0,0,[pW]⟩
def cm (M:Mo):Mo:={M with fns:=M.fns++[pX]}
theorem Kh (V:jH):kW V [pW]=(0,0):=by
 have e:eV V [V.ret] [pW] 0 false 0 = .ok 0 true 1:=by simp[eV,mT,pW]
 unfold kW
 rw[e]
 simp[gM,dF]
theorem IK:ig tQ [pW]=0:=by decide +kernel
theorem Ss (M:Mo) (a:Nat) (h:a<M.aQ.length+M.fns.length):KR (cm M) a=KR M a:=by
 unfold KR
 show(match M.aQ[a]? with
  |some x=>x.ty
  |none=>match(M.fns++[pX])[a-M.aQ.length]? with
   |some x=>x.ty
   |none=> -1)=_
 by_cases hi:a<M.aQ.length
 · rw[cb hi]
 · rw[od (by omega)]
   rfl
theorem CN {M:Mo} {a:Nat} {y:Ty} (h:sj M a=some y):sj (cm M) a=some y:=by
 have hlt:a<M.aQ.length+M.fns.length:=by
  rcases fg a (M.aQ.length+M.fns.length) with q | q
  · exact q
  · rcases EB M a with⟨x,_,h2,_⟩ | ⟨b,x,h1,_,h3,_⟩ | ⟨_,h2⟩
    · omega
    · omega
    · unfold sj at h
      rw[h2,if_neg (by decide)] at h
      cases h
 unfold sj
 rw[Ss M a hlt]
 exact h
theorem yI {L:List ByteArray} {c:Int} {x:Ex}:kq L c x=0 ↔ ¬(ae6.wrap x.ix≥ae6.wrap c)∧fE L x.nm=false:=by
 unfold kq
 by_cases h:ae6.wrap x.ix≥ae6.wrap c
 · rw[if_pos h]
   exact⟨(fun q=>by cases q),fun q=>absurd h q.1⟩
 · rw[if_neg h]
   cases fE L x.nm with
   |true=>exact⟨(fun q=>by simp at q),fun q=>absurd q.2 (by decide)⟩
   |false=>exact⟨fun _=>⟨h,rfl⟩,fun _=>by simp⟩
theorem names_eq {M A:Mo} : ∀(l:List Ex) (L:List ByteArray),(∀x∈l,¬(ae6.wrap x.ix≥ae6.wrap (lA M x.kind)) ∧ ¬(ae6.wrap x.ix≥ae6.wrap (lA A x.kind)))→iL A l L=iL M l L
 |[],_,_=>rfl
 |x::r,L,h=>by
  have h0:=h x (List.mem_cons_self ..)
  show iL A r (nq L (lA A x.kind) x)=iL M r (nq L (lA M x.kind) x)
  rw[nq,nq,if_neg h0.1,if_neg h0.2]
  exact names_eq r _ fun y hy=>h y (List.mem_cons_of_mem _ hy)
theorem IL {M:Mo} (hM:M.fit):yC M=((M.aQ.length+M.fns.length:Nat):Int):=by
 have h1:=hM.aQ
 have h2:=hM.fns
 unfold yC
 rw[aN (by omega) (by omega)]
 omega
theorem OF {n:Nat} (h:n≤100000000):ae6.wrap (n:Int)=n:=by rw[acN];omega
theorem OG {M:Mo} (hM:M.fit) (hA:(cm M).fit) (k:Int):ae6.wrap (lA M k)≤ae6.wrap (lA (cm M) k):=by
 unfold lA
 by_cases h:k=0
 · rw[if_pos h,if_pos h,IL hM,IL hA]
   have h1:=hM.aQ
   have h2:=hA.fns
   have e:(cm M).fns.length=M.fns.length+1:=by simp[cm]
   have e':(cm M).aQ.length=M.aQ.length:=rfl
   rw[OF (by omega),OF (by omega)]
   omega
 · rw[if_neg h,if_neg h]
   exact afh _
theorem OH {α:Type} {p:α→Bool} {l:List α} {x:α} (h:l.any p=false) (hx:p x=false):(l++[x]).any p=false:=by
 rw[afc,h]
 simp[hx]
theorem OI {M:Mo} (h:M.Kc) (h5:M.fns.length≤16000):(cm M).Kc where
 many:=by
  have m:=h.many
  simp only[oy,pf,decide_eq_false_iff_not] at m ⊢
  have e:(cm M).fns.length=M.fns.length+1:=by simp[cm]
  refine⟨⟨⟨m.1.1.1,m.1.1.2⟩,?_⟩,m.2⟩
  rw[e]
  have m2:=m.1.2
  show ¬max (max (max (max (max (max (M.tys.length:Int) M.aQ.length) ((M.fns.length+1:Nat):Int)) M.gls.length) M.exs.length) M.els.length) M.bk.length>16384
  omega
 yF:=by
  have m:=h.yF
  unfold qx qw at m ⊢
  simp only[cm,ab3,oT,wi,afc,aeV,aff,pf] at m ⊢
  refine⟨⟨⟨⟨m.1.1.1,?_,(by first | rfl | trivial)⟩,m.1.1.2⟩,m.1.2⟩,m.2⟩
  rw[show pX.l=[pW] from rfl,IK]
  rfl
 left:=h.left
 long:=h.long
 rest:=by
  have m:=h.rest
  simp only[pV,pf] at m ⊢
  obtain⟨⟨⟨⟨⟨⟨⟨m1,m2⟩,m3⟩,m4⟩,m5⟩,m6⟩,m7⟩,m8⟩:=m
  exact⟨⟨⟨⟨⟨⟨⟨m1,m2⟩,OH m3 (by decide +kernel)⟩,m4⟩,m5⟩,m6⟩,m7⟩,m8⟩
 ED:=by
  have m:=h.ED
  unfold qx qw at m ⊢
  simp only[cm,ab3,oT,wi,afc,aeV,aff,pf] at m ⊢
  refine⟨⟨⟨⟨m.1.1.1,?_,(by first | rfl | trivial)⟩,m.1.1.2⟩,m.1.2⟩,m.2⟩
  rw[show pX.l=[pW] from rfl,IK]
  rfl
theorem GC {M:Mo} (g:M.Valid) (h5:M.fns.length≤16000) (hM:M.fit) (hA:(cm M).fit) (ht:0<M.tys.length):(cm M).Valid where
 may:=OI g.may h5
 aQ:=g.aQ
 fns x hx:=by
  rcases List.mem_append.1 hx with h | h
  · exact g.fns x h
  · rw[List.mem_singleton] at h
    subst h
    show(if decide ((0:Int)<(M.tys.length:Int))=true then(0:Int) else 6)=0
    rw[if_pos (by simp;omega)]
 gls:=g.gls
 exs i x hx:=by
  have hx:M.exs[i]? = some x:=hx
  have all : ∀y∈M.exs,¬(ae6.wrap y.ix≥ae6.wrap (lA M y.kind)) ∧ ¬(ae6.wrap y.ix≥ae6.wrap (lA (cm M) y.kind)):=fun y hy=>by
   obtain⟨j,hj,e⟩:=afd hy
   have k:=(yI.1 (g.exs j y (by rw[cb hj,e]))).1
   have c:=OG hM hA y.kind
   exact⟨k,fun q=>k (afg c q)⟩
  have k:=yI.1 (g.exs i x hx)
  refine yI.2 ⟨(all x (List.mem_of_getElem? hx)).2,?_⟩
  show fE (iL (cm M) (M.exs.take i) []) x.nm=false
  rw[names_eq (M:=M) (A:=cm M) _ _ fun y hy=>all y (dd hy)]
  exact k.2
 st h:=by
  have k:=g.st h
  unfold Ot at k ⊢
  show(match sj (cm M) M.sn.toNat with
   |none=>(6:Int)
   |some y=>if(y.p==0&&(y.r==0&&true))=true then 0 else 213)=0
  cases e:sj M M.sn.toNat with
  |none=>rw[e] at k;cases k
  |some y=>
   rw[e] at k
   rw[CN e]
   exact k
 els x hx:=by
  have k:=g.els x hx
  unfold TQ at k ⊢
  show(if M.fR.length=0 then(6:Int) else if(nk x.l==0)=true then(if x.fs.any (Gz (yC (cm M)))=true then 6 else 0) else 210)=0
  by_cases z:M.fR.length=0
  · rw[if_pos z] at k;cases k
  rw[if_neg z] at k ⊢
  by_cases zc:(nk x.l==0)=true
  · rw[if_pos zc] at k ⊢
    by_cases zo:x.fs.any (Gz (yC M))=true
    · rw[if_pos zo] at k;cases k
    · rw[if_neg]
      rw[Bool.not_eq_true,afe] at zo ⊢
      intro t htm q
      refine zo t htm ?_
      have c:=OG hM hA 0
      unfold lA at c
      rw[if_pos rfl,if_pos rfl] at c
      unfold Gz at q ⊢
      rw[decide_eq_true_eq] at q ⊢
      exact afg c q
  · rw[if_neg zc] at k;cases k
 Xf i hi:=by
  have hi:i<M.fns.length+1:=by simpa[cm] using hi
  rcases fg i M.fns.length with h | h
  · have k:=g.Xf i h
    unfold lookW at k ⊢
    have e:(cm M).fns[i]? = M.fns[i]? :=od h
    rw[e,cb h]
    rw[cb h] at k
    show(match sj (cm M) (M.aQ.length+i) with
     |none=>((6,0):Int×Nat)
     |some y=>kW (vM (cm M) y M.fns[i].lo) M.fns[i].l).1=0
    cases e:sj M (M.aQ.length+i) with
    |none=>simp only[e] at k;cases k
    |some y=>
     simp only[e] at k
     rw[CN e]
     exact Kg (V:=vM M y M.fns[i].lo) (t:=(vM (cm M) y M.fns[i].lo).ty) (fun a p hp=>by
      cases ea:sj M a.toNat with
      |none=>simp[vM,ea] at hp
      |some z=>
       simp only[vM,ea,Option.map_some] at hp
       simp only[vM,CN ea,Option.map_some]
       exact hp) k
  · have hi:i=M.fns.length:=by omega
    subst hi
    have e:(cm M).fns[M.fns.length]? = some pX:=by simp[cm]
    have t:KR (cm M) (M.aQ.length+M.fns.length)=0:=by
     unfold KR
     show(match M.aQ[M.aQ.length+M.fns.length]? with
      |some x=>x.ty
      |none=>match(cm M).fns[M.aQ.length+M.fns.length-M.aQ.length]? with
       |some x=>x.ty
       |none=> -1)=0
     rw[List.getElem?_eq_none (by omega:M.aQ.length≤M.aQ.length+M.fns.length),Nat.add_sub_cancel_left,e]
     rfl
    have y:sj (cm M) (M.aQ.length+M.fns.length)=some M.tys[0]:=by
     unfold sj
     rw[t,if_pos (by decide)]
     exact cb ht
    unfold lookW
    rw[e]
    show(match sj (cm M) (M.aQ.length+M.fns.length) with
     |none=>((6,0):Int×Nat)
     |some y=>kW (vM (cm M) y pX.lo) pX.l).1=0
    rw[y]
    show(kW _ [pW]).1=0
    rw[Kh]
 bk:=g.bk
end Go.Proofs.YtdmmllcjgjmbbaaGreatDoor.N
end
section
namespace Go.Am
open Go.RowKit
section
variable {P:Program} {E:Env} {g:Gh} {m:Mem} {w:World}
theorem Rel.Su (h:Rel g m w) {i:Nat} {l l':List AV} (hb:m[i]? = some (.ac l)) (hl : ∀vs,cL g w l vs→cL g w l' vs) :
  Rel g (m.set i (.ac l')) w∧dm g m w g (m.set i (.ac l')) w:=by
 have own : ∀(j:Nat) (x:aU),(m.set i (.ac l'))[j]? = some x→x.dB=true → ∃y:aU,m[j]? = some y∧y.dB=true:=fun j x hj ho=>by
  rcases aP hj with⟨rfl,_⟩ | ⟨_,q⟩
  · exact⟨_,hb,rfl⟩
  · exact⟨x,q,ho⟩
 refine⟨⟨fun j hj=>h.zb j (by simpa using hj),fun j hj=> ?_,fun j x cs hj hx=> ?_,fun j c hj hc=> ?_,fun j q x x' c hj hq ho ho' hc fO=> ?_,h.there,fun j k1 l1 hj=> ?_⟩,
  ⟨bx _,fun _ _ _=>rfl,fun _ _ p=>⟨p,rfl⟩,fun _ _ p=> .inl p,fun c ho=> ?_,rfl,rfl,rfl⟩⟩
 · rcases aP hj with⟨_,q⟩ | ⟨_,q⟩
   · cases q
   · exact h.free j q
 · rcases aP hj with⟨rfl,rfl⟩ | ⟨_,q⟩
   · simp only[aU.cells?,Option.some.injEq] at hx
     subst hx
     obtain⟨c',cs',e,q,k1,k2,k3,k4,k5⟩:=h.cells _ _ _ hb rfl
     exact⟨c',cs',e,q,k1,k2,k3,⟨hl _ k4.1,k4.2⟩,k5⟩
   · exact h.cells j x cs q hx
 · rcases aP hj with⟨_,q⟩ | ⟨_,q⟩
   · cases q
   · exact h.tok j c q hc
 · obtain⟨y,y1,y2⟩:=own j x hj ho
   obtain⟨z,z1,z2⟩:=own q x' hq ho'
   exact h.inj j q y z c y1 z1 y2 z2 hc fO
 · rcases aP hj with⟨_,q⟩ | ⟨_,q⟩
   · cases q
   · exact h.obs j k1 l1 q
 · obtain⟨j,x,hj,hx,hc⟩:=ho
   obtain⟨y,y1,y2⟩:=own j x hj hx
   exact .inl ⟨j,y,y1,y2,hc⟩
theorem an.kill {f:FuncId} {args:List AV} {m m':Mem} {v:AV} (h:an P E f args m v m') (i:Nat):an P E f args m v (m'.set i .dead):=by
 obtain⟨hf,h⟩:=h
 refine⟨hf,fun g w cY cs hr hv hg=> ?_⟩
 obtain⟨w',g',cv,fr,h1,h2,h3,h4,h5,h6,h7,h8⟩:=h g w cY cs hr hv hg
 obtain⟨k1,k2⟩:=h5.kill i
 exact⟨w',g',cv,fr,h1,h2,h3,h4,k1,h6.trans k2,h7,by simpa using h8⟩
theorem an.settle {f:FuncId} {args l0 X:List AV} {m:Mem} {v:AV} {t:TypeId} {q:Bool} (h:an P E f args m v [.ac l0,.ob (.gr t q) X]) (hm:m.length≤2) :
  an P E f args m v [.ac (eW (AI 2) l0),.dead,.ob (.gr t q) X]:=by
 obtain⟨hf,h⟩:=h
 refine⟨hf,fun g0 w0 cY cs hr hv hg=> ?_⟩
 obtain⟨w,g,cv,fr,h1,h2,h3,h4,Uz,h6,h7,h8⟩:=h g0 w0 cY cs hr hv hg
 obtain⟨f1,f2⟩:=Uz.eu 1
 have hb:(([.ac l0,.ob (.gr t q) X]:Mem)++eu 1)[1]? = some (.ob (.gr t q) X):=rfl
 obtain⟨c1,o1,vs1,b1,b2,b3,b4,b5,b6⟩:=f1.obs 1 _ _ hb
 have hn:(([.ac l0,.ob (.gr t q) X]:Mem)++eu 1)[2]? = some .free:=rfl
 obtain⟨m1,m2,m3⟩:=f1.move hb b1 hn
 have hb0:(((([.ac l0,.ob (.gr t q) X]:Mem)++eu 1).set 1 .dead).set 2 (.ob (.gr t q) X))[0]? = some (.ac l0):=rfl
 have hre:dy (AI 2) (g.put 2 c1 (g.lo 1) (g.hi 1)) (g.put 2 c1 (g.lo 1) (g.hi 1)):=⟨fun i k hk=>by
  unfold AI at hk
  cases hi:ae i 1 with
  |true=>
   rw[hi] at hk
   obtain rfl:=Option.some.inj hk
   obtain rfl:=Nat.eq_of_beq_eq_true hi
   simp[Gh.put,b1]
  |false=>
   rw[hi] at hk
   obtain rfl:=Option.some.inj hk
   exact⟨rfl,rfl,rfl⟩,rfl⟩
 obtain⟨n1,n2⟩:=m1.Su hb0 (l':=eW (AI 2) l0) fun vs hv=>hv.jx hre
 have hmem:((((([.ac l0,.ob (.gr t q) X]:Mem)++eu 1).set 1 .dead).set 2 (.ob (.gr t q) X)).set 0 (.ac (eW (AI 2) l0)))=[.ac (eW (AI 2) l0),.dead,.ob (.gr t q) X]:=rfl
 rw[hmem] at n1 n2
 refine⟨w,_,cv,fr,h1,h2,h3,h4.mono m2,n1,h6.trans ((f2.trans m3).trans n2),h7.trans fun k c' hk fO=> ?_,by simp;omega⟩
 have h1:k≠2:=by omega
 simp[Gh.put,h1,fO]
end
end Go.Am
end
section
namespace Go.Proofs.YtdmmllcjgjmbbaaGreatDoor.N
open Go Go.Am
structure Md where
 ny:Nat
 tS:List PV
 uV:Nat
 CO:List PV
 vJ:Nat
 tT:List PV
 sL:Nat
 CP:List PV
 tU:Nat
 CQ:List PV
 jN:Nat
 yJ:List PV
 CR:Nat
 CS:List PV
 st:Bool
 sn:Int
 CT:Nat
 CU:List PV
 CV:Nat
 CW:List PV
abbrev Md.cells (M:Md):List AV:=[.p (.ps M.ny 2 M.tS),.p (.ps M.uV 3 M.CO),.p (.ps M.vJ 3 M.tT),.p (.ps M.sL 3 M.CP),.p (.ps M.tU 3 M.CQ),.p (.ps M.jN 2 M.yJ),.p (.ps M.CR 3 M.CS),sB M.st,sI .u32 M.sn,.p (.ps M.CT 2 M.CU),.p (.ps M.CV 2 M.CW)]
def qy (M:Md):List AV:=M.cells
abbrev aV (M:Md) (tP tR own h:Int) (j n:Nat) (e p nx:Int):aU:= .ac (M.cells++[sI .i64 tP,sI .i64 tR,sI .u64 own,sI .i64 h,.ms j 0 n 4 none,sI .i64 e,sI .i64 p,sI .i64 nx])
abbrev dc (cs:List PV):aU:= .ob (.gr 160 true) (cs.map .p)
abbrev frC (op base res:Int) (dead:Bool):List PV:=[.sc (.int .i64 op),.sc (.int .i64 base),.sc (.int .i64 res),.sc (.bool dead)]
@[simp] theorem aC (l:List PV):ab6 aa (ab6 AV.p l)=ab6 AV.p l:=by
  rw[List.map_map];rfl
def OJ (l:List (Nat×Nat×AV)) (f d:Nat):Option AV:=match l with
 |[]=>none
 |(f',d',v)::r=>cond (ae f f'&&ae d d') (some v) (OJ r f d)
def uW (rows:List (Nat×Nat×AV)):Env where
 dg:=uJ tabs
 wr:=wrs
 keep:=FW keeps
 told:=OJ rows
theorem an.gV {rows:List (Nat×Nat×AV)} {f:FuncId} {args:List AV} {m m':Mem} {v:AV} (h:an acb (uW rows) f args m v m'):an acb env f args m v m':=h.env fun _ _ q=>q
end Go.Proofs.YtdmmllcjgjmbbaaGreatDoor.N
end
