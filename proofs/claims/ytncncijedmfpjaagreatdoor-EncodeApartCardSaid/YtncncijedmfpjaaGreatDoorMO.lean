import Derived.Test.YtncncijedmfpjaaGreatDoorMH
import Derived.Test.YtncncijedmfpjaaGreatDoorML
import Derived.Test.YtncncijedmfpjaaGreatDoorMN
import Derived.Test.YtncncijedmfpjaaGreatDoorMJ
import Derived.Test.YtncncijedmfpjaaGreatDoorMG
import Derived.Test.YtncncijedmfpjaaGreatDoorMI
open Nat renaming beq→bj,le_refl→dd
open Go.Proofs.Tryz renaming prog→ae
open Go.Value renaming int→sR
open Go.IntKind renaming i64→sa
open Min renaming min→acL
open Max renaming max→acM
open List renaming flatMap→ac6,getElem?_eq_some_iff→ee,mem_of_getElem?→oi,getElem?_eq_getElem→de,drop_eq_getElem_cons→ac3,mem_append→oE,mem_cons→Hk,mem_map→fi
open Int renaming toNat_natCast→acN,add_assoc→adl
open Bool renaming and_eq_true→dp,and_true→ac7,true_or→adm,or_true→ado,true_and→ade,false_eq_true→pn,or_false→adp
open Array renaming getElem?_eq_getElem→hZ
noncomputable section
section
set_option linter.unusedSimpArgs false
set_option linter.unusedVariables false
namespace Go.Proofs.YtncncijedmfpjaaGreatDoor.N
open Go Go.Am
def PL (_:List Ins) (_ _ _:Int) (R:List AV→Int) (f:FuncId) (args:List AV) (m:Mem):Option (AV×Mem):=cond (bj f 16) (some (sI .i64 (R args),m)) none
def UI:bN:=aP aF aC [(16,0)] [] []
def YM:Sc:= .fin
def PM (l:List Ins) (most:Int):aA:=
 (.at (af ae env 16 0 [AV.p (PV.ps l.length 8 (ak l)),AV.p (PV.sc (sR sa most)),AV.p (PV.sc (sR sa 0)),AV.p (PV.sc (sR sa 0))] ([]) 0 58))
theorem MW (l:List Ins) (most:Int):aG ae env UI 1000000 16 ([aL l,sI sa most]) ([]) YM=PM l most:=by kernel_rfl
def PN (l:List Ins) (most:Int) (n:Int) (i:Int) (R:List AV→Int):bN:=aP (PL l most n i R) aC [(16,0)] [(16,4,5),(16,0,1),(16,0,2),(16,0,3)] [(16,6,4),(16,6,6),(16,8,3),(16,8,5),(16,10,3),(16,10,5)]
def UJ:Sc:=(.fork (.fork (.fork .fin (.no .fin)) .fin) (.lit .fin))
def wL (l:List Ins) (most:Int) (n:Int) (i:Int) (R:List AV→Int):aA:=
 (.test (decide (i<(↑l.length:Int)))
  (.test (decide (n≤most))
   (.must (aM i l.length&&true&&true)
    (.must (aQ (av (ak l) (i.toNat*8+5))&&true)
     (.test (decide (sa.wrap (sa.wrap (n+1)+bif true then acL (↑(az (av (ak l) (i.toNat*8+5))):Int) most else acM (↑(az (av (ak l) (i.toNat*8+5))):Int) most)≤most))
      (.must (aM i l.length&&true&&true)
       (.must (aQ (av (ak l) (i.toNat*8+6))&&true)
        (.call ⟨16,[AV.p (PV.ps (az (av (ak l) (i.toNat*8+6))) (aR (av (ak l) (i.toNat*8+6))) (an (av (ak l) (i.toNat*8+6)))),AV.p (PV.sc (sR sa (sa.wrap (most-sa.wrap (sa.wrap (n+1)+bif true then acL (↑(az (av (ak l) (i.toNat*8+5))):Int) most else acM (↑(az (av (ak l) (i.toNat*8+5))):Int) most)))))],[],AV.p (PV.sc (sR sa (R [AV.p (PV.ps (az (av (ak l) (i.toNat*8+6))) (aR (av (ak l) (i.toNat*8+6))) (an (av (ak l) (i.toNat*8+6)))),AV.p (PV.sc (sR sa (sa.wrap (most-sa.wrap (sa.wrap (n+1)+bif true then acL (↑(az (av (ak l) (i.toNat*8+5))):Int) most else acM (↑(az (av (ak l) (i.toNat*8+5))):Int) most)))))]))),[]⟩
         (.test (decide (sa.wrap (sa.wrap (sa.wrap (n+1)+bif true then acL (↑(az (av (ak l) (i.toNat*8+5))):Int) most else acM (↑(az (av (ak l) (i.toNat*8+5))):Int) most)+R [AV.p (PV.ps (az (av (ak l) (i.toNat*8+6))) (aR (av (ak l) (i.toNat*8+6))) (an (av (ak l) (i.toNat*8+6)))),AV.p (PV.sc (sR sa (sa.wrap (most-sa.wrap (sa.wrap (n+1)+bif true then acL (↑(az (av (ak l) (i.toNat*8+5))):Int) most else acM (↑(az (av (ak l) (i.toNat*8+5))):Int) most)))))])≤most))
          (.must (aM i l.length&&true&&true)
           (.must (aQ (av (ak l) (i.toNat*8+7))&&true)
            (.call ⟨16,[AV.p (PV.ps (az (av (ak l) (i.toNat*8+7))) (aR (av (ak l) (i.toNat*8+7))) (an (av (ak l) (i.toNat*8+7)))),AV.p (PV.sc (sR sa (sa.wrap (most-sa.wrap (sa.wrap (sa.wrap (n+1)+bif true then acL (↑(az (av (ak l) (i.toNat*8+5))):Int) most else acM (↑(az (av (ak l) (i.toNat*8+5))):Int) most)+R [AV.p (PV.ps (az (av (ak l) (i.toNat*8+6))) (aR (av (ak l) (i.toNat*8+6))) (an (av (ak l) (i.toNat*8+6)))),AV.p (PV.sc (sR sa (sa.wrap (most-sa.wrap (sa.wrap (n+1)+bif true then acL (↑(az (av (ak l) (i.toNat*8+5))):Int) most else acM (↑(az (av (ak l) (i.toNat*8+5))):Int) most)))))])))))],[],AV.p (PV.sc (sR sa (R [AV.p (PV.ps (az (av (ak l) (i.toNat*8+7))) (aR (av (ak l) (i.toNat*8+7))) (an (av (ak l) (i.toNat*8+7)))),AV.p (PV.sc (sR sa (sa.wrap (most-sa.wrap (sa.wrap (sa.wrap (n+1)+bif true then acL (↑(az (av (ak l) (i.toNat*8+5))):Int) most else acM (↑(az (av (ak l) (i.toNat*8+5))):Int) most)+R [AV.p (PV.ps (az (av (ak l) (i.toNat*8+6))) (aR (av (ak l) (i.toNat*8+6))) (an (av (ak l) (i.toNat*8+6)))),AV.p (PV.sc (sR sa (sa.wrap (most-sa.wrap (sa.wrap (n+1)+bif true then acL (↑(az (av (ak l) (i.toNat*8+5))):Int) most else acM (↑(az (av (ak l) (i.toNat*8+5))):Int) most)))))])))))]))),[]⟩
             (.at (af ae env 16 0 [AV.p (PV.ps l.length 8 (ak l)),AV.p (PV.sc (sR sa most)),AV.p (PV.sc (sR sa (sa.wrap (sa.wrap (sa.wrap (sa.wrap (n+1)+bif true then acL (↑(az (av (ak l) (i.toNat*8+5))):Int) most else acM (↑(az (av (ak l) (i.toNat*8+5))):Int) most)+R [AV.p (PV.ps (az (av (ak l) (i.toNat*8+6))) (aR (av (ak l) (i.toNat*8+6))) (an (av (ak l) (i.toNat*8+6)))),AV.p (PV.sc (sR sa (sa.wrap (most-sa.wrap (sa.wrap (n+1)+bif true then acL (↑(az (av (ak l) (i.toNat*8+5))):Int) most else acM (↑(az (av (ak l) (i.toNat*8+5))):Int) most)))))])+R [AV.p (PV.ps (az (av (ak l) (i.toNat*8+7))) (aR (av (ak l) (i.toNat*8+7))) (an (av (ak l) (i.toNat*8+7)))),AV.p (PV.sc (sR sa (sa.wrap (most-sa.wrap (sa.wrap (sa.wrap (n+1)+bif true then acL (↑(az (av (ak l) (i.toNat*8+5))):Int) most else acM (↑(az (av (ak l) (i.toNat*8+5))):Int) most)+R [AV.p (PV.ps (az (av (ak l) (i.toNat*8+6))) (aR (av (ak l) (i.toNat*8+6))) (an (av (ak l) (i.toNat*8+6)))),AV.p (PV.sc (sR sa (sa.wrap (most-sa.wrap (sa.wrap (n+1)+bif true then acL (↑(az (av (ak l) (i.toNat*8+5))):Int) most else acM (↑(az (av (ak l) (i.toNat*8+5))):Int) most)))))])))))])))),AV.p (PV.sc (sR sa (sa.wrap (i+1))))] ([]) 0 58)))))
          (.at (af ae env 16 0 [AV.p (PV.ps l.length 8 (ak l)),AV.p (PV.sc (sR sa most)),AV.p (PV.sc (sR sa (sa.wrap (sa.wrap (sa.wrap (n+1)+bif true then acL (↑(az (av (ak l) (i.toNat*8+5))):Int) most else acM (↑(az (av (ak l) (i.toNat*8+5))):Int) most)+R [AV.p (PV.ps (az (av (ak l) (i.toNat*8+6))) (aR (av (ak l) (i.toNat*8+6))) (an (av (ak l) (i.toNat*8+6)))),AV.p (PV.sc (sR sa (sa.wrap (most-sa.wrap (sa.wrap (n+1)+bif true then acL (↑(az (av (ak l) (i.toNat*8+5))):Int) most else acM (↑(az (av (ak l) (i.toNat*8+5))):Int) most)))))])))),AV.p (PV.sc (sR sa (sa.wrap (i+1))))] ([]) 0 58))))))
      (.must (!(decide (sa.wrap (sa.wrap (n+1)+bif true then acL (↑(az (av (ak l) (i.toNat*8+5))):Int) most else acM (↑(az (av (ak l) (i.toNat*8+5))):Int) most)≤most)))
       (.at (af ae env 16 0 [AV.p (PV.ps l.length 8 (ak l)),AV.p (PV.sc (sR sa most)),AV.p (PV.sc (sR sa (sa.wrap (sa.wrap (n+1)+bif true then acL (↑(az (av (ak l) (i.toNat*8+5))):Int) most else acM (↑(az (av (ak l) (i.toNat*8+5))):Int) most)))),AV.p (PV.sc (sR sa (sa.wrap (i+1))))] ([]) 0 58))))))
   (.out (Out.ret (AV.p (PV.sc (sR sa n))) [])))
  (.out (Out.ret (AV.p (PV.sc (sR sa n))) [])))
theorem zM (l:List Ins) (most:Int) (n:Int) (i:Int) (R:List AV→Int):grow ae env (PN l most n i R) 1000000 true (af ae env 16 0 ([aL l,sI sa most,sI sa n,sI sa i]) ([]) 0 58) UJ atEnd=wL l most n i R:=by kernel_rfl
theorem Dh (R:List AV→Int) (hR : ∀l most,R [aL l,sI .i64 most]=cS l most 0) (l:List Ins) (most:Int) (h0:0≤most) (hm:most≤1000000000000) (hl:l.length≤maxLen)
  (IH : ∀x∈l,∀m':Int,0≤m'→m'≤most→au ae env 16 [aL x.l,sI .i64 m'] [] (sI .i64 (cS x.l m' 0)) []∧au ae env 16 [aL x.e,sI .i64 m'] [] (sI .i64 (cS x.e m' 0)) []) :
  ∀(r k:Nat) (n:Int),k+r=l.length→0≤n→n≤2*most+1→bD ae env (af ae env 16 0 [aL l,sI .i64 most,sI .i64 n,sI .i64 k] [] 0 58) (.ret (sI .i64 (cS (l.drop k) most n)) []):=by
 intro r
 induction r with
 |zero=>
  intro k n hk hn0 hn
  refine ah aI (zM l most n k R) ?_
  have h1:l.drop k=[]:=List.drop_eq_nil_of_le (by omega)
  have h2 : ¬((k:Int)<l.length):=by omega
  simp[wL,bu,aA.ok,h1,h2,cS]
 |succ r ih=>
  intro k n hk hn0 hn
  refine ah aI (zM l most n k R) ?_
  have Cc:k<l.length:=by omega
  have Xz:l[k]? = some l[k]:=de Cc
  have hmem:l[k]∈l:=List.getElem_mem Cc
  have hd:l.drop k=l[k]::l.drop (k+1):=ac3 Cc
  rw[hd]
  generalize l[k]=x at *
  obtain⟨op,rs,a,b,nn,tags,ll,le⟩:=x
  have hc:=rO Xz
  have c5:(ak l).getD (k*8+5) .bk = .ps tags.length 1 (bU .u32 tags):=hc 5 (by omega)
  have c6:(ak l).getD (k*8+6) .bk = .ps ll.length 8 (ak ll):=hc 6 (by omega)
  have c7:(ak l).getD (k*8+7) .bk = .ps le.length 8 (ak le):=hc 7 (by omega)
  have hML:maxLen=9223372036854775807:=rfl
  have hw:sa.wrap ((k:Int)+1)=((k+1:Nat):Int):=by rw[bA (by omega) (by omega)];rfl
  have hw1:sa.wrap (n+1)=n+1:=bA (by omega) (by omega)
  have ZX:(k:Int)<(l.length:Int):=by omega
  simp only[wL,bu,aA.ok,c5,c6,c7,az,aR,an,aQ,acN,aM,cond_true,hw,hw1]
  refine⟨fun _=>⟨fun hnm=>⟨by simp[ZX],rfl,?_⟩,fun hnm=> ?_⟩,fun h=>absurd ZX (by simpa using h)⟩
  · have hnm:n≤most:=by simpa using hnm
    have Wy:=IH _ hmem
    simp only[cS,if_pos hnm,vK,Ins.l,Ins.e] at Wy ⊢
    generalize hn1:n+1+min (tags.length:Int) most=n1
    have Sg:0≤n1∧n1≤2*most+1:=by omega
    have ZL:sa.wrap n1=n1:=bA (by omega) (by omega)
    simp only[ZL]
    have hw3:sa.wrap (most-n1)=most-n1:=bA (by omega) (by omega)
    simp only[hw3,hR]
    refine⟨fun h1=> ?_,fun h1=> ?_⟩
    · have h1:n1≤most:=by simpa using h1
      rw[if_pos h1]
      have hb:=cq ll (most-n1) 0 (by omega) (by omega) (by omega)
      have hw4:sa.wrap (n1+cS ll (most-n1) 0)=n1+cS ll (most-n1) 0:=bA (by omega) (by omega)
      refine⟨by simp[ZX],rfl,(Wy (most-n1) (by omega) (by omega)).1,?_⟩
      simp only[hw4]
      generalize hn2:n1+cS ll (most-n1) 0=n2
      have Wv:0≤n2∧n2≤2*most+1:=by omega
      have hw5:sa.wrap (most-n2)=most-n2:=bA (by omega) (by omega)
      simp only[hw5]
      refine⟨fun h2=> ?_,fun h2=> ?_⟩
      · have h2:n2≤most:=by simpa using h2
        rw[if_pos h2]
        have hb2:=cq le (most-n2) 0 (by omega) (by omega) (by omega)
        have hw6:sa.wrap (n2+cS le (most-n2) 0)=n2+cS le (most-n2) 0:=bA (by omega) (by omega)
        refine⟨by simp[ZX],rfl,(Wy (most-n2) (by omega) (by omega)).2,?_⟩
        simp only[hw6]
        exact ih (k+1) _ (by omega) (by omega) (by omega)
      · have h2 : ¬n2≤most:=by simpa using h2
        rw[if_neg h2]
        exact ih (k+1) n2 (by omega) (by omega) (by omega)
    · have h1 : ¬n1≤most:=by simpa using h1
      rw[if_neg h1,if_neg h1]
      refine⟨by simpa using h1,?_⟩
      exact ih (k+1) n1 (by omega) (by omega) (by omega)
  · have hnm : ¬n≤most:=by simpa using hnm
    simp only[cS,if_neg hnm]
theorem K2 {l m:List Ins} (h:aL l=aL m):l=m:=by
 simp only[AV.p.injEq,PV.ps.injEq] at h
 exact kU h.2.2
open Classical in
def UK (args:List AV):Int:=if h : ∃l most,args=[aL l,sI .i64 most] then cS h.choose h.choose_spec.choose 0 else 0
theorem PO (l:List Ins) (most:Int):UK [aL l,sI .i64 most]=cS l most 0:=by
 have h : ∃l' most',[aL l,sI .i64 most]=[aL l',sI .i64 most']:=⟨l,most,rfl⟩
 have e:=h.choose_spec.choose_spec
 unfold UK
 rw[dif_pos h]
 have e1:=K2 (List.cons.inj e).1
 have e2:most=h.choose_spec.choose:=by
  have:=(List.cons.inj (List.cons.inj e).2).1
  simpa only[AV.p.injEq,PV.sc.injEq,Value.int.injEq,true_and] using this
 have e:(h.choose,h.choose_spec.choose)=(l,most):=by rw[Prod.mk.injEq];exact⟨e1.symm,e2.symm⟩
 exact congrArg (fun q:List Ins×Int=>cS q.1 q.2 0) e
theorem gF : ∀(N:Nat) (l:List Ins) (most:Int),cZ l≤N→l.length≤maxLen→sV l→0≤most→most≤1000000000000→au ae env 16 [aL l,sI .i64 most] [] (sI .i64 (cS l most 0)) []
 |N,l,most,hN,hl,hw,h0,hm=>by
  have IH : ∀x∈l,∀m':Int,0≤m'→m'≤most→au ae env 16 [aL x.l,sI .i64 m'] [] (sI .i64 (cS x.l m' 0)) []∧au ae env 16 [aL x.e,sI .i64 m'] [] (sI .i64 (cS x.e m' 0)) []:=by
   intro x hx m' h0' hm'
   have hc:=kV hx
   have Td:=Go.Am.nU hw hx
   obtain⟨op,rs,a,b,nn,tags,ll,le⟩:=x
   simp only[kD] at hc
   simp only[JE] at Td
   match N,hN with
   |0,hN=>omega
   |N+1,hN=>exact⟨gF N ll m' (by omega) Td.2.2.2.2.2.2.1.1 Td.2.2.2.2.2.2.1.2 h0' (by omega),gF N le m' (by omega) Td.2.2.2.2.2.2.2.1 Td.2.2.2.2.2.2.2.2 h0' (by omega)⟩
  refine aa aI (MW l most) ?_
  have h:=Dh UK PO l most h0 hm hl IH l.length 0 0 (by omega) (by omega) (by omega)
  rw[List.drop_zero] at h
  exact h
end Go.Proofs.YtncncijedmfpjaaGreatDoor.N
end
section
set_option linter.unusedSimpArgs false
set_option linter.unusedVariables false
namespace Go.Proofs.YtncncijedmfpjaaGreatDoor.N
open Go Go.Am
def lrC (M:Mo) (most n:Int) (i:Nat) (r:Int) (_:Nat) (f:FuncId) (_:List AV) (m:Mem):Option (AV×Mem):=cond (bj f 16) (some (sI .i64 r,m)) none
def UL:bN:=aP aF aC [(6,1)] [(6,0,0)] []
def YN:Sc:= .fin
def G1 (M:Mo) (most:Int):aA:=
 (.test (decide (sa.wrap (sa.wrap (sa.wrap (sa.wrap (sa.wrap (sa.wrap (sa.wrap (sa.wrap ((↑M.tys.length:Int)+(↑M.aZ.length:Int))+(↑M.fns.length:Int))+(↑M.dh.length:Int))+(↑M.dw.length:Int))+(↑M.gls.length:Int))+(↑M.exs.length:Int))+(↑M.els.length:Int))+(↑M.aY.length:Int))>most))
 A2
 (.at (af ae env 6 1 [sI .i64 most,.mp 0 0,sI .i64 (sa.wrap (sa.wrap (sa.wrap (sa.wrap (sa.wrap (sa.wrap (sa.wrap (sa.wrap ((↑M.tys.length:Int)+(↑M.aZ.length:Int))+(↑M.fns.length:Int))+(↑M.dh.length:Int))+(↑M.dw.length:Int))+(↑M.gls.length:Int))+(↑M.exs.length:Int))+(↑M.els.length:Int))+(↑M.aY.length:Int))),sI .i64 0] ([.pc M.aJ]) 0 188)))
theorem MX (M:Mo) (most:Int):aG ae env UL 1000000 6 ([AV.agg (List.map AV.p M.aJ),sI sa most]) ([]) YN=G1 M most:=by kernel_rfl
def PR:bN:=aP aF aC [(6,1),(6,3)] [(6,0,2)] [(6,8,4),(6,8,7)]
def UM (M:Mo) (most n:Int) (i:Nat) (r:Int):Sc:=(.fork (.ans 16 (sI .i64 r) ([]) .fin) .fin)
def wM (M:Mo) (most n:Int) (i:Nat) (r:Int):aA:=
 (.test (decide ((↑i:Int)<(↑M.fns.length:Int)))
 (.must (aM (↑i:Int) M.fns.length&&true&&true)
 (.must (aQ (av (ac6 aO M.fns) (aB i*3+1+1))&&true)
 (.call ⟨16,[.p (.ps (az (av (ac6 aO M.fns) (aB i*3+1+1))) (aR (av (ac6 aO M.fns) (aB i*3+1+1))) (an (av (ac6 aO M.fns) (aB i*3+1+1)))),sI .i64 most],[],sI .i64 r,[]⟩
 (.at (af ae env 6 1 [sI .i64 most,.mp 0 0,sI .i64 (sa.wrap (n+r)),sI .i64 (sa.wrap ((↑i:Int)+1))] ([.pc M.aJ]) 0 188)))))
 (.at (af ae env 6 3 [sI .i64 most,.mp 0 0,sI .i64 n,sI .i64 0] ([.pc M.aJ]) 0 188)))
theorem zN (M:Mo) (most n:Int) (i:Nat) (r:Int):grow ae env PR 1000000 true (af ae env 6 1 ([sI sa most,AV.mp 0 0,sI sa n,sI sa (↑i:Int)]) ([aN.pc M.aJ]) 0 188) (UM M most n i r) atEnd=wM M most n i r:=by kernel_rfl
def PS:bN:=aP aF aC [(6,3),(6,5)] [(6,0,4)] [(6,12,4),(6,12,6)]
def UN (M:Mo) (most n:Int) (i:Nat) (r:Int):Sc:=(.fork (.ans 16 (sI .i64 r) ([]) .fin) .fin)
def wN (M:Mo) (most n:Int) (i:Nat) (r:Int):aA:=
 (.test (decide ((↑i:Int)<(↑M.gls.length:Int)))
 (.must (aM (↑i:Int) M.gls.length&&true&&true)
 (.must (aQ (av (ac6 bP M.gls) (aB i*2+1))&&true)
 (.call ⟨16,[.p (.ps (az (av (ac6 bP M.gls) (aB i*2+1))) (aR (av (ac6 bP M.gls) (aB i*2+1))) (an (av (ac6 bP M.gls) (aB i*2+1)))),sI .i64 most],[],sI .i64 r,[]⟩
 (.at (af ae env 6 3 [sI .i64 most,.mp 0 0,sI .i64 (sa.wrap (n+r)),sI .i64 (sa.wrap ((↑i:Int)+1))] ([.pc M.aJ]) 0 188)))))
 (.at (af ae env 6 5 [sI .i64 most,.mp 0 0,sI .i64 n,sI .i64 0] ([.pc M.aJ]) 0 188)))
theorem zO (M:Mo) (most n:Int) (i:Nat) (r:Int):grow ae env PS 1000000 true (af ae env 6 3 ([sI sa most,AV.mp 0 0,sI sa n,sI sa (↑i:Int)]) ([aN.pc M.aJ]) 0 188) (UN M most n i r) atEnd=wN M most n i r:=by kernel_rfl
def PT:bN:=aP aF aC [(6,5),(6,7)] [(6,0,6)] [(6,0,7)]
def UO (M:Mo) (most n:Int) (i:Nat) (r:Int):Sc:=(.fork (.AS 6 15 (lrC M most n i r 0) .fin) .fin)
def wO (M:Mo) (most n:Int) (i:Nat) (r:Int):aA:=
 (.test (decide ((↑i:Int)<(↑M.els.length:Int)))
 (.call ⟨16,[.p (.ps (az (av (ac6 aW M.els) (aB i*2+0))) (aR (av (ac6 aW M.els) (aB i*2+0))) (an (av (ac6 aW M.els) (aB i*2+0)))),sI .i64 most],[],sI .i64 r,[]⟩
 (.must (aM (↑i:Int) M.els.length&&true&&true&&(aQ (av (ac6 aW M.els) (aB i*2+0))&&true&&(aM (↑i:Int) M.els.length&&true&&true&&(aQ (av (ac6 aW M.els) (aB i*2+1))&&true&&true)))&&true)
 (.at (af ae env 6 5 [sI .i64 most,.mp 0 0,sI .i64 (sa.wrap (sa.wrap (n+r)+bif true then acL (↑(az (av (ac6 aW M.els) (aB i*2+1))):Int) most else acM (↑(az (av (ac6 aW M.els) (aB i*2+1))):Int) most)),sI .i64 (sa.wrap ((↑i:Int)+1))] ([.pc M.aJ]) 0 188))))
 (.at (af ae env 6 7 [sI .i64 most,.mp 0 0,sI .i64 n,sI .i64 0] ([.pc M.aJ]) 0 188)))
theorem zP (M:Mo) (most n:Int) (i:Nat) (r:Int):grow ae env PT 1000000 true (af ae env 6 5 ([sI sa most,AV.mp 0 0,sI sa n,sI sa (↑i:Int)]) ([aN.pc M.aJ]) 0 188) (UO M most n i r) atEnd=wO M most n i r:=by kernel_rfl
def PU:bN:=aP aF aC [(6,7),(6,9)] [(6,0,8)] [(6,0,9)]
def UP (M:Mo) (most n:Int) (i:Nat) (r:Int):Sc:=(.fork (.AS 6 19 (lrC M most n i r 0) .fin) .fin)
def wP (M:Mo) (most n:Int) (i:Nat) (r:Int):aA:=
 (.test (decide ((↑i:Int)<(↑M.aY.length:Int)))
 (.call ⟨16,[.p (.ps (az (av (ac6 bq M.aY) (aB i*2+0))) (aR (av (ac6 bq M.aY) (aB i*2+0))) (an (av (ac6 bq M.aY) (aB i*2+0)))),sI .i64 most],[],sI .i64 r,[]⟩
 (.must (aM (↑i:Int) M.aY.length&&true&&true&&(aQ (av (ac6 bq M.aY) (aB i*2+0))&&true&&(aM (↑i:Int) M.aY.length&&true&&true&&(aQ (av (ac6 bq M.aY) (aB i*2+1))&&true&&true)))&&true)
 (.at (af ae env 6 7 [sI .i64 most,.mp 0 0,sI .i64 (sa.wrap (sa.wrap (n+r)+bif true then acL (↑(az (av (ac6 bq M.aY) (aB i*2+1))):Int) most else acM (↑(az (av (ac6 bq M.aY) (aB i*2+1))):Int) most)),sI .i64 (sa.wrap ((↑i:Int)+1))] ([.pc M.aJ]) 0 188))))
 (.at (af ae env 6 9 [sI .i64 most,.mp 0 0,sI .i64 n,sI .i64 0] ([.pc M.aJ]) 0 188)))
theorem zQ (M:Mo) (most n:Int) (i:Nat) (r:Int):grow ae env PU 1000000 true (af ae env 6 7 ([sI sa most,AV.mp 0 0,sI sa n,sI sa (↑i:Int)]) ([aN.pc M.aJ]) 0 188) (UP M most n i r) atEnd=wP M most n i r:=by kernel_rfl
def PW:bN:=aP aF aC [(6,9),(6,11)] [(6,0,10)] [(6,0,11)]
def UQ (M:Mo) (most n:Int) (i:Nat) (r:Int):Sc:= .fin
def wQ (M:Mo) (most n:Int) (i:Nat) (r:Int):aA:=
 (.test (decide ((↑i:Int)<(↑M.aZ.length:Int)))
 (.must (aM (↑i:Int) M.aZ.length&&true&&(isStr (av (ac6 bp M.aZ) (aB i*3+0))&&(aM (↑i:Int) M.aZ.length&&true&&(isStr (av (ac6 bp M.aZ) (aB i*3+1))&&true)))&&true)
 (.at (af ae env 6 9 [sI .i64 most,.mp 0 0,sI .i64 (sa.wrap (sa.wrap (n+bif true then acL (↑(bh (av (ac6 bp M.aZ) (aB i*3+0))).data.toList.length:Int) most else acM (↑(bh (av (ac6 bp M.aZ) (aB i*3+0))).data.toList.length:Int) most)+bif true then acL (↑(bh (av (ac6 bp M.aZ) (aB i*3+1))).data.toList.length:Int) most else acM (↑(bh (av (ac6 bp M.aZ) (aB i*3+1))).data.toList.length:Int) most)),sI .i64 (sa.wrap ((↑i:Int)+1))] ([.pc M.aJ]) 0 188)))
 (.at (af ae env 6 11 [sI .i64 most,.mp 0 0,sI .i64 n,sI .i64 0] ([.pc M.aJ]) 0 188)))
theorem zR (M:Mo) (most n:Int) (i:Nat) (r:Int):grow ae env PW 1000000 true (af ae env 6 9 ([sI sa most,AV.mp 0 0,sI sa n,sI sa (↑i:Int)]) ([aN.pc M.aJ]) 0 188) (UQ M most n i r) atEnd=wQ M most n i r:=by kernel_rfl
def PY:bN:=aP aF aC [(6,11)] [(6,0,12)] [(6,28,4),(6,28,6)]
def UR (M:Mo) (most n:Int) (i:Nat) (r:Int):Sc:= .fin
def wR (M:Mo) (most n:Int) (i:Nat) (r:Int):aA:=
 (.test (decide ((↑i:Int)<(↑M.exs.length:Int)))
 (.must (aM (↑i:Int) M.exs.length&&true&&true)
 (.must (isStr (av (ac6 bB M.exs) (aB i*3+0))&&true)
 (.at (af ae env 6 11 [sI .i64 most,.mp 0 0,sI .i64 (sa.wrap (n+bif true then acL (↑(bh (av (ac6 bB M.exs) (aB i*3+0))).data.toList.length:Int) most else acM (↑(bh (av (ac6 bB M.exs) (aB i*3+0))).data.toList.length:Int) most)),sI .i64 (sa.wrap ((↑i:Int)+1))] ([.pc M.aJ]) 0 188))))
 (.out (.ret (.p (.sc (.bool (decide (n>most))))) [])))
theorem zS (M:Mo) (most n:Int) (i:Nat) (r:Int):grow ae env PY 1000000 true (af ae env 6 11 ([sI sa most,AV.mp 0 0,sI sa n,sI sa (↑i:Int)]) ([aN.pc M.aJ]) 0 188) (UR M most n i r) atEnd=wR M most n i r:=by kernel_rfl
theorem MY (s:ByteArray) (hs:s.size≤maxLen):au ae env 73 [.p (.sc (.string s))] [] (sB (decide (Dg s≥0))) []:=
 aa aI (L0 s (Dg s)) ⟨au.Xt (m:=[.tok]) (args:=[.os (some 0) s.data.toList.length 1 (s.data.toList.map hH)]) (zL s hs) ⟨Rz.os (.refl _),trivial⟩,rfl⟩
def IG (s:ByteArray):Bool:=decide (Dg s≥0)
def Di (M:Mo):Bool:=M.tys.any Fv||M.aZ.any C9||M.fns.any Db||(xw M).any IG||M.dh.any (qy 1048576)||M.dw.any (qy 65536)||M.exs.any Dc||(!M.st&&M.sn != 0)
def zT (M:Mo):Int:=if Di M=true then 2 else if wI M 2=true then 2 else 0
theorem US {M:Mo} (hM:M.wf) : ∀s∈xw M,s.size≤maxLen:=by
 intro s hs
 rcases oE.1 hs with h | h
 · obtain⟨x,hx,h⟩:=List.mem_flatMap.1 h
   have q:=hM.aZ.2 x hx
   simp only[Hk,List.not_mem_nil,or_false] at h
   rcases h with rfl | rfl
   · exact q.1
   · exact q.2.1
 · obtain⟨x,hx,rfl⟩:=fi.1 h
   exact(hM.exs.2 x hx).1
theorem II (M:Mo) (hM:M.fit) (hw:M.wf) (hs:M.IC):au ae env 33 [.agg (M.aJ.map .p)] [] (sI .i64 (zT M)) []:=by
 have f1:=Mi M.tys (by have:=hM.tys;omega) Fv (fun x _=>Mx x)
 have f2:=Ml M.aZ (by have:=hM.aZ;omega) C9 (fun x _=>MA x)
 have f3:=Mn M.fns (by have:=hM.fns;omega) Db (fun x _=>MC x)
 have f4:=Mg (xw M) (MD hM) IG (fun x hx=>MY x (US hw x hx))
 have f5:=Mq M.dh (by have:=hM.dh;omega) (qy 1048576) (fun x _=>My x)
 have f6:=Ms M.dw (by have:=hM.dw;omega) (qy 65536) (fun x _=>Mz x)
 have f7:=Mu M.exs (by have:=hM.exs;omega) Dc (fun x _=>MB x)
 have f8:=tw M hM hs 2
 have nd:=ME M hM
 have hF:zT M=if Di M=true then 2 else if wI M 2=true then 2 else 0:=rfl
 have hB:Di M=(M.tys.any Fv||M.aZ.any C9||M.fns.any Db||(xw M).any IG||M.dh.any (qy 1048576)||M.dw.any (qy 65536)||M.exs.any Dc||(!M.st&&M.sn != 0)):=rfl
 refine aa aI (Ma M (M.tys.any Fv) (M.aZ.any C9) (M.fns.any Db) ((xw M).any IG) (M.dh.any (qy 1048576)) (M.dw.any (qy 65536)) (M.exs.any Dc) (xw M).length ((xw M).flatMap fm) (if wI M 2=true then 2 else 0)) ?_
 generalize (if wI M 2=true then(2:Int) else 0)=v at f8 hF ⊢
 rw[hF,hB]
 generalize M.tys.any Fv=b1 at *
 generalize M.aZ.any C9=b2 at *
 generalize M.fns.any Db=b3 at *
 generalize (xw M).any IG=b4 at *
 generalize M.dh.any (qy 1048576)=b5 at *
 generalize M.dw.any (qy 65536)=b6 at *
 generalize M.exs.any Dc=b7 at *
 simp only[GO,fN,aA.ok]
 refine⟨f1,fun q1=> ?_,fun q1=>⟨f2,fun q2=> ?_,fun q2=>⟨f3,fun q3=> ?_,fun q3=>⟨nd,f4,fun q4=> ?_,fun q4=>⟨f5,fun q5=> ?_,fun q5=>⟨f6,fun q6=> ?_,fun q6=>⟨f7,fun q7=> ?_,fun q7=>⟨fun q9=>⟨fun q8=> ?_,fun q8=>⟨f8,?_⟩⟩,fun q9=>⟨f8,?_⟩⟩⟩⟩⟩⟩⟩⟩⟩
 · rw[if_pos (by simp only[q1,adm])]
 · rw[if_pos (by simp only[q2,adm,ado])]
 · rw[if_pos (by simp only[q3,adm,ado])]
 · rw[if_pos (by simp only[q4,adm,ado])]
 · rw[if_pos (by simp only[q5,adm,ado])]
 · rw[if_pos (by simp only[q6,adm,ado])]
 · rw[if_pos (by simp only[q7,adm,ado])]
 · rw[if_pos (by simp only[q8,q9,ac7,ado])]
 · rw[if_neg (by simp only[q1,q2,q3,q4,q5,q6,q7,q8,Bool.and_false,adp,pn,not_false_eq_true])]
 · rw[if_neg (by simp only[q1,q2,q3,q4,q5,q6,q7,q9,Bool.false_and,adp,pn,not_false_eq_true])]
def lq (M:Mo):Int:=if wK M≠0 then wK M else if zK M≠0 then zK M else zT M
theorem Dj (M:Mo) (hM:M.fit) (hw:M.wf) (hs:M.IC):au ae env 17 [.agg (M.aJ.map .p)] [] (sI .i64 (lq M)) []:=by
 refine aa aI (IB M (wK M) (zK M) (zT M)) ?_
 simp only[C7,aA.ok,lq,bne_iff_ne,ne_eq,bne_eq_false_iff_eq]
 refine⟨IE M hM hs,fun q=> ?_,fun q=>⟨ID M hM,fun r=> ?_,fun r=>⟨II M hM hw hs,fun t=> ?_,fun t=> ?_⟩⟩⟩
 · rw[if_pos q]
 · rw[if_neg (by simpa using q),if_pos r]
 · rw[if_neg (by simpa using q),if_neg (by simpa using r)]
 · rw[if_neg (by simpa using q),if_neg (by simpa using r),t]
def lu (x:Fu):Int:=cS x.l 5000 0
def nW (x:Gl):Int:=cS x.l 5000 0
def rW (x:El):Int:=cS x.l 5000 0+min (x.fs.length:Int) 5000
def zU (x:Da):Int:=cS x.l 5000 0+min (x.bs.length:Int) 5000
def IJ (x:Im):Int:=min (x.mo.data.toList.length:Int) 5000+min (x.nm.data.toList.length:Int) 5000
def RF (x:Ex):Int:=min (x.nm.data.toList.length:Int) 5000
def bE {α:Type} (w:α→Int):Int→List α→Int
 |n,[]=>n
 |n,x::r=>bE w (n+w x) r
def fG (M:Mo) (t:Nat) (n:Int) (i:Nat):cg:=af ae env 6 t [sI .i64 5000,.mp 0 0,sI .i64 n,sI .i64 i] [.pc M.aJ] 0 188
theorem nY {α:Type} {l:List α} {w:α→Int} {D:Int→Nat→cg} {K:Int→Prop} {o:Out} (hw : ∀x:α,0≤w x∧w x≤20000)
  (step : ∀(n:Int) (i:Nat) (x:α),l[i]? = some x→0≤n→n+w x≤1000000000000000→bD ae env (D (n+w x) (i+1)) o→bD ae env (D n i) o)
  (fin : ∀n,K n→bD ae env (D n l.length) o) :
  ∀(r i:Nat) (n:Int),i+r=l.length→0≤n→n+r*20000≤1000000000000000→K (bE w n (l.drop i))→bD ae env (D n i) o:=by
 intro r
 induction r with
 |zero=>
  intro i n hi h0 hn h
  obtain rfl:i=l.length:=by omega
  rw[List.drop_length] at h
  exact fin n h
 |succ r ih=>
  intro i n hi h0 hn h
  have hl:i<l.length:=by omega
  rw[ac3 hl] at h
  have hx:=hw l[i]
  exact step n i l[i] (de hl) h0 (by omega) (ih (i+1) _ (by omega) (by omega) (by omega) h)
theorem bM {α:Type} {w:α→Int} (hw : ∀x:α,0≤w x∧w x≤20000) : ∀(l:List α) (n:Int),n≤bE w n l∧bE w n l≤n+l.length*20000
 |[],n=>by simp[bE]
 |x::r,n=>by
  have h:=bM hw r (n+w x)
  have hx:=hw x
  simp only[bE,List.length_cons]
  omega
theorem gQ {α:Type} {w:α→Int} (hw : ∀x:α,0≤w x∧w x≤20000) : ∀(l:List α) (n:Int) (x:α),x∈l→n+w x≤bE w n l
 |y::r,n,x,h=>by
  have hy:=hw y
  rcases Hk.1 h with rfl | h
  · exact(bM hw r (n+w x)).1
  · have:=gQ hw r (n+w y) x h
    simp only[bE]
    omega
theorem wT (x:Fu):0≤lu x∧lu x≤20000:=by have h:=cq x.l 5000 0 (by decide) (by decide) (by decide);unfold lu;omega
theorem wU (x:Gl):0≤nW x∧nW x≤20000:=by have h:=cq x.l 5000 0 (by decide) (by decide) (by decide);unfold nW;omega
theorem wV (x:El):0≤rW x∧rW x≤20000:=by have h:=cq x.l 5000 0 (by decide) (by decide) (by decide);unfold rW;omega
theorem wW (x:Da):0≤zU x∧zU x≤20000:=by have h:=cq x.l 5000 0 (by decide) (by decide) (by decide);unfold zU;omega
theorem zV (x:Im):0≤IJ x∧IJ x≤20000:=by unfold IJ;omega
theorem Dk (x:Ex):0≤RF x∧RF x≤20000:=by unfold RF;omega
theorem MZ (M:Mo) (hM:M.wf) (h5:M.fns.length≤5000) (o:Out) (n:Int) (i:Nat) (x:Fu) (hx:M.fns[i]? = some x) (h0:0≤n) (hn:n+lu x≤1000000000000000) (h:bD ae env (fG M 1 (n+lu x) (i+1)) o):bD ae env (fG M 1 n i) o:=by
 have hi:i<M.fns.length:=(ee.1 hx).1
 have c:=aU (z:=3) (enc:=aO) (fun _=>rfl) hx
 have c20:(M.fns.flatMap aO).getD (i*3+1+1) .bk=pL x.l:=c 2 (by decide)
 have c21:(M.fns.flatMap aO).getD (i*3+2) .bk=pL x.l:=c 2 (by decide)
 have w:sa.wrap ((i:Int)+1)=((i+1:Nat):Int):=by rw[bA (by omega) (by omega)];rfl
 have hd:decide ((i:Int)<(M.fns.length:Int))=true:=decide_eq_true (by omega)
 have hI:=cq x.l 5000 0 (by decide) (by decide) (by decide)
 have hq:A8 x.l:=(hM.fns.2 x (oi hx)).2.2
 have hc:=gF (cZ x.l) x.l 5000 (dd _) hq.1 hq.2 (by decide) (by decide)
 unfold lu at h hn
 have w1:sa.wrap (n+cS x.l 5000 0)=n+cS x.l 5000 0:=bA (by omega) (by omega)
 refine ah aI (zN M 5000 n i (cS x.l 5000 0)) ?_
 simp only[wM,bu,aA.ok,isStr,aQ,bh,az,aR,an,aM,acN,c20,c21,hd,w,cond_true,cond_false,ac7,ade,w1]
 exact⟨fun _=>⟨(by first | rfl | (simp only[dp,decide_eq_true_eq];omega)),(by first | rfl | trivial),hc,h⟩,fun q=>(by cases q)⟩
theorem PZ (M:Mo) (o:Out) (n:Int) (h:bD ae env (fG M 3 n 0) o):bD ae env (fG M 1 n M.fns.length) o:=by
 have hd:decide ((M.fns.length:Int)<(M.fns.length:Int))=false:=decide_eq_false (by omega)
 refine ah aI (zN M 5000 n M.fns.length 0) ?_
 simp only[wM,bu,aA.ok,hd]
 exact⟨fun q=>(by cases q),fun _=>h⟩
theorem M0 (M:Mo) (hM:M.wf) (h5:M.gls.length≤5000) (o:Out) (n:Int) (i:Nat) (x:Gl) (hx:M.gls[i]? = some x) (h0:0≤n) (hn:n+nW x≤1000000000000000) (h:bD ae env (fG M 3 (n+nW x) (i+1)) o):bD ae env (fG M 3 n i) o:=by
 have hi:i<M.gls.length:=(ee.1 hx).1
 have c:=aU (z:=2) (enc:=bP) (fun _=>rfl) hx
 have c10:(M.gls.flatMap bP).getD (i*2+1) .bk=pL x.l:=c 1 (by decide)
 have w:sa.wrap ((i:Int)+1)=((i+1:Nat):Int):=by rw[bA (by omega) (by omega)];rfl
 have hd:decide ((i:Int)<(M.gls.length:Int))=true:=decide_eq_true (by omega)
 have hI:=cq x.l 5000 0 (by decide) (by decide) (by decide)
 have hq:A8 x.l:=(hM.gls.2 x (oi hx))
 have hc:=gF (cZ x.l) x.l 5000 (dd _) hq.1 hq.2 (by decide) (by decide)
 unfold nW at h hn
 have w1:sa.wrap (n+cS x.l 5000 0)=n+cS x.l 5000 0:=bA (by omega) (by omega)
 refine ah aI (zO M 5000 n i (cS x.l 5000 0)) ?_
 simp only[wN,bu,aA.ok,isStr,aQ,bh,az,aR,an,aM,acN,c10,hd,w,cond_true,cond_false,ac7,ade,w1]
 exact⟨fun _=>⟨(by first | rfl | (simp only[dp,decide_eq_true_eq];omega)),(by first | rfl | trivial),hc,h⟩,fun q=>(by cases q)⟩
theorem P0 (M:Mo) (o:Out) (n:Int) (h:bD ae env (fG M 5 n 0) o):bD ae env (fG M 3 n M.gls.length) o:=by
 have hd:decide ((M.gls.length:Int)<(M.gls.length:Int))=false:=decide_eq_false (by omega)
 refine ah aI (zO M 5000 n M.gls.length 0) ?_
 simp only[wN,bu,aA.ok,hd]
 exact⟨fun q=>(by cases q),fun _=>h⟩
theorem M1 (M:Mo) (hM:M.wf) (h5:M.els.length≤5000) (o:Out) (n:Int) (i:Nat) (x:El) (hx:M.els[i]? = some x) (h0:0≤n) (hn:n+rW x≤1000000000000000) (h:bD ae env (fG M 5 (n+rW x) (i+1)) o):bD ae env (fG M 5 n i) o:=by
 have hi:i<M.els.length:=(ee.1 hx).1
 have c:=aU (z:=2) (enc:=aW) (fun _=>rfl) hx
 have UT:(M.els.flatMap aW).getD (i*2) .bk=pL x.l:=c 0 (by decide)
 have UU:(M.els.flatMap aW).getD (i*2+0) .bk=pL x.l:=c 0 (by decide)
 have c12:(M.els.flatMap aW).getD (i*2+1) .bk=pT .u32 x.fs:=c 1 (by decide)
 have w:sa.wrap ((i:Int)+1)=((i+1:Nat):Int):=by rw[bA (by omega) (by omega)];rfl
 have hd:decide ((i:Int)<(M.els.length:Int))=true:=decide_eq_true (by omega)
 have hI:=cq x.l 5000 0 (by decide) (by decide) (by decide)
 have hq:A8 x.l:=(hM.els.2 x (oi hx)).1
 have hc:=gF (cZ x.l) x.l 5000 (dd _) hq.1 hq.2 (by decide) (by decide)
 unfold rW at h hn
 have w1:sa.wrap (sa.wrap (n+cS x.l 5000 0)+min (x.fs.length:Int) 5000)=n+(cS x.l 5000 0+min (x.fs.length:Int) 5000):=by rw[bA (n:=n+cS x.l 5000 0) (by omega) (by omega),adl];exact bA (by omega) (by omega)
 refine ah aI (zP M 5000 n i (cS x.l 5000 0)) ?_
 simp only[wO,bu,aA.ok,isStr,aQ,bh,az,aR,an,aM,acN,UT,UU,c12,hd,w,cond_true,cond_false,ac7,ade,w1]
 exact⟨fun _=>⟨hc,(by first | rfl | (simp only[dp,decide_eq_true_eq];omega)),h⟩,fun q=>(by cases q)⟩
theorem P1 (M:Mo) (o:Out) (n:Int) (h:bD ae env (fG M 7 n 0) o):bD ae env (fG M 5 n M.els.length) o:=by
 have hd:decide ((M.els.length:Int)<(M.els.length:Int))=false:=decide_eq_false (by omega)
 refine ah aI (zP M 5000 n M.els.length 0) ?_
 simp only[wO,bu,aA.ok,hd]
 exact⟨fun q=>(by cases q),fun _=>h⟩
theorem M3 (M:Mo) (hM:M.wf) (h5:M.aY.length≤5000) (o:Out) (n:Int) (i:Nat) (x:Da) (hx:M.aY[i]? = some x) (h0:0≤n) (hn:n+zU x≤1000000000000000) (h:bD ae env (fG M 7 (n+zU x) (i+1)) o):bD ae env (fG M 7 n i) o:=by
 have hi:i<M.aY.length:=(ee.1 hx).1
 have c:=aU (z:=2) (enc:=bq) (fun _=>rfl) hx
 have UT:(M.aY.flatMap bq).getD (i*2) .bk=pL x.l:=c 0 (by decide)
 have UU:(M.aY.flatMap bq).getD (i*2+0) .bk=pL x.l:=c 0 (by decide)
 have c12:(M.aY.flatMap bq).getD (i*2+1) .bk=pT .u8 x.bs:=c 1 (by decide)
 have w:sa.wrap ((i:Int)+1)=((i+1:Nat):Int):=by rw[bA (by omega) (by omega)];rfl
 have hd:decide ((i:Int)<(M.aY.length:Int))=true:=decide_eq_true (by omega)
 have hI:=cq x.l 5000 0 (by decide) (by decide) (by decide)
 have hq:A8 x.l:=(hM.aY.2 x (oi hx)).1
 have hc:=gF (cZ x.l) x.l 5000 (dd _) hq.1 hq.2 (by decide) (by decide)
 unfold zU at h hn
 have w1:sa.wrap (sa.wrap (n+cS x.l 5000 0)+min (x.bs.length:Int) 5000)=n+(cS x.l 5000 0+min (x.bs.length:Int) 5000):=by rw[bA (n:=n+cS x.l 5000 0) (by omega) (by omega),adl];exact bA (by omega) (by omega)
 refine ah aI (zQ M 5000 n i (cS x.l 5000 0)) ?_
 simp only[wP,bu,aA.ok,isStr,aQ,bh,az,aR,an,aM,acN,UT,UU,c12,hd,w,cond_true,cond_false,ac7,ade,w1]
 exact⟨fun _=>⟨hc,(by first | rfl | (simp only[dp,decide_eq_true_eq];omega)),h⟩,fun q=>(by cases q)⟩
theorem P2 (M:Mo) (o:Out) (n:Int) (h:bD ae env (fG M 9 n 0) o):bD ae env (fG M 7 n M.aY.length) o:=by
 have hd:decide ((M.aY.length:Int)<(M.aY.length:Int))=false:=decide_eq_false (by omega)
 refine ah aI (zQ M 5000 n M.aY.length 0) ?_
 simp only[wP,bu,aA.ok,hd]
 exact⟨fun q=>(by cases q),fun _=>h⟩
theorem M4 (M:Mo) (hM:M.wf) (h5:M.aZ.length≤5000) (o:Out) (n:Int) (i:Nat) (x:Im) (hx:M.aZ[i]? = some x) (h0:0≤n) (hn:n+IJ x≤1000000000000000) (h:bD ae env (fG M 9 (n+IJ x) (i+1)) o):bD ae env (fG M 9 n i) o:=by
 have hi:i<M.aZ.length:=(ee.1 hx).1
 have c:=aU (z:=3) (enc:=bp) (fun _=>rfl) hx
 have UT:(M.aZ.flatMap bp).getD (i*3) .bk = .sc (.string x.mo):=c 0 (by decide)
 have UU:(M.aZ.flatMap bp).getD (i*3+0) .bk = .sc (.string x.mo):=c 0 (by decide)
 have c12:(M.aZ.flatMap bp).getD (i*3+1) .bk = .sc (.string x.nm):=c 1 (by decide)
 have w:sa.wrap ((i:Int)+1)=((i+1:Nat):Int):=by rw[bA (by omega) (by omega)];rfl
 have hd:decide ((i:Int)<(M.aZ.length:Int))=true:=decide_eq_true (by omega)
 unfold IJ at h hn
 have w1:sa.wrap (sa.wrap (n+min (x.mo.data.toList.length:Int) 5000)+min (x.nm.data.toList.length:Int) 5000)=n+(min (x.mo.data.toList.length:Int) 5000+min (x.nm.data.toList.length:Int) 5000):=by rw[bA (n:=n+min (x.mo.data.toList.length:Int) 5000) (by omega) (by omega),adl];exact bA (by omega) (by omega)
 refine ah aI (zR M 5000 n i 0) ?_
 simp only[wQ,bu,aA.ok,isStr,aQ,bh,az,aR,an,aM,acN,UT,UU,c12,hd,w,cond_true,cond_false,ac7,ade,w1]
 exact⟨fun _=>⟨(by first | rfl | (simp only[dp,decide_eq_true_eq];omega)),h⟩,fun q=>(by cases q)⟩
theorem P3 (M:Mo) (o:Out) (n:Int) (h:bD ae env (fG M 11 n 0) o):bD ae env (fG M 9 n M.aZ.length) o:=by
 have hd:decide ((M.aZ.length:Int)<(M.aZ.length:Int))=false:=decide_eq_false (by omega)
 refine ah aI (zR M 5000 n M.aZ.length 0) ?_
 simp only[wQ,bu,aA.ok,hd]
 exact⟨fun q=>(by cases q),fun _=>h⟩
theorem M5 (M:Mo) (hM:M.wf) (h5:M.exs.length≤5000) (o:Out) (n:Int) (i:Nat) (x:Ex) (hx:M.exs[i]? = some x) (h0:0≤n) (hn:n+RF x≤1000000000000000) (h:bD ae env (fG M 11 (n+RF x) (i+1)) o):bD ae env (fG M 11 n i) o:=by
 have hi:i<M.exs.length:=(ee.1 hx).1
 have c:=aU (z:=3) (enc:=bB) (fun _=>rfl) hx
 have UT:(M.exs.flatMap bB).getD (i*3) .bk = .sc (.string x.nm):=c 0 (by decide)
 have UU:(M.exs.flatMap bB).getD (i*3+0) .bk = .sc (.string x.nm):=c 0 (by decide)
 have w:sa.wrap ((i:Int)+1)=((i+1:Nat):Int):=by rw[bA (by omega) (by omega)];rfl
 have hd:decide ((i:Int)<(M.exs.length:Int))=true:=decide_eq_true (by omega)
 unfold RF at h hn
 have w1:sa.wrap (n+min (x.nm.data.toList.length:Int) 5000)=n+min (x.nm.data.toList.length:Int) 5000:=bA (by omega) (by omega)
 refine ah aI (zS M 5000 n i 0) ?_
 simp only[wR,bu,aA.ok,isStr,aQ,bh,az,aR,an,aM,acN,UT,UU,hd,w,cond_true,cond_false,ac7,ade,w1]
 exact⟨fun _=>⟨(by first | rfl | (simp only[dp,decide_eq_true_eq];omega)),(by first | rfl | trivial),h⟩,fun q=>(by cases q)⟩
theorem P4 (M:Mo) (o:Out) (n:Int) (h:Out.ret (sB (decide (n>5000))) []=o):bD ae env (fG M 11 n M.exs.length) o:=by
 have hd:decide ((M.exs.length:Int)<(M.exs.length:Int))=false:=decide_eq_false (by omega)
 refine ah aI (zS M 5000 n M.exs.length 0) ?_
 simp only[wR,bu,aA.ok,hd]
 exact⟨fun q=>(by cases q),fun _=>h⟩
def lens (M:Mo):Int:=M.tys.length+M.aZ.length+M.fns.length+M.dh.length+M.dw.length+M.gls.length+M.exs.length+M.els.length+M.aY.length
def Dl (M:Mo):Int:=bE RF (bE IJ (bE zU (bE rW (bE nW (bE lu (lens M) M.fns) M.gls) M.els) M.aY) M.aZ) M.exs
def iy (M:Mo):Bool:=if lens M>5000 then true else decide (Dl M>5000)
def _root_.Go.Am.Mo.short (M:Mo):Prop:=M.tys.length≤1000000000000000∧M.aZ.length≤1000000000000000∧M.fns.length≤1000000000000000∧M.dh.length≤1000000000000000∧M.dw.length≤1000000000000000∧M.gls.length≤1000000000000000∧M.exs.length≤1000000000000000∧M.els.length≤1000000000000000∧M.aY.length≤1000000000000000
theorem wX (M:Mo) (hw:M.wf) (hs:M.short):au ae env 6 [.agg (M.aJ.map .p),sI .i64 5000] [] (sB (iy M)) []:=by
 obtain⟨s1,s2,s3,s4,s5,s6,s7,s8,s9⟩:=hs
 have e:sa.wrap (sa.wrap (sa.wrap (sa.wrap (sa.wrap (sa.wrap (sa.wrap (sa.wrap ((M.tys.length:Int)+M.aZ.length)+M.fns.length)+M.dh.length)+M.dw.length)+M.gls.length)+M.exs.length)+M.els.length)+M.aY.length)=lens M:=by
  unfold lens
  rw[bA (n:=(M.tys.length:Int)+M.aZ.length) (by omega) (by omega),bA (n:=(M.tys.length:Int)+M.aZ.length+M.fns.length) (by omega) (by omega),bA (n:=(M.tys.length:Int)+M.aZ.length+M.fns.length+M.dh.length) (by omega) (by omega),
   bA (n:=(M.tys.length:Int)+M.aZ.length+M.fns.length+M.dh.length+M.dw.length) (by omega) (by omega),bA (n:=(M.tys.length:Int)+M.aZ.length+M.fns.length+M.dh.length+M.dw.length+M.gls.length) (by omega) (by omega),
   bA (n:=(M.tys.length:Int)+M.aZ.length+M.fns.length+M.dh.length+M.dw.length+M.gls.length+M.exs.length) (by omega) (by omega),bA (n:=(M.tys.length:Int)+M.aZ.length+M.fns.length+M.dh.length+M.dw.length+M.gls.length+M.exs.length+M.els.length) (by omega) (by omega),bA (by omega) (by omega)]
 refine aa aI (MX M 5000) ?_
 simp only[G1,bu,aA.ok,e]
 refine⟨fun q=> ?_,fun q=> ?_⟩
 · have q:lens M>5000:=by simpa using q
   rw[iy,if_pos q]
 · have q : ¬lens M>5000:=by simpa using q
   have hl:0≤lens M:=by unfold lens;omega
   rw[iy,if_neg q]
   have q:lens M≤5000:=by omega
   have l1:M.fns.length≤5000:=by unfold lens at q;omega
   have l2:M.gls.length≤5000:=by unfold lens at q;omega
   have l3:M.els.length≤5000:=by unfold lens at q;omega
   have l4:M.aY.length≤5000:=by unfold lens at q;omega
   have l5:M.aZ.length≤5000:=by unfold lens at q;omega
   have l6:M.exs.length≤5000:=by unfold lens at q;omega
   have r1:=bM wT M.fns (lens M)
   have r2:=bM wU M.gls (bE lu (lens M) M.fns)
   have r3:=bM wV M.els (bE nW (bE lu (lens M) M.fns) M.gls)
   have r4:=bM wW M.aY (bE rW (bE nW (bE lu (lens M) M.fns) M.gls) M.els)
   have r5:=bM zV M.aZ (bE zU (bE rW (bE nW (bE lu (lens M) M.fns) M.gls) M.els) M.aY)
   have k6:=nY Dk (M5 M hw l6 (.ret (sB (decide (Dl M>5000))) [])) (P4 M _) M.exs.length 0 (bE IJ (bE zU (bE rW (bE nW (bE lu (lens M) M.fns) M.gls) M.els) M.aY) M.aZ) (by omega) (by omega) (by omega) rfl
   have k5:=nY zV (M4 M hw l5 _) (P3 M _) M.aZ.length 0 (bE zU (bE rW (bE nW (bE lu (lens M) M.fns) M.gls) M.els) M.aY) (by omega) (by omega) (by omega) k6
   have k4:=nY wW (M3 M hw l4 _) (P2 M _) M.aY.length 0 (bE rW (bE nW (bE lu (lens M) M.fns) M.gls) M.els) (by omega) (by omega) (by omega) k5
   have k3:=nY wV (M1 M hw l3 _) (P1 M _) M.els.length 0 (bE nW (bE lu (lens M) M.fns) M.gls) (by omega) (by omega) (by omega) k4
   have k2:=nY wU (M0 M hw l2 _) (P0 M _) M.gls.length 0 (bE lu (lens M) M.fns) (by omega) (by omega) (by omega) k3
   have k1:=nY wT (MZ M hw l1 _) (PZ M _) M.fns.length 0 (lens M) (by omega) (by omega) (by omega) k2
   exact k1
theorem rX {M:Mo} (h:iy M=false):M.fit∧M.IC∧lens M≤5000:=by
 unfold iy at h
 split at h
 · cases h
 rename_i q
 have h : ¬Dl M>5000:=by simpa using h
 have q:lens M≤5000:=by omega
 have q':=q
 unfold lens at q'
 have r1:=bM wT M.fns (lens M)
 have r2:=bM wU M.gls (bE lu (lens M) M.fns)
 have r3:=bM wV M.els (bE nW (bE lu (lens M) M.fns) M.gls)
 have r4:=bM wW M.aY (bE rW (bE nW (bE lu (lens M) M.fns) M.gls) M.els)
 have r5:=bM zV M.aZ (bE zU (bE rW (bE nW (bE lu (lens M) M.fns) M.gls) M.els) M.aY)
 have r6:=bM Dk M.exs (bE IJ (bE zU (bE rW (bE nW (bE lu (lens M) M.fns) M.gls) M.els) M.aY) M.aZ)
 unfold Dl at h
 have hl:0≤lens M:=by unfold lens;omega
 have cnt : ∀l:List Ins,cS l 5000 0≤5000→dZ l≤100000000000:=fun l hl=>by
  have:=nu l 5000 0 (by decide) (by decide) hl
  have:=nv l
  omega
 refine⟨⟨by omega,by omega,by omega,by omega,by omega,by omega,by omega,by omega,by omega⟩,fun l hm=> ?_,q⟩
 simp only[xy,oE,fi] at hm
 rcases hm with((⟨x,hx,rfl⟩ | ⟨x,hx,rfl⟩) | ⟨x,hx,rfl⟩) | ⟨x,hx,rfl⟩
 · have:=gQ wT M.fns (lens M) x hx
   exact cnt _ (by have e:lu x=cS x.l 5000 0:=rfl;omega)
 · have:=gQ wU M.gls (bE lu (lens M) M.fns) x hx
   exact cnt _ (by have e:nW x=cS x.l 5000 0:=rfl;omega)
 · have:=gQ wV M.els (bE nW (bE lu (lens M) M.fns) M.gls) x hx
   exact cnt _ (by have e:rW x=cS x.l 5000 0+min (x.fs.length:Int) 5000:=rfl;omega)
 · have:=gQ wW M.aY (bE rW (bE nW (bE lu (lens M) M.fns) M.gls) M.els) x hx
   exact cnt _ (by have e:zU x=cS x.l 5000 0+min (x.bs.length:Int) 5000:=rfl;omega)
end Go.Proofs.YtncncijedmfpjaaGreatDoor.N
end
section
namespace Go.Proofs.YtncncijedmfpjaaGreatDoor.N
open Go Go.Am
def eU (n:Int):List Nat:=pU 4 n.toNat
def eV (n:Int):List Nat:=eU (IntKind.u32.wrap n)
def IK (n:Int):List Nat:=eV n++List.replicate n.toNat 127
def Bn (x:Ty):List Nat:=if BQ x=0 then 96::(IK x.p++IK x.r) else[]
def ya (s:ByteArray):List Nat:=s.data.toList.map UInt8.toNat
def l9 (s:ByteArray):Int:=if s.data.toList.length>1048576 then 3 else if Dg s≥0 then 4 else 0
def Bo (s:ByteArray):List Nat:=if l9 s=0 then eV s.data.toList.length++ya s else[]
def zW (most:Int) (x:Li):List Nat:=if zJ most x=0 then(if x.cap=true then 1::(eU x.mn++eU x.mx) else 0::eU x.mn) else[]
def JF (x:Im):List Nat:=Bo x.mo++Bo x.nm++[0]++eV x.ty
def JG (x:Fu):List Nat:=eV x.ty
def JH (x:Li):List Nat:=[112]++zW 1048576 x
def M6 (x:Li):List Nat:=zW 65536 x
def JI (x:Gl):List Nat:=[127,if x.mu=true then 1 else 0]++pz x.l
def JK (x:Ex):List Nat:=Bo x.nm++[(x.kind%256).toNat]++eU x.ix
def JL (x:El):List Nat:=[0]++pz x.l++eV x.fs.length++x.fs.flatMap eU
def BR (x:Fu):List Nat:=eV (wg x.lo x.l).length++wg x.lo x.l
def JM (x:Da):List Nat:=[0]++pz x.l++eV x.bs.length++x.bs.map Int.toNat
def nZ {α:Type} (l:List α) (e:α→List Nat):List Nat:=if l.length=0 then[] else eV l.length++l.flatMap e
def sec (M:Mo):Nat→List Nat
 |1=>nZ M.tys Bn
 |2=>nZ M.aZ JF
 |3=>nZ M.fns JG
 |4=>nZ M.dh JH
 |5=>nZ M.dw M6
 |6=>nZ M.gls JI
 |7=>nZ M.exs JK
 |8=>if M.st=true then eU M.sn else[]
 |9=>nZ M.els JL
 |10=>nZ M.fns BR
 |11=>nZ M.aY JM
 |_=>[]
def gx (M:Mo) (d:Nat):List Nat:=if(sec M d).length=0 then[] else[d]++eV (sec M d).length++sec M d
def nB:List Nat:=[0,97,115,109,1,0,0,0]
def qV (M:Mo) (d:Nat):List Nat:=nB++(List.range' 1 d).flatMap (gx M)
def gW (M:Mo):List Nat:=qV M 11
def mC (M:Mo):Int:=if lq M≠0 then lq M else if(gW M).length>1048576 then 3 else 0
def jQ (M:Mo):List Nat:=if mC M=0 then gW M else[]
theorem qD (M:Mo) (d:Nat):qV M (d+1)=qV M d++gx M (d+1):=by
 unfold qV
 rw[List.range'_concat,List.flatMap_append,List.append_assoc]
 simp[Nat.add_comm]
end Go.Proofs.YtncncijedmfpjaaGreatDoor.N
end
section
namespace Go.Proofs.YtncncijedmfpjaaGreatDoor.N
open Go Go.Am
abbrev mV (M:Mo):List AV:=M.aJ.map .p
def wrG (f d:Nat):Bool:=wrs f d||(bj f 19&&bj d 9)||(bj f 20&&bj d 10)||(bj f 85&&bj d 16)||(bj f 91&&bj d 16)||(bj f 88&&bj d 19)
def bF:Env where
 dS:=sS tabs
 wr:=wrG
 keep:=E5 keeps
end Go.Proofs.YtncncijedmfpjaaGreatDoor.N
end
section
namespace Go.Am
open Go.RowKit
section
variable {P:Program} {E:Env} {g:Gh} {m:Mem} {w:World}
theorem cX : ∀l:List PV,allBy (l.map .p)=l.all isByte
 |[]=>rfl
 |v::l=>by simp[allBy,Ri,cX l]
theorem allBy_append : ∀a b:List AV,allBy (a++b)=(allBy a&&allBy b)
 |[],b=>by simp[allBy]
 |x::a,b=>by simp[allBy,allBy_append a b,Bool.and_assoc]
theorem au.M7 {f:FuncId} {args:List AV} {n:Nat} {t:TypeId} {X:List PV} {u:PV} (h:au P E f args [] (.aK [.ms 0 0 n 1 none,.p u]) [.ob (.gb t) (X.map .p)]) (hn:n=X.length):au P E f args [] (.aK [.p (.ps n 1 X),.p u]) []:=by
 obtain⟨hf,h⟩:=h
 refine⟨hf,fun g w cV cs hr hv hg=> ?_⟩
 obtain⟨w',g',cv,fr,s1,s2,s3,s4,s5,s6,s7,s8⟩:=h g w cV cs hr hv hg
 cases s4 with
 |aK _ cs' hl hcs=>
 match HC:cs'.toList,hl with
 |[a,b],_=>
  have ha:VA g' w' (.ms 0 0 n 1 none) a:=by
   have:=hcs 0 (by simp) (by rw[HC];simp)
   simpa[HC] using this
  have hb:VA g' w' (.p u) b:=by
   have:=hcs 1 (by simp) (by rw[HC];simp)
   simpa[HC] using this
  cases ha with
  |mg _ _ _ _ cap c hc hcap hroom=>
  obtain⟨c',ob,vs,k1,k2,k3,k4,k5,k6⟩:=s5.obs 0 _ _ rfl
  rw[hc] at k1;cases k1
  obtain⟨cells,e,q,rfl,_,q0,q1,q2,q3,_⟩:=k4
  have hlen:=k3.len
  rw[List.length_map] at hlen
  have hpu : ∀o,o<n → ∃v,w'.cell? ⟨c,o,none⟩=some v:=fun o ho=>by
   rw[aS k2]
   exact⟨_,hZ (by omega)⟩
  refine⟨w',bare fun c' o=>g'.pure c' o∨(c'=c∧o<n),.tuple cs',fr,s1,s2,s3,?_,Rel.bare ?_,⟨s6.size,s6.keep,fun c' o p=>⟨Or.inl (s6.pure c' o p).1,(s6.pure c' o p).2⟩,fun c' o p=> ?_,fun c' ho=> ?_,s6.os,s6.tape,s6.output⟩,fun k c' hk=>absurd hk (Nat.not_lt_zero _),dd _⟩
  · refine VA.mA.2 ?_
    rw[HC]
    have hat : ∀k,k<X.length→cells[k]? = some ((cells[k]?).getD undef):=fun k hk=>by
     rw[hZ (by omega)];rfl
    refine⟨.p _ _ (.ps n 1 X c 0 cap (fun k=>(cells[k]?).getD undef) (by omega) hcap (dd _) (fun k hk=>⟨Or.inr ⟨rfl,by omega⟩,?_,?_⟩) fun k hk=> ?_),?_,trivial⟩
    · rw[aS k2,Nat.zero_add];exact hat k hk
    · have hk':k<cells.size:=by omega
      obtain⟨j,hj⟩:=q3 cells[k] (by simp)
      rw[hZ hk']
      show(cells[k]).oneCell'=true
      rw[hj];rfl
    · have hkv:k<vs.length:=by omega
      have hk':k<cells.size:=by omega
      have h1:=k3.get k (by simpa using hk) hkv
      rw[List.getElem_map,VA.pv] at h1
      have e1:vs[k]? = some cells[k]:=by
       rw[q1,List.getElem?_take,if_pos hkv]
       simp[hk']
      rw[de hkv] at e1
      rw[Option.some.inj e1] at h1
      rw[hZ hk']
      exact h1.mono fun _ _ p=>⟨Or.inl p,rfl⟩
    · rw[VA.pv] at hb
      exact .p _ _ (hb.mono fun _ _ p=>⟨Or.inl p,rfl⟩)
  · rintro c' o (p | ⟨rfl,p⟩)
    · exact s5.there c' o p
    · exact hpu o p
  · rcases p with p | ⟨rfl,_⟩
    · exact s6.fresh c' o p
    · exact(s6.owned c' ⟨0,_,rfl,rfl,hc⟩).elim (fun q=> .inr (.inl q)) fun q=> .inr (.inr q)
  · obtain⟨i,b,hi,_⟩:=ho
    cases hi
end
end Go.Am
end
section
set_option linter.unusedSimpArgs false
set_option linter.unusedVariables false
namespace Go.Proofs.YtncncijedmfpjaaGreatDoor.N
open Go Go.Am
end Go.Proofs.YtncncijedmfpjaaGreatDoor.N
end
section
set_option linter.unusedSimpArgs false
set_option linter.unusedVariables false
namespace Go.Proofs.YtncncijedmfpjaaGreatDoor.N
open Go Go.Am
section
variable (s:ByteArray)
def goes (j:Nat):Bool:=decide (j<s.data.toList.length)&&(decide (128≤bK s j)&&decide (bK s j<192))
def part (j:Nat):Int:=if goes s j=true then(bK s j:Int)-128 else 0
end
end Go.Proofs.YtncncijedmfpjaaGreatDoor.N
end
