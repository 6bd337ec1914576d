import Derived.Test.YtdmmllcjgjmbbaaGreatDoorMH
import Derived.Test.YtdmmllcjgjmbbaaGreatDoorMK
import Derived.Test.YtdmmllcjgjmbbaaGreatDoorMM
import Derived.Test.YtdmmllcjgjmbbaaGreatDoorMJ
import Derived.Test.YtdmmllcjgjmbbaaGreatDoorML
open Go.Proofs.Tryz renaming prog→acb
open Go.Value renaming int→sT
open Go.IntKind renaming i64→sb,u32→abY,u64→ae6
open Min renaming min→aco
open Max renaming max→acx
open List renaming flatMap→aem,getElem?_eq_getElem→cb,getElem?_eq_some_iff→dp,mem_of_getElem?→mb,drop_eq_getElem_cons→aeT,getElem?_eq_none→dt,drop_length→aeU,mem_append→na,mem_cons→mv,mem_map→eh,map→ab6
open Int renaming toNat_natCast→acy,add_assoc→ae7
open Bool renaming and_true→aeq,and_eq_true→c8,true_and→aeM,false_eq_true→pb,true_eq_false→ae5,true_or→ae8,or_true→ae9,or_false→afa
open Nat renaming le_refl→bx
open True renaming intro→adV
noncomputable section
section
set_option linter.unusedSimpArgs false
set_option linter.unusedVariables false
namespace Go.Proofs.YtdmmllcjgjmbbaaGreatDoor.N
open Go Go.Am
def R0 (_:List Ins) (_ _ _:Int) (R:List AV→Int) (f:FuncId) (args:List AV) (m:Mem):Option (AV×Mem):=cond (Nat.beq f 23) (some (sI .i64 (R args),m)) none
def WR:bH:=aT aH aA [(23,0)] [] []
def aaH:Sc:= .fin
def R8 (l:List Ins) (most:Int):az:=
 (.at (ak acb env 23 0 [AV.p (PV.ps l.length 8 (aq l)),AV.p (PV.sc (sT sb most)),AV.p (PV.sc (sT sb 0)),AV.p (PV.sc (sT sb 0))] ([]) 0 58))
theorem Oe (l:List Ins) (most:Int):aG acb env WR 1000000 23 ([aL l,sI sb most]) ([]) aaH=R8 l most:=by kernel_rfl
def R9 (l:List Ins) (most:Int) (n:Int) (i:Int) (R:List AV→Int):bH:=aT (R0 l most n i R) aA [(23,0)] [(23,4,5),(23,0,1),(23,0,2),(23,0,3)] [(23,6,4),(23,6,6),(23,8,3),(23,8,5),(23,10,3),(23,10,5)]
def WS:Sc:=(.fork (.fork (.fork .fin (.no .fin)) .fin) (.lit .fin))
def yq (l:List Ins) (most:Int) (n:Int) (i:Int) (R:List AV→Int):az:=
 (.test (decide (i<(↑l.length:Int)))
  (.test (decide (n≤most))
   (.must (aW i l.length&&true&&true)
    (.must (bB (aF (aq l) (i.toNat*8+5))&&true)
     (.test (decide (sb.wrap (sb.wrap (n+1)+bif true then aco (↑(aE (aF (aq l) (i.toNat*8+5))):Int) most else acx (↑(aE (aF (aq l) (i.toNat*8+5))):Int) most)≤most))
      (.must (aW i l.length&&true&&true)
       (.must (bB (aF (aq l) (i.toNat*8+6))&&true)
        (.call ⟨23,[AV.p (PV.ps (aE (aF (aq l) (i.toNat*8+6))) (bC (aF (aq l) (i.toNat*8+6))) (aB (aF (aq l) (i.toNat*8+6)))),AV.p (PV.sc (sT sb (sb.wrap (most-sb.wrap (sb.wrap (n+1)+bif true then aco (↑(aE (aF (aq l) (i.toNat*8+5))):Int) most else acx (↑(aE (aF (aq l) (i.toNat*8+5))):Int) most)))))],[],AV.p (PV.sc (sT sb (R [AV.p (PV.ps (aE (aF (aq l) (i.toNat*8+6))) (bC (aF (aq l) (i.toNat*8+6))) (aB (aF (aq l) (i.toNat*8+6)))),AV.p (PV.sc (sT sb (sb.wrap (most-sb.wrap (sb.wrap (n+1)+bif true then aco (↑(aE (aF (aq l) (i.toNat*8+5))):Int) most else acx (↑(aE (aF (aq l) (i.toNat*8+5))):Int) most)))))]))),[]⟩
         (.test (decide (sb.wrap (sb.wrap (sb.wrap (n+1)+bif true then aco (↑(aE (aF (aq l) (i.toNat*8+5))):Int) most else acx (↑(aE (aF (aq l) (i.toNat*8+5))):Int) most)+R [AV.p (PV.ps (aE (aF (aq l) (i.toNat*8+6))) (bC (aF (aq l) (i.toNat*8+6))) (aB (aF (aq l) (i.toNat*8+6)))),AV.p (PV.sc (sT sb (sb.wrap (most-sb.wrap (sb.wrap (n+1)+bif true then aco (↑(aE (aF (aq l) (i.toNat*8+5))):Int) most else acx (↑(aE (aF (aq l) (i.toNat*8+5))):Int) most)))))])≤most))
          (.must (aW i l.length&&true&&true)
           (.must (bB (aF (aq l) (i.toNat*8+7))&&true)
            (.call ⟨23,[AV.p (PV.ps (aE (aF (aq l) (i.toNat*8+7))) (bC (aF (aq l) (i.toNat*8+7))) (aB (aF (aq l) (i.toNat*8+7)))),AV.p (PV.sc (sT sb (sb.wrap (most-sb.wrap (sb.wrap (sb.wrap (n+1)+bif true then aco (↑(aE (aF (aq l) (i.toNat*8+5))):Int) most else acx (↑(aE (aF (aq l) (i.toNat*8+5))):Int) most)+R [AV.p (PV.ps (aE (aF (aq l) (i.toNat*8+6))) (bC (aF (aq l) (i.toNat*8+6))) (aB (aF (aq l) (i.toNat*8+6)))),AV.p (PV.sc (sT sb (sb.wrap (most-sb.wrap (sb.wrap (n+1)+bif true then aco (↑(aE (aF (aq l) (i.toNat*8+5))):Int) most else acx (↑(aE (aF (aq l) (i.toNat*8+5))):Int) most)))))])))))],[],AV.p (PV.sc (sT sb (R [AV.p (PV.ps (aE (aF (aq l) (i.toNat*8+7))) (bC (aF (aq l) (i.toNat*8+7))) (aB (aF (aq l) (i.toNat*8+7)))),AV.p (PV.sc (sT sb (sb.wrap (most-sb.wrap (sb.wrap (sb.wrap (n+1)+bif true then aco (↑(aE (aF (aq l) (i.toNat*8+5))):Int) most else acx (↑(aE (aF (aq l) (i.toNat*8+5))):Int) most)+R [AV.p (PV.ps (aE (aF (aq l) (i.toNat*8+6))) (bC (aF (aq l) (i.toNat*8+6))) (aB (aF (aq l) (i.toNat*8+6)))),AV.p (PV.sc (sT sb (sb.wrap (most-sb.wrap (sb.wrap (n+1)+bif true then aco (↑(aE (aF (aq l) (i.toNat*8+5))):Int) most else acx (↑(aE (aF (aq l) (i.toNat*8+5))):Int) most)))))])))))]))),[]⟩
             (.at (ak acb env 23 0 [AV.p (PV.ps l.length 8 (aq l)),AV.p (PV.sc (sT sb most)),AV.p (PV.sc (sT sb (sb.wrap (sb.wrap (sb.wrap (sb.wrap (n+1)+bif true then aco (↑(aE (aF (aq l) (i.toNat*8+5))):Int) most else acx (↑(aE (aF (aq l) (i.toNat*8+5))):Int) most)+R [AV.p (PV.ps (aE (aF (aq l) (i.toNat*8+6))) (bC (aF (aq l) (i.toNat*8+6))) (aB (aF (aq l) (i.toNat*8+6)))),AV.p (PV.sc (sT sb (sb.wrap (most-sb.wrap (sb.wrap (n+1)+bif true then aco (↑(aE (aF (aq l) (i.toNat*8+5))):Int) most else acx (↑(aE (aF (aq l) (i.toNat*8+5))):Int) most)))))])+R [AV.p (PV.ps (aE (aF (aq l) (i.toNat*8+7))) (bC (aF (aq l) (i.toNat*8+7))) (aB (aF (aq l) (i.toNat*8+7)))),AV.p (PV.sc (sT sb (sb.wrap (most-sb.wrap (sb.wrap (sb.wrap (n+1)+bif true then aco (↑(aE (aF (aq l) (i.toNat*8+5))):Int) most else acx (↑(aE (aF (aq l) (i.toNat*8+5))):Int) most)+R [AV.p (PV.ps (aE (aF (aq l) (i.toNat*8+6))) (bC (aF (aq l) (i.toNat*8+6))) (aB (aF (aq l) (i.toNat*8+6)))),AV.p (PV.sc (sT sb (sb.wrap (most-sb.wrap (sb.wrap (n+1)+bif true then aco (↑(aE (aF (aq l) (i.toNat*8+5))):Int) most else acx (↑(aE (aF (aq l) (i.toNat*8+5))):Int) most)))))])))))])))),AV.p (PV.sc (sT sb (sb.wrap (i+1))))] ([]) 0 58)))))
          (.at (ak acb env 23 0 [AV.p (PV.ps l.length 8 (aq l)),AV.p (PV.sc (sT sb most)),AV.p (PV.sc (sT sb (sb.wrap (sb.wrap (sb.wrap (n+1)+bif true then aco (↑(aE (aF (aq l) (i.toNat*8+5))):Int) most else acx (↑(aE (aF (aq l) (i.toNat*8+5))):Int) most)+R [AV.p (PV.ps (aE (aF (aq l) (i.toNat*8+6))) (bC (aF (aq l) (i.toNat*8+6))) (aB (aF (aq l) (i.toNat*8+6)))),AV.p (PV.sc (sT sb (sb.wrap (most-sb.wrap (sb.wrap (n+1)+bif true then aco (↑(aE (aF (aq l) (i.toNat*8+5))):Int) most else acx (↑(aE (aF (aq l) (i.toNat*8+5))):Int) most)))))])))),AV.p (PV.sc (sT sb (sb.wrap (i+1))))] ([]) 0 58))))))
      (.must (!(decide (sb.wrap (sb.wrap (n+1)+bif true then aco (↑(aE (aF (aq l) (i.toNat*8+5))):Int) most else acx (↑(aE (aF (aq l) (i.toNat*8+5))):Int) most)≤most)))
       (.at (ak acb env 23 0 [AV.p (PV.ps l.length 8 (aq l)),AV.p (PV.sc (sT sb most)),AV.p (PV.sc (sT sb (sb.wrap (sb.wrap (n+1)+bif true then aco (↑(aE (aF (aq l) (i.toNat*8+5))):Int) most else acx (↑(aE (aF (aq l) (i.toNat*8+5))):Int) most)))),AV.p (PV.sc (sT sb (sb.wrap (i+1))))] ([]) 0 58))))))
   (.out (Out.ret (AV.p (PV.sc (sT sb n))) [])))
  (.out (Out.ret (AV.p (PV.sc (sT sb n))) [])))
theorem A4 (l:List Ins) (most:Int) (n:Int) (i:Int) (R:List AV→Int):grow acb env (R9 l most n i R) 1000000 true (ak acb env 23 0 ([aL l,sI sb most,sI sb n,sI sb i]) ([]) 0 58) WS atEnd=yq l most n i R:=by kernel_rfl
theorem Es (R:List AV→Int) (hR : ∀l most,R [aL l,sI .i64 most]=dn l most 0) (l:List Ins) (most:Int) (h0:0≤most) (hm:most≤1000000000000) (hl:l.length≤maxLen)
  (IH : ∀x∈l,∀m':Int,0≤m'→m'≤most→an acb env 23 [aL x.l,sI .i64 m'] [] (sI .i64 (dn x.l m' 0)) []∧an acb env 23 [aL x.e,sI .i64 m'] [] (sI .i64 (dn x.e m' 0)) []) :
  ∀(r k:Nat) (n:Int),k+r=l.length→0≤n→n≤2*most+1→cO acb env (ak acb env 23 0 [aL l,sI .i64 most,sI .i64 n,sI .i64 k] [] 0 58) (.ret (sI .i64 (dn (l.drop k) most n)) []):=by
 intro r
 induction r with
 |zero=>
  intro k n hk hn0 hn
  refine aj aM (A4 l most n k R) ?_
  have h1:l.drop k=[]:=List.drop_eq_nil_of_le (by omega)
  have h2 : ¬((k:Int)<l.length):=by omega
  simp[yq,bF,az.ok,h1,h2,dn]
 |succ r ih=>
  intro k n hk hn0 hn
  refine aj aM (A4 l most n k R) ?_
  have Aj:k<l.length:=by omega
  have U0:l[k]? = some l[k]:=cb Aj
  have hmem:l[k]∈l:=List.getElem_mem Aj
  have hd:l.drop k=l[k]::l.drop (k+1):=aeT Aj
  rw[hd]
  generalize l[k]=x at *
  obtain⟨op,rs,a,b,nn,tags,ll,le⟩:=x
  have hc:=tJ U0
  have c5:(aq l).getD (k*8+5) .bw = .ps tags.length 1 (dZ .u32 tags):=hc 5 (by omega)
  have c6:(aq l).getD (k*8+6) .bw = .ps ll.length 8 (aq ll):=hc 6 (by omega)
  have c7:(aq l).getD (k*8+7) .bw = .ps le.length 8 (aq le):=hc 7 (by omega)
  have hML:maxLen=9223372036854775807:=rfl
  have hw:sb.wrap ((k:Int)+1)=((k+1:Nat):Int):=by rw[aN (by omega) (by omega)];rfl
  have hw1:sb.wrap (n+1)=n+1:=aN (by omega) (by omega)
  have hkI:(k:Int)<(l.length:Int):=by omega
  simp only[yq,bF,az.ok,c5,c6,c7,aE,bC,aB,bB,acy,aW,cond_true,hw,hw1]
  refine⟨fun _=>⟨fun hnm=>⟨by simp[hkI],rfl,?_⟩,fun hnm=> ?_⟩,fun h=>absurd hkI (by simpa using h)⟩
  · have hnm:n≤most:=by simpa using hnm
    have WT:=IH _ hmem
    simp only[dn,if_pos hnm,xO,Ins.l,Ins.e] at WT ⊢
    generalize hn1:n+1+min (tags.length:Int) most=n1
    have HB:0≤n1∧n1≤2*most+1:=by omega
    have hw2:sb.wrap n1=n1:=aN (by omega) (by omega)
    simp only[hw2]
    have hw3:sb.wrap (most-n1)=most-n1:=aN (by omega) (by omega)
    simp only[hw3,hR]
    refine⟨fun h1=> ?_,fun h1=> ?_⟩
    · have h1:n1≤most:=by simpa using h1
      rw[if_pos h1]
      have hb:=bZ ll (most-n1) 0 (by omega) (by omega) (by omega)
      have hw4:sb.wrap (n1+dn ll (most-n1) 0)=n1+dn ll (most-n1) 0:=aN (by omega) (by omega)
      refine⟨by simp[hkI],rfl,(WT (most-n1) (by omega) (by omega)).1,?_⟩
      simp only[hw4]
      generalize hn2:n1+dn ll (most-n1) 0=n2
      have Yo:0≤n2∧n2≤2*most+1:=by omega
      have hw5:sb.wrap (most-n2)=most-n2:=aN (by omega) (by omega)
      simp only[hw5]
      refine⟨fun h2=> ?_,fun h2=> ?_⟩
      · have h2:n2≤most:=by simpa using h2
        rw[if_pos h2]
        have hb2:=bZ le (most-n2) 0 (by omega) (by omega) (by omega)
        have hw6:sb.wrap (n2+dn le (most-n2) 0)=n2+dn le (most-n2) 0:=aN (by omega) (by omega)
        refine⟨by simp[hkI],rfl,(WT (most-n2) (by omega) (by omega)).2,?_⟩
        simp only[hw6]
        exact ih (k+1) _ (by omega) (by omega) (by omega)
      · have h2 : ¬n2≤most:=by simpa using h2
        rw[if_neg h2]
        exact ih (k+1) n2 (by omega) (by omega) (by omega)
    · have h1 : ¬n1≤most:=by simpa using h1
      rw[if_neg h1,if_neg h1]
      refine⟨by simpa using h1,?_⟩
      exact ih (k+1) n1 (by omega) (by omega) (by omega)
  · have hnm : ¬n≤most:=by simpa using hnm
    simp only[dn,if_neg hnm]
theorem Mg {l m:List Ins} (h:aL l=aL m):l=m:=by
 simp only[AV.p.injEq,PV.ps.injEq] at h
 exact ot h.2.2
open Classical in
def WU (args:List AV):Int:=if h : ∃l most,args=[aL l,sI .i64 most] then dn h.choose h.choose_spec.choose 0 else 0
theorem Sa (l:List Ins) (most:Int):WU [aL l,sI .i64 most]=dn l most 0:=by
 have h : ∃l' most',[aL l,sI .i64 most]=[aL l',sI .i64 most']:=⟨l,most,rfl⟩
 have e:=h.choose_spec.choose_spec
 unfold WU
 rw[dif_pos h]
 have e1:=Mg (List.cons.inj e).1
 have e2:most=h.choose_spec.choose:=by
  have:=(List.cons.inj (List.cons.inj e).2).1
  simpa only[AV.p.injEq,PV.sc.injEq,Value.int.injEq,true_and] using this
 have e:(h.choose,h.choose_spec.choose)=(l,most):=by rw[Prod.mk.injEq];exact⟨e1.symm,e2.symm⟩
 exact congrArg (fun q:List Ins×Int=>dn q.1 q.2 0) e
theorem gU : ∀(N:Nat) (l:List Ins) (most:Int),ou l≤N→l.length≤maxLen→F0 l→0≤most→most≤1000000000000→an acb env 23 [aL l,sI .i64 most] [] (sI .i64 (dn l most 0)) []
 |N,l,most,hN,hl,hw,h0,hm=>by
  have IH : ∀x∈l,∀m':Int,0≤m'→m'≤most→an acb env 23 [aL x.l,sI .i64 m'] [] (sI .i64 (dn x.l m' 0)) []∧an acb env 23 [aL x.e,sI .i64 m'] [] (sI .i64 (dn x.e m' 0)) []:=by
   intro x hx m' h0' hm'
   have hc:=DZ hx
   have hwx:=Go.Am.rN hw hx
   obtain⟨op,rs,a,b,nn,tags,ll,le⟩:=x
   simp only[Cq] at hc
   simp only[QJ] at hwx
   match N,hN with
   |0,hN=>omega
   |N+1,hN=>exact⟨gU N ll m' (by omega) hwx.2.2.2.2.2.2.1.1 hwx.2.2.2.2.2.2.1.2 h0' (by omega),gU N le m' (by omega) hwx.2.2.2.2.2.2.2.1 hwx.2.2.2.2.2.2.2.2 h0' (by omega)⟩
  refine af aM (Oe l most) ?_
  have h:=Es WU Sa l most h0 hm hl IH l.length 0 0 (by omega) (by omega) (by omega)
  rw[List.drop_zero] at h
  exact h
end Go.Proofs.YtdmmllcjgjmbbaaGreatDoor.N
end
section
set_option linter.unusedSimpArgs false
set_option linter.unusedVariables false
namespace Go.Proofs.YtdmmllcjgjmbbaaGreatDoor.N
open Go Go.Am
def lrC (M:Mo) (most n:Int) (i:Nat) (r:Int) (_:Nat) (f:FuncId) (_:List AV) (m:Mem):Option (AV×Mem):=cond (Nat.beq f 23) (some (sI .i64 r,m)) none
def WV:bH:=aT aH aA [(6,1)] [(6,0,0)] []
def aaJ:Sc:= .fin
def Iy (M:Mo) (most:Int):az:=
 (.test (decide (sb.wrap (sb.wrap (sb.wrap (sb.wrap (sb.wrap (sb.wrap (sb.wrap (sb.wrap ((↑M.tys.length:Int)+(↑M.aQ.length:Int))+(↑M.fns.length:Int))+(↑M.fR.length:Int))+(↑M.gA.length:Int))+(↑M.gls.length:Int))+(↑M.exs.length:Int))+(↑M.els.length:Int))+(↑M.bk.length:Int))>most))
 F1
 (.at (ak acb env 6 1 [sI .i64 most,.mp 0 0,sI .i64 (sb.wrap (sb.wrap (sb.wrap (sb.wrap (sb.wrap (sb.wrap (sb.wrap (sb.wrap ((↑M.tys.length:Int)+(↑M.aQ.length:Int))+(↑M.fns.length:Int))+(↑M.fR.length:Int))+(↑M.gA.length:Int))+(↑M.gls.length:Int))+(↑M.exs.length:Int))+(↑M.els.length:Int))+(↑M.bk.length:Int))),sI .i64 0] ([.pc M.aI]) 0 188)))
theorem Of (M:Mo) (most:Int):aG acb env WV 1000000 6 ([AV.agg (ab6 AV.p M.aI),sI sb most]) ([]) aaJ=Iy M most:=by kernel_rfl
def Sb:bH:=aT aH aA [(6,1),(6,3)] [(6,0,2)] [(6,8,4),(6,8,7)]
def WW (M:Mo) (most n:Int) (i:Nat) (r:Int):Sc:=(.fork (.ans 23 (sI .i64 r) ([]) .fin) .fin)
def yu (M:Mo) (most n:Int) (i:Nat) (r:Int):az:=
 (.test (decide ((↑i:Int)<(↑M.fns.length:Int)))
 (.must (aW (↑i:Int) M.fns.length&&true&&true)
 (.must (bB (aF (aem bG M.fns) (aJ i*3+1+1))&&true)
 (.call ⟨23,[.p (.ps (aE (aF (aem bG M.fns) (aJ i*3+1+1))) (bC (aF (aem bG M.fns) (aJ i*3+1+1))) (aB (aF (aem bG M.fns) (aJ i*3+1+1)))),sI .i64 most],[],sI .i64 r,[]⟩
 (.at (ak acb env 6 1 [sI .i64 most,.mp 0 0,sI .i64 (sb.wrap (n+r)),sI .i64 (sb.wrap ((↑i:Int)+1))] ([.pc M.aI]) 0 188)))))
 (.at (ak acb env 6 3 [sI .i64 most,.mp 0 0,sI .i64 n,sI .i64 0] ([.pc M.aI]) 0 188)))
theorem A5 (M:Mo) (most n:Int) (i:Nat) (r:Int):grow acb env Sb 1000000 true (ak acb env 6 1 ([sI sb most,AV.mp 0 0,sI sb n,sI sb (↑i:Int)]) ([aU.pc M.aI]) 0 188) (WW M most n i r) atEnd=yu M most n i r:=by kernel_rfl
def Sd:bH:=aT aH aA [(6,3),(6,5)] [(6,0,4)] [(6,12,4),(6,12,6)]
def WX (M:Mo) (most n:Int) (i:Nat) (r:Int):Sc:=(.fork (.ans 23 (sI .i64 r) ([]) .fin) .fin)
def yw (M:Mo) (most n:Int) (i:Nat) (r:Int):az:=
 (.test (decide ((↑i:Int)<(↑M.gls.length:Int)))
 (.must (aW (↑i:Int) M.gls.length&&true&&true)
 (.must (bB (aF (aem dD M.gls) (aJ i*2+1))&&true)
 (.call ⟨23,[.p (.ps (aE (aF (aem dD M.gls) (aJ i*2+1))) (bC (aF (aem dD M.gls) (aJ i*2+1))) (aB (aF (aem dD M.gls) (aJ i*2+1)))),sI .i64 most],[],sI .i64 r,[]⟩
 (.at (ak acb env 6 3 [sI .i64 most,.mp 0 0,sI .i64 (sb.wrap (n+r)),sI .i64 (sb.wrap ((↑i:Int)+1))] ([.pc M.aI]) 0 188)))))
 (.at (ak acb env 6 5 [sI .i64 most,.mp 0 0,sI .i64 n,sI .i64 0] ([.pc M.aI]) 0 188)))
theorem A6 (M:Mo) (most n:Int) (i:Nat) (r:Int):grow acb env Sd 1000000 true (ak acb env 6 3 ([sI sb most,AV.mp 0 0,sI sb n,sI sb (↑i:Int)]) ([aU.pc M.aI]) 0 188) (WX M most n i r) atEnd=yw M most n i r:=by kernel_rfl
def Se:bH:=aT aH aA [(6,5),(6,7)] [(6,0,6)] [(6,0,7)]
def WY (M:Mo) (most n:Int) (i:Nat) (r:Int):Sc:=(.fork (.C4 6 15 (lrC M most n i r 0) .fin) .fin)
def yx (M:Mo) (most n:Int) (i:Nat) (r:Int):az:=
 (.test (decide ((↑i:Int)<(↑M.els.length:Int)))
 (.call ⟨23,[.p (.ps (aE (aF (aem bA M.els) (aJ i*2+0))) (bC (aF (aem bA M.els) (aJ i*2+0))) (aB (aF (aem bA M.els) (aJ i*2+0)))),sI .i64 most],[],sI .i64 r,[]⟩
 (.must (aW (↑i:Int) M.els.length&&true&&true&&(bB (aF (aem bA M.els) (aJ i*2+0))&&true&&(aW (↑i:Int) M.els.length&&true&&true&&(bB (aF (aem bA M.els) (aJ i*2+1))&&true&&true)))&&true)
 (.at (ak acb env 6 5 [sI .i64 most,.mp 0 0,sI .i64 (sb.wrap (sb.wrap (n+r)+bif true then aco (↑(aE (aF (aem bA M.els) (aJ i*2+1))):Int) most else acx (↑(aE (aF (aem bA M.els) (aJ i*2+1))):Int) most)),sI .i64 (sb.wrap ((↑i:Int)+1))] ([.pc M.aI]) 0 188))))
 (.at (ak acb env 6 7 [sI .i64 most,.mp 0 0,sI .i64 n,sI .i64 0] ([.pc M.aI]) 0 188)))
theorem A7 (M:Mo) (most n:Int) (i:Nat) (r:Int):grow acb env Se 1000000 true (ak acb env 6 5 ([sI sb most,AV.mp 0 0,sI sb n,sI sb (↑i:Int)]) ([aU.pc M.aI]) 0 188) (WY M most n i r) atEnd=yx M most n i r:=by kernel_rfl
def Sf:bH:=aT aH aA [(6,7),(6,9)] [(6,0,8)] [(6,0,9)]
def WZ (M:Mo) (most n:Int) (i:Nat) (r:Int):Sc:=(.fork (.C4 6 19 (lrC M most n i r 0) .fin) .fin)
def yy (M:Mo) (most n:Int) (i:Nat) (r:Int):az:=
 (.test (decide ((↑i:Int)<(↑M.bk.length:Int)))
 (.call ⟨23,[.p (.ps (aE (aF (aem bU M.bk) (aJ i*2+0))) (bC (aF (aem bU M.bk) (aJ i*2+0))) (aB (aF (aem bU M.bk) (aJ i*2+0)))),sI .i64 most],[],sI .i64 r,[]⟩
 (.must (aW (↑i:Int) M.bk.length&&true&&true&&(bB (aF (aem bU M.bk) (aJ i*2+0))&&true&&(aW (↑i:Int) M.bk.length&&true&&true&&(bB (aF (aem bU M.bk) (aJ i*2+1))&&true&&true)))&&true)
 (.at (ak acb env 6 7 [sI .i64 most,.mp 0 0,sI .i64 (sb.wrap (sb.wrap (n+r)+bif true then aco (↑(aE (aF (aem bU M.bk) (aJ i*2+1))):Int) most else acx (↑(aE (aF (aem bU M.bk) (aJ i*2+1))):Int) most)),sI .i64 (sb.wrap ((↑i:Int)+1))] ([.pc M.aI]) 0 188))))
 (.at (ak acb env 6 9 [sI .i64 most,.mp 0 0,sI .i64 n,sI .i64 0] ([.pc M.aI]) 0 188)))
theorem A8 (M:Mo) (most n:Int) (i:Nat) (r:Int):grow acb env Sf 1000000 true (ak acb env 6 7 ([sI sb most,AV.mp 0 0,sI sb n,sI sb (↑i:Int)]) ([aU.pc M.aI]) 0 188) (WZ M most n i r) atEnd=yy M most n i r:=by kernel_rfl
def Sg:bH:=aT aH aA [(6,9),(6,11)] [(6,0,10)] [(6,0,11)]
def W0 (M:Mo) (most n:Int) (i:Nat) (r:Int):Sc:= .fin
def yz (M:Mo) (most n:Int) (i:Nat) (r:Int):az:=
 (.test (decide ((↑i:Int)<(↑M.aQ.length:Int)))
 (.must (aW (↑i:Int) M.aQ.length&&true&&(isStr (aF (aem bK M.aQ) (aJ i*3+0))&&(aW (↑i:Int) M.aQ.length&&true&&(isStr (aF (aem bK M.aQ) (aJ i*3+1))&&true)))&&true)
 (.at (ak acb env 6 9 [sI .i64 most,.mp 0 0,sI .i64 (sb.wrap (sb.wrap (n+bif true then aco (↑(br (aF (aem bK M.aQ) (aJ i*3+0))).data.toList.length:Int) most else acx (↑(br (aF (aem bK M.aQ) (aJ i*3+0))).data.toList.length:Int) most)+bif true then aco (↑(br (aF (aem bK M.aQ) (aJ i*3+1))).data.toList.length:Int) most else acx (↑(br (aF (aem bK M.aQ) (aJ i*3+1))).data.toList.length:Int) most)),sI .i64 (sb.wrap ((↑i:Int)+1))] ([.pc M.aI]) 0 188)))
 (.at (ak acb env 6 11 [sI .i64 most,.mp 0 0,sI .i64 n,sI .i64 0] ([.pc M.aI]) 0 188)))
theorem A9 (M:Mo) (most n:Int) (i:Nat) (r:Int):grow acb env Sg 1000000 true (ak acb env 6 9 ([sI sb most,AV.mp 0 0,sI sb n,sI sb (↑i:Int)]) ([aU.pc M.aI]) 0 188) (W0 M most n i r) atEnd=yz M most n i r:=by kernel_rfl
def Sh:bH:=aT aH aA [(6,11)] [(6,0,12)] [(6,28,4),(6,28,6)]
def W1 (M:Mo) (most n:Int) (i:Nat) (r:Int):Sc:= .fin
def yA (M:Mo) (most n:Int) (i:Nat) (r:Int):az:=
 (.test (decide ((↑i:Int)<(↑M.exs.length:Int)))
 (.must (aW (↑i:Int) M.exs.length&&true&&true)
 (.must (isStr (aF (aem aS M.exs) (aJ i*3+0))&&true)
 (.at (ak acb env 6 11 [sI .i64 most,.mp 0 0,sI .i64 (sb.wrap (n+bif true then aco (↑(br (aF (aem aS M.exs) (aJ i*3+0))).data.toList.length:Int) most else acx (↑(br (aF (aem aS M.exs) (aJ i*3+0))).data.toList.length:Int) most)),sI .i64 (sb.wrap ((↑i:Int)+1))] ([.pc M.aI]) 0 188))))
 (.out (.ret (.p (.sc (.bool (decide (n>most))))) [])))
theorem Ba (M:Mo) (most n:Int) (i:Nat) (r:Int):grow acb env Sh 1000000 true (ak acb env 6 11 ([sI sb most,AV.mp 0 0,sI sb n,sI sb (↑i:Int)]) ([aU.pc M.aI]) 0 188) (W1 M most n i r) atEnd=yA M most n i r:=by kernel_rfl
theorem Og (s:ByteArray) (hs:s.size≤maxLen):an acb env 66 [.p (.sc (.string s))] [] (sB (decide (RW s≥0))) []:=
 af aM (M9 s (RW s)) ⟨an.Zh (m:=[.tok]) (args:=[.os (some 0) s.data.toList.length 1 (s.data.toList.map mm)]) (J6 s hs) ⟨KQ.os (.refl _),trivial⟩,rfl⟩
def Oh (s:ByteArray):Bool:=decide (RW s≥0)
def pV (M:Mo):Bool:=M.tys.any Gq||M.aQ.any Gr||M.fns.any Em||(A2 M).any Oh||M.fR.any (vl 1048576)||M.gA.any (vl 65536)||M.exs.any En||(!M.st&&M.sn != 0)
def Et (M:Mo):Int:=if pV M=true then 2 else if qx M 2=true then 2 else 0
theorem W2 {M:Mo} (hM:M.wf) : ∀s∈A2 M,s.size≤maxLen:=by
 intro s hs
 rcases na.1 hs with h | h
 · obtain⟨x,hx,h⟩:=List.mem_flatMap.1 h
   have q:=hM.aQ.2 x hx
   simp only[mv,List.not_mem_nil,or_false] at h
   rcases h with rfl | rfl
   · exact q.1
   · exact q.2.1
 · obtain⟨x,hx,rfl⟩:=eh.1 h
   exact(hM.exs.2 x hx).1
theorem J7 (M:Mo) (hM:M.fit) (hw:M.wf) (hs:M.vn):an acb env 29 [.agg (M.aI.map .p)] [] (sI .i64 (Et M)) []:=by
 have f1:=Nt M.tys (by have:=hM.tys;omega) Gq (fun x _=>NJ x)
 have f2:=Nv M.aQ (by have:=hM.aQ;omega) Gr (fun x _=>NM x)
 have f3:=Nx M.fns (by have:=hM.fns;omega) Em (fun x _=>NO x)
 have f4:=Nr (A2 M) (NP hM) Oh (fun x hx=>Og x (W2 hw x hx))
 have f5:=Nz M.fR (by have:=hM.fR;omega) (vl 1048576) (fun x _=>NK x)
 have f6:=NB M.gA (by have:=hM.gA;omega) (vl 65536) (fun x _=>NL x)
 have f7:=ND M.exs (by have:=hM.exs;omega) En (fun x _=>NN x)
 have f8:=uT M hM hs 2
 have nd:=NQ M hM
 have hF:Et M=if pV M=true then 2 else if qx M 2=true then 2 else 0:=rfl
 have hB:pV M=(M.tys.any Gq||M.aQ.any Gr||M.fns.any Em||(A2 M).any Oh||M.fR.any (vl 1048576)||M.gA.any (vl 65536)||M.exs.any En||(!M.st&&M.sn != 0)):=rfl
 refine af aM (Nk M (M.tys.any Gq) (M.aQ.any Gr) (M.fns.any Em) ((A2 M).any Oh) (M.fR.any (vl 1048576)) (M.gA.any (vl 65536)) (M.exs.any En) (A2 M).length ((A2 M).flatMap fF) (if qx M 2=true then 2 else 0)) ?_
 generalize (if qx M 2=true then(2:Int) else 0)=v at f8 hF ⊢
 rw[hF,hB]
 generalize M.tys.any Gq=b1 at *
 generalize M.aQ.any Gr=b2 at *
 generalize M.fns.any Em=b3 at *
 generalize (A2 M).any Oh=b4 at *
 generalize M.fR.any (vl 1048576)=b5 at *
 generalize M.gA.any (vl 65536)=b6 at *
 generalize M.exs.any En=b7 at *
 simp only[Ij,fT,az.ok]
 refine⟨f1,fun q1=> ?_,fun q1=>⟨f2,fun q2=> ?_,fun q2=>⟨f3,fun q3=> ?_,fun q3=>⟨nd,f4,fun q4=> ?_,fun q4=>⟨f5,fun q5=> ?_,fun q5=>⟨f6,fun q6=> ?_,fun q6=>⟨f7,fun q7=> ?_,fun q7=>⟨fun q9=>⟨fun q8=> ?_,fun q8=>⟨f8,?_⟩⟩,fun q9=>⟨f8,?_⟩⟩⟩⟩⟩⟩⟩⟩⟩
 · rw[if_pos (by simp only[q1,ae8])]
 · rw[if_pos (by simp only[q2,ae8,ae9])]
 · rw[if_pos (by simp only[q3,ae8,ae9])]
 · rw[if_pos (by simp only[q4,ae8,ae9])]
 · rw[if_pos (by simp only[q5,ae8,ae9])]
 · rw[if_pos (by simp only[q6,ae8,ae9])]
 · rw[if_pos (by simp only[q7,ae8,ae9])]
 · rw[if_pos (by simp only[q8,q9,aeq,ae9])]
 · rw[if_neg (by simp only[q1,q2,q3,q4,q5,q6,q7,q8,Bool.and_false,afa,pb,not_false_eq_true])]
 · rw[if_neg (by simp only[q1,q2,q3,q4,q5,q6,q7,q9,Bool.false_and,afa,pb,not_false_eq_true])]
def m9 (M:Mo):Int:=if A3 M≠0 then A3 M else if Eo M≠0 then Eo M else Et M
theorem Eu (M:Mo) (hM:M.fit) (hw:M.wf) (hs:M.vn):an acb env 12 [.agg (M.aI.map .p)] [] (sI .i64 (m9 M)) []:=by
 refine af aM (J2 M (A3 M) (Eo M) (Et M)) ?_
 simp only[Ei,az.ok,m9,bne_iff_ne,ne_eq,bne_eq_false_iff_eq]
 refine⟨J4 M hM hs,fun q=> ?_,fun q=>⟨J3 M hM,fun r=> ?_,fun r=>⟨J7 M hM hw hs,fun t=> ?_,fun t=> ?_⟩⟩⟩
 · rw[if_pos q]
 · rw[if_neg (by simpa using q),if_pos r]
 · rw[if_neg (by simpa using q),if_neg (by simpa using r)]
 · rw[if_neg (by simpa using q),if_neg (by simpa using r),t]
def qD (x:Fu):Int:=dn x.l 5000 0
def vo (x:Gl):Int:=dn x.l 5000 0
def zX (x:El):Int:=dn x.l 5000 0+min (x.fs.length:Int) 5000
def Gw (x:Da):Int:=dn x.l 5000 0+min (x.bs.length:Int) 5000
def P5 (x:Im):Int:=min (x.mo.data.toList.length:Int) 5000+min (x.nm.data.toList.length:Int) 5000
def W3 (x:Ex):Int:=min (x.nm.data.toList.length:Int) 5000
def bW {α:Type} (w:α→Int):Int→List α→Int
 |n,[]=>n
 |n,x::r=>bW w (n+w x) r
def fM (M:Mo) (t:Nat) (n:Int) (i:Nat):cw:=ak acb env 6 t [sI .i64 5000,.mp 0 0,sI .i64 n,sI .i64 i] [.pc M.aI] 0 188
theorem oY {α:Type} {l:List α} {w:α→Int} {D:Int→Nat→cw} {K:Int→Prop} {o:Out} (hw : ∀x:α,0≤w x∧w x≤20000)
  (step : ∀(n:Int) (i:Nat) (x:α),l[i]? = some x→0≤n→n+w x≤1000000000000000→cO acb env (D (n+w x) (i+1)) o→cO acb env (D n i) o)
  (fin : ∀n,K n→cO acb env (D n l.length) o) :
  ∀(r i:Nat) (n:Int),i+r=l.length→0≤n→n+r*20000≤1000000000000000→K (bW w n (l.drop i))→cO acb env (D n i) o:=by
 intro r
 induction r with
 |zero=>
  intro i n hi h0 hn h
  obtain rfl:i=l.length:=by omega
  rw[aeU] at h
  exact fin n h
 |succ r ih=>
  intro i n hi h0 hn h
  have hl:i<l.length:=by omega
  rw[aeT hl] at h
  have hx:=hw l[i]
  exact step n i l[i] (cb hl) h0 (by omega) (ih (i+1) _ (by omega) (by omega) (by omega) h)
theorem cq {α:Type} {w:α→Int} (hw : ∀x:α,0≤w x∧w x≤20000) : ∀(l:List α) (n:Int),n≤bW w n l∧bW w n l≤n+l.length*20000
 |[],n=>by simp[bW]
 |x::r,n=>by
  have h:=cq hw r (n+w x)
  have hx:=hw x
  simp only[bW,List.length_cons]
  omega
theorem oZ {α:Type} {w:α→Int} (hw : ∀x:α,0≤w x∧w x≤20000) : ∀(l:List α) (n:Int) (x:α),x∈l→n+w x≤bW w n l
 |y::r,n,x,h=>by
  have hy:=hw y
  rcases mv.1 h with rfl | h
  · exact(cq hw r (n+w x)).1
  · have:=oZ hw r (n+w y) x h
    simp only[bW]
    omega
theorem Ew (x:Fu):0≤qD x∧qD x≤20000:=by have h:=bZ x.l 5000 0 (by decide) (by decide) (by decide);unfold qD;omega
theorem Ey (x:Gl):0≤vo x∧vo x≤20000:=by have h:=bZ x.l 5000 0 (by decide) (by decide) (by decide);unfold vo;omega
theorem Ez (x:El):0≤zX x∧zX x≤20000:=by have h:=bZ x.l 5000 0 (by decide) (by decide) (by decide);unfold zX;omega
theorem EA (x:Da):0≤Gw x∧Gw x≤20000:=by have h:=bZ x.l 5000 0 (by decide) (by decide) (by decide);unfold Gw;omega
theorem Iz (x:Im):0≤P5 x∧P5 x≤20000:=by unfold P5;omega
theorem Oi (x:Ex):0≤W3 x∧W3 x≤20000:=by unfold W3;omega
theorem Oj (M:Mo) (hM:M.wf) (h5:M.fns.length≤5000) (o:Out) (n:Int) (i:Nat) (x:Fu) (hx:M.fns[i]? = some x) (h0:0≤n) (hn:n+qD x≤1000000000000000) (h:cO acb env (fM M 1 (n+qD x) (i+1)) o):cO acb env (fM M 1 n i) o:=by
 have hi:i<M.fns.length:=(dp.1 hx).1
 have c:=bp (z:=3) (enc:=bG) (fun _=>rfl) hx
 have c20:(M.fns.flatMap bG).getD (i*3+1+1) .bw=pL x.l:=c 2 (by decide)
 have c21:(M.fns.flatMap bG).getD (i*3+2) .bw=pL x.l:=c 2 (by decide)
 have w:sb.wrap ((i:Int)+1)=((i+1:Nat):Int):=by rw[aN (by omega) (by omega)];rfl
 have hd:decide ((i:Int)<(M.fns.length:Int))=true:=decide_eq_true (by omega)
 have hI:=bZ x.l 5000 0 (by decide) (by decide) (by decide)
 have hq:Cs x.l:=(hM.fns.2 x (mb hx)).2.2
 have hc:=gU (ou x.l) x.l 5000 (bx _) hq.1 hq.2 (by decide) (by decide)
 unfold qD at h hn
 have w1:sb.wrap (n+dn x.l 5000 0)=n+dn x.l 5000 0:=aN (by omega) (by omega)
 refine aj aM (A5 M 5000 n i (dn x.l 5000 0)) ?_
 simp only[yu,bF,az.ok,isStr,bB,br,aE,bC,aB,aW,acy,c20,c21,hd,w,cond_true,cond_false,aeq,aeM,w1]
 exact⟨fun _=>⟨(by first | rfl | (simp only[c8,decide_eq_true_eq];omega)),(by first | rfl | trivial),hc,h⟩,fun q=>(by cases q)⟩
theorem Si (M:Mo) (o:Out) (n:Int) (h:cO acb env (fM M 3 n 0) o):cO acb env (fM M 1 n M.fns.length) o:=by
 have hd:decide ((M.fns.length:Int)<(M.fns.length:Int))=false:=decide_eq_false (by omega)
 refine aj aM (A5 M 5000 n M.fns.length 0) ?_
 simp only[yu,bF,az.ok,hd]
 exact⟨fun q=>(by cases q),fun _=>h⟩
theorem Ol (M:Mo) (hM:M.wf) (h5:M.gls.length≤5000) (o:Out) (n:Int) (i:Nat) (x:Gl) (hx:M.gls[i]? = some x) (h0:0≤n) (hn:n+vo x≤1000000000000000) (h:cO acb env (fM M 3 (n+vo x) (i+1)) o):cO acb env (fM M 3 n i) o:=by
 have hi:i<M.gls.length:=(dp.1 hx).1
 have c:=bp (z:=2) (enc:=dD) (fun _=>rfl) hx
 have c10:(M.gls.flatMap dD).getD (i*2+1) .bw=pL x.l:=c 1 (by decide)
 have w:sb.wrap ((i:Int)+1)=((i+1:Nat):Int):=by rw[aN (by omega) (by omega)];rfl
 have hd:decide ((i:Int)<(M.gls.length:Int))=true:=decide_eq_true (by omega)
 have hI:=bZ x.l 5000 0 (by decide) (by decide) (by decide)
 have hq:Cs x.l:=(hM.gls.2 x (mb hx))
 have hc:=gU (ou x.l) x.l 5000 (bx _) hq.1 hq.2 (by decide) (by decide)
 unfold vo at h hn
 have w1:sb.wrap (n+dn x.l 5000 0)=n+dn x.l 5000 0:=aN (by omega) (by omega)
 refine aj aM (A6 M 5000 n i (dn x.l 5000 0)) ?_
 simp only[yw,bF,az.ok,isStr,bB,br,aE,bC,aB,aW,acy,c10,hd,w,cond_true,cond_false,aeq,aeM,w1]
 exact⟨fun _=>⟨(by first | rfl | (simp only[c8,decide_eq_true_eq];omega)),(by first | rfl | trivial),hc,h⟩,fun q=>(by cases q)⟩
theorem Sj (M:Mo) (o:Out) (n:Int) (h:cO acb env (fM M 5 n 0) o):cO acb env (fM M 3 n M.gls.length) o:=by
 have hd:decide ((M.gls.length:Int)<(M.gls.length:Int))=false:=decide_eq_false (by omega)
 refine aj aM (A6 M 5000 n M.gls.length 0) ?_
 simp only[yw,bF,az.ok,hd]
 exact⟨fun q=>(by cases q),fun _=>h⟩
theorem Om (M:Mo) (hM:M.wf) (h5:M.els.length≤5000) (o:Out) (n:Int) (i:Nat) (x:El) (hx:M.els[i]? = some x) (h0:0≤n) (hn:n+zX x≤1000000000000000) (h:cO acb env (fM M 5 (n+zX x) (i+1)) o):cO acb env (fM M 5 n i) o:=by
 have hi:i<M.els.length:=(dp.1 hx).1
 have c:=bp (z:=2) (enc:=bA) (fun _=>rfl) hx
 have W4:(M.els.flatMap bA).getD (i*2) .bw=pL x.l:=c 0 (by decide)
 have W5:(M.els.flatMap bA).getD (i*2+0) .bw=pL x.l:=c 0 (by decide)
 have c12:(M.els.flatMap bA).getD (i*2+1) .bw=pT .u32 x.fs:=c 1 (by decide)
 have w:sb.wrap ((i:Int)+1)=((i+1:Nat):Int):=by rw[aN (by omega) (by omega)];rfl
 have hd:decide ((i:Int)<(M.els.length:Int))=true:=decide_eq_true (by omega)
 have hI:=bZ x.l 5000 0 (by decide) (by decide) (by decide)
 have hq:Cs x.l:=(hM.els.2 x (mb hx)).1
 have hc:=gU (ou x.l) x.l 5000 (bx _) hq.1 hq.2 (by decide) (by decide)
 unfold zX at h hn
 have w1:sb.wrap (sb.wrap (n+dn x.l 5000 0)+min (x.fs.length:Int) 5000)=n+(dn x.l 5000 0+min (x.fs.length:Int) 5000):=by rw[aN (n:=n+dn x.l 5000 0) (by omega) (by omega),ae7];exact aN (by omega) (by omega)
 refine aj aM (A7 M 5000 n i (dn x.l 5000 0)) ?_
 simp only[yx,bF,az.ok,isStr,bB,br,aE,bC,aB,aW,acy,W4,W5,c12,hd,w,cond_true,cond_false,aeq,aeM,w1]
 exact⟨fun _=>⟨hc,(by first | rfl | (simp only[c8,decide_eq_true_eq];omega)),h⟩,fun q=>(by cases q)⟩
theorem Sk (M:Mo) (o:Out) (n:Int) (h:cO acb env (fM M 7 n 0) o):cO acb env (fM M 5 n M.els.length) o:=by
 have hd:decide ((M.els.length:Int)<(M.els.length:Int))=false:=decide_eq_false (by omega)
 refine aj aM (A7 M 5000 n M.els.length 0) ?_
 simp only[yx,bF,az.ok,hd]
 exact⟨fun q=>(by cases q),fun _=>h⟩
theorem On (M:Mo) (hM:M.wf) (h5:M.bk.length≤5000) (o:Out) (n:Int) (i:Nat) (x:Da) (hx:M.bk[i]? = some x) (h0:0≤n) (hn:n+Gw x≤1000000000000000) (h:cO acb env (fM M 7 (n+Gw x) (i+1)) o):cO acb env (fM M 7 n i) o:=by
 have hi:i<M.bk.length:=(dp.1 hx).1
 have c:=bp (z:=2) (enc:=bU) (fun _=>rfl) hx
 have W4:(M.bk.flatMap bU).getD (i*2) .bw=pL x.l:=c 0 (by decide)
 have W5:(M.bk.flatMap bU).getD (i*2+0) .bw=pL x.l:=c 0 (by decide)
 have c12:(M.bk.flatMap bU).getD (i*2+1) .bw=pT .u8 x.bs:=c 1 (by decide)
 have w:sb.wrap ((i:Int)+1)=((i+1:Nat):Int):=by rw[aN (by omega) (by omega)];rfl
 have hd:decide ((i:Int)<(M.bk.length:Int))=true:=decide_eq_true (by omega)
 have hI:=bZ x.l 5000 0 (by decide) (by decide) (by decide)
 have hq:Cs x.l:=(hM.bk.2 x (mb hx)).1
 have hc:=gU (ou x.l) x.l 5000 (bx _) hq.1 hq.2 (by decide) (by decide)
 unfold Gw at h hn
 have w1:sb.wrap (sb.wrap (n+dn x.l 5000 0)+min (x.bs.length:Int) 5000)=n+(dn x.l 5000 0+min (x.bs.length:Int) 5000):=by rw[aN (n:=n+dn x.l 5000 0) (by omega) (by omega),ae7];exact aN (by omega) (by omega)
 refine aj aM (A8 M 5000 n i (dn x.l 5000 0)) ?_
 simp only[yy,bF,az.ok,isStr,bB,br,aE,bC,aB,aW,acy,W4,W5,c12,hd,w,cond_true,cond_false,aeq,aeM,w1]
 exact⟨fun _=>⟨hc,(by first | rfl | (simp only[c8,decide_eq_true_eq];omega)),h⟩,fun q=>(by cases q)⟩
theorem Sl (M:Mo) (o:Out) (n:Int) (h:cO acb env (fM M 9 n 0) o):cO acb env (fM M 7 n M.bk.length) o:=by
 have hd:decide ((M.bk.length:Int)<(M.bk.length:Int))=false:=decide_eq_false (by omega)
 refine aj aM (A8 M 5000 n M.bk.length 0) ?_
 simp only[yy,bF,az.ok,hd]
 exact⟨fun q=>(by cases q),fun _=>h⟩
theorem Oo (M:Mo) (hM:M.wf) (h5:M.aQ.length≤5000) (o:Out) (n:Int) (i:Nat) (x:Im) (hx:M.aQ[i]? = some x) (h0:0≤n) (hn:n+P5 x≤1000000000000000) (h:cO acb env (fM M 9 (n+P5 x) (i+1)) o):cO acb env (fM M 9 n i) o:=by
 have hi:i<M.aQ.length:=(dp.1 hx).1
 have c:=bp (z:=3) (enc:=bK) (fun _=>rfl) hx
 have W4:(M.aQ.flatMap bK).getD (i*3) .bw = .sc (.string x.mo):=c 0 (by decide)
 have W5:(M.aQ.flatMap bK).getD (i*3+0) .bw = .sc (.string x.mo):=c 0 (by decide)
 have c12:(M.aQ.flatMap bK).getD (i*3+1) .bw = .sc (.string x.nm):=c 1 (by decide)
 have w:sb.wrap ((i:Int)+1)=((i+1:Nat):Int):=by rw[aN (by omega) (by omega)];rfl
 have hd:decide ((i:Int)<(M.aQ.length:Int))=true:=decide_eq_true (by omega)
 unfold P5 at h hn
 have w1:sb.wrap (sb.wrap (n+min (x.mo.data.toList.length:Int) 5000)+min (x.nm.data.toList.length:Int) 5000)=n+(min (x.mo.data.toList.length:Int) 5000+min (x.nm.data.toList.length:Int) 5000):=by rw[aN (n:=n+min (x.mo.data.toList.length:Int) 5000) (by omega) (by omega),ae7];exact aN (by omega) (by omega)
 refine aj aM (A9 M 5000 n i 0) ?_
 simp only[yz,bF,az.ok,isStr,bB,br,aE,bC,aB,aW,acy,W4,W5,c12,hd,w,cond_true,cond_false,aeq,aeM,w1]
 exact⟨fun _=>⟨(by first | rfl | (simp only[c8,decide_eq_true_eq];omega)),h⟩,fun q=>(by cases q)⟩
theorem Sm (M:Mo) (o:Out) (n:Int) (h:cO acb env (fM M 11 n 0) o):cO acb env (fM M 9 n M.aQ.length) o:=by
 have hd:decide ((M.aQ.length:Int)<(M.aQ.length:Int))=false:=decide_eq_false (by omega)
 refine aj aM (A9 M 5000 n M.aQ.length 0) ?_
 simp only[yz,bF,az.ok,hd]
 exact⟨fun q=>(by cases q),fun _=>h⟩
theorem Oq (M:Mo) (hM:M.wf) (h5:M.exs.length≤5000) (o:Out) (n:Int) (i:Nat) (x:Ex) (hx:M.exs[i]? = some x) (h0:0≤n) (hn:n+W3 x≤1000000000000000) (h:cO acb env (fM M 11 (n+W3 x) (i+1)) o):cO acb env (fM M 11 n i) o:=by
 have hi:i<M.exs.length:=(dp.1 hx).1
 have c:=bp (z:=3) (enc:=aS) (fun _=>rfl) hx
 have W4:(M.exs.flatMap aS).getD (i*3) .bw = .sc (.string x.nm):=c 0 (by decide)
 have W5:(M.exs.flatMap aS).getD (i*3+0) .bw = .sc (.string x.nm):=c 0 (by decide)
 have w:sb.wrap ((i:Int)+1)=((i+1:Nat):Int):=by rw[aN (by omega) (by omega)];rfl
 have hd:decide ((i:Int)<(M.exs.length:Int))=true:=decide_eq_true (by omega)
 unfold W3 at h hn
 have w1:sb.wrap (n+min (x.nm.data.toList.length:Int) 5000)=n+min (x.nm.data.toList.length:Int) 5000:=aN (by omega) (by omega)
 refine aj aM (Ba M 5000 n i 0) ?_
 simp only[yA,bF,az.ok,isStr,bB,br,aE,bC,aB,aW,acy,W4,W5,hd,w,cond_true,cond_false,aeq,aeM,w1]
 exact⟨fun _=>⟨(by first | rfl | (simp only[c8,decide_eq_true_eq];omega)),(by first | rfl | trivial),h⟩,fun q=>(by cases q)⟩
theorem Sn (M:Mo) (o:Out) (n:Int) (h:Out.ret (sB (decide (n>5000))) []=o):cO acb env (fM M 11 n M.exs.length) o:=by
 have hd:decide ((M.exs.length:Int)<(M.exs.length:Int))=false:=decide_eq_false (by omega)
 refine aj aM (Ba M 5000 n M.exs.length 0) ?_
 simp only[yA,bF,az.ok,hd]
 exact⟨fun q=>(by cases q),fun _=>h⟩
def lens (M:Mo):Int:=M.tys.length+M.aQ.length+M.fns.length+M.fR.length+M.gA.length+M.gls.length+M.exs.length+M.els.length+M.bk.length
def J8 (M:Mo):Int:=bW W3 (bW P5 (bW Gw (bW zX (bW vo (bW qD (lens M) M.fns) M.gls) M.els) M.bk) M.aQ) M.exs
def oz (M:Mo):Bool:=if lens M>5000 then true else decide (J8 M>5000)
def _root_.Go.Am.Mo.short (M:Mo):Prop:=M.tys.length≤1000000000000000∧M.aQ.length≤1000000000000000∧M.fns.length≤1000000000000000∧M.fR.length≤1000000000000000∧M.gA.length≤1000000000000000∧M.gls.length≤1000000000000000∧M.exs.length≤1000000000000000∧M.els.length≤1000000000000000∧M.bk.length≤1000000000000000
theorem Gx (M:Mo) (hw:M.wf) (hs:M.short):an acb env 6 [.agg (M.aI.map .p),sI .i64 5000] [] (sB (oz M)) []:=by
 obtain⟨s1,s2,s3,s4,s5,s6,s7,s8,s9⟩:=hs
 have e:sb.wrap (sb.wrap (sb.wrap (sb.wrap (sb.wrap (sb.wrap (sb.wrap (sb.wrap ((M.tys.length:Int)+M.aQ.length)+M.fns.length)+M.fR.length)+M.gA.length)+M.gls.length)+M.exs.length)+M.els.length)+M.bk.length)=lens M:=by
  unfold lens
  rw[aN (n:=(M.tys.length:Int)+M.aQ.length) (by omega) (by omega),aN (n:=(M.tys.length:Int)+M.aQ.length+M.fns.length) (by omega) (by omega),aN (n:=(M.tys.length:Int)+M.aQ.length+M.fns.length+M.fR.length) (by omega) (by omega),
   aN (n:=(M.tys.length:Int)+M.aQ.length+M.fns.length+M.fR.length+M.gA.length) (by omega) (by omega),aN (n:=(M.tys.length:Int)+M.aQ.length+M.fns.length+M.fR.length+M.gA.length+M.gls.length) (by omega) (by omega),
   aN (n:=(M.tys.length:Int)+M.aQ.length+M.fns.length+M.fR.length+M.gA.length+M.gls.length+M.exs.length) (by omega) (by omega),aN (n:=(M.tys.length:Int)+M.aQ.length+M.fns.length+M.fR.length+M.gA.length+M.gls.length+M.exs.length+M.els.length) (by omega) (by omega),aN (by omega) (by omega)]
 refine af aM (Of M 5000) ?_
 simp only[Iy,bF,az.ok,e]
 refine⟨fun q=> ?_,fun q=> ?_⟩
 · have q:lens M>5000:=by simpa using q
   rw[oz,if_pos q]
 · have q : ¬lens M>5000:=by simpa using q
   have hl:0≤lens M:=by unfold lens;omega
   rw[oz,if_neg q]
   have q:lens M≤5000:=by omega
   have l1:M.fns.length≤5000:=by unfold lens at q;omega
   have l2:M.gls.length≤5000:=by unfold lens at q;omega
   have l3:M.els.length≤5000:=by unfold lens at q;omega
   have l4:M.bk.length≤5000:=by unfold lens at q;omega
   have l5:M.aQ.length≤5000:=by unfold lens at q;omega
   have l6:M.exs.length≤5000:=by unfold lens at q;omega
   have r1:=cq Ew M.fns (lens M)
   have r2:=cq Ey M.gls (bW qD (lens M) M.fns)
   have r3:=cq Ez M.els (bW vo (bW qD (lens M) M.fns) M.gls)
   have r4:=cq EA M.bk (bW zX (bW vo (bW qD (lens M) M.fns) M.gls) M.els)
   have r5:=cq Iz M.aQ (bW Gw (bW zX (bW vo (bW qD (lens M) M.fns) M.gls) M.els) M.bk)
   have k6:=oY Oi (Oq M hw l6 (.ret (sB (decide (J8 M>5000))) [])) (Sn M _) M.exs.length 0 (bW P5 (bW Gw (bW zX (bW vo (bW qD (lens M) M.fns) M.gls) M.els) M.bk) M.aQ) (by omega) (by omega) (by omega) rfl
   have k5:=oY Iz (Oo M hw l5 _) (Sm M _) M.aQ.length 0 (bW Gw (bW zX (bW vo (bW qD (lens M) M.fns) M.gls) M.els) M.bk) (by omega) (by omega) (by omega) k6
   have k4:=oY EA (On M hw l4 _) (Sl M _) M.bk.length 0 (bW zX (bW vo (bW qD (lens M) M.fns) M.gls) M.els) (by omega) (by omega) (by omega) k5
   have k3:=oY Ez (Om M hw l3 _) (Sk M _) M.els.length 0 (bW vo (bW qD (lens M) M.fns) M.gls) (by omega) (by omega) (by omega) k4
   have k2:=oY Ey (Ol M hw l2 _) (Sj M _) M.gls.length 0 (bW qD (lens M) M.fns) (by omega) (by omega) (by omega) k3
   have k1:=oY Ew (Oj M hw l1 _) (Si M _) M.fns.length 0 (lens M) (by omega) (by omega) (by omega) k2
   exact k1
theorem J9 {M:Mo} (h:oz M=false):M.fit∧M.vn∧lens M≤5000:=by
 unfold oz at h
 split at h
 · cases h
 rename_i q
 have h : ¬J8 M>5000:=by simpa using h
 have q:lens M≤5000:=by omega
 have q':=q
 unfold lens at q'
 have r1:=cq Ew M.fns (lens M)
 have r2:=cq Ey M.gls (bW qD (lens M) M.fns)
 have r3:=cq Ez M.els (bW vo (bW qD (lens M) M.fns) M.gls)
 have r4:=cq EA M.bk (bW zX (bW vo (bW qD (lens M) M.fns) M.gls) M.els)
 have r5:=cq Iz M.aQ (bW Gw (bW zX (bW vo (bW qD (lens M) M.fns) M.gls) M.els) M.bk)
 have r6:=cq Oi M.exs (bW P5 (bW Gw (bW zX (bW vo (bW qD (lens M) M.fns) M.gls) M.els) M.bk) M.aQ)
 unfold J8 at h
 have hl:0≤lens M:=by unfold lens;omega
 have cnt : ∀l:List Ins,dn l 5000 0≤5000→cN l≤100000000000:=fun l hl=>by
  have:=rO l 5000 0 (by decide) (by decide) hl
  have:=rP l
  omega
 refine⟨⟨by omega,by omega,by omega,by omega,by omega,by omega,by omega,by omega,by omega⟩,fun l hm=> ?_,q⟩
 simp only[qw,na,eh] at hm
 rcases hm with((⟨x,hx,rfl⟩ | ⟨x,hx,rfl⟩) | ⟨x,hx,rfl⟩) | ⟨x,hx,rfl⟩
 · have:=oZ Ew M.fns (lens M) x hx
   exact cnt _ (by have e:qD x=dn x.l 5000 0:=rfl;omega)
 · have:=oZ Ey M.gls (bW qD (lens M) M.fns) x hx
   exact cnt _ (by have e:vo x=dn x.l 5000 0:=rfl;omega)
 · have:=oZ Ez M.els (bW vo (bW qD (lens M) M.fns) M.gls) x hx
   exact cnt _ (by have e:zX x=dn x.l 5000 0+min (x.fs.length:Int) 5000:=rfl;omega)
 · have:=oZ EA M.bk (bW zX (bW vo (bW qD (lens M) M.fns) M.gls) M.els) x hx
   exact cnt _ (by have e:Gw x=dn x.l 5000 0+min (x.bs.length:Int) 5000:=rfl;omega)
end Go.Proofs.YtdmmllcjgjmbbaaGreatDoor.N
end
section
namespace Go.Proofs.YtdmmllcjgjmbbaaGreatDoor.N
open Go Go.Am
end Go.Proofs.YtdmmllcjgjmbbaaGreatDoor.N
end
section
set_option linter.unusedSimpArgs false
set_option linter.unusedVariables false
namespace Go.Proofs.YtdmmllcjgjmbbaaGreatDoor.N
open Go Go.Am
end Go.Proofs.YtdmmllcjgjmbbaaGreatDoor.N
end
section
namespace Go.Proofs.YtdmmllcjgjmbbaaGreatDoor.N
open Go Go.Am
section
variable (l:List Ins)
end
end Go.Proofs.YtdmmllcjgjmbbaaGreatDoor.N
end
section
set_option linter.unusedSimpArgs false
set_option linter.unusedVariables false
namespace Go.Proofs.YtdmmllcjgjmbbaaGreatDoor.N
open Go Go.Am
def toS (M:Mo) (a:Nat) (T P Q:Int):FuncId→Nat→Nat→Option (AV→AV):=cM [(8,5,5,sI .i64 T),(8,7,5,sI .i64 T),(8,10,4,.agg [sI .i64 P,sI .i64 Q])]
def W6 (M:Mo) (a:Nat) (T P Q:Int):bH:=gx aH aA [] [(8,0,0),(8,8,3),(8,0,2),(8,0,1)] [(8,5,3),(8,5,5),(8,10,3),(8,10,4),(8,7,3),(8,7,5)] (toS M a T P Q)
def aaK:Sc:=(.fork (.fork (.lit .fin) .fin) (.fork (.fork (.lit .fin) .fin) (.lit (.lit .fin))))
def fU (M:Mo) (T P Q:Int):az:=
 (.test (decide (T<0)) (.out (.ret (.au [.agg [sI .i64 0,sI .i64 0],sB false]) [])) (.test (decide (T≥(↑M.tys.length:Int))) (.out (.ret (.au [.agg [sI .i64 0,sI .i64 0],sB false]) [])) (.must (aW T M.tys.length&&true&&true) (.must (isInt sb (aF (aem cP M.tys) (T.toNat*2))&&(isInt sb (aF (aem cP M.tys) (T.toNat*2+1))&&true)&&true) (.need (AV.agg [sI .i64 (av (aF (aem cP M.tys) (T.toNat*2))),sI .i64 (av (aF (aem cP M.tys) (T.toNat*2+1)))]=AV.agg [sI sb P,sI sb Q]) (.out (.ret (.au [.agg [sI .i64 P,sI .i64 Q],sB true]) [])))))))
def kV (M:Mo) (a:Nat) (T P Q:Int):az:=
 (.test (decide (sb.wrap (sb.wrap (↑a:Int)-(↑M.aQ.length:Int))<0))
 (.must (aW (sb.wrap (↑a:Int)) M.aQ.length&&true&&true)
 (.must (isInt sb (aF (aem bK M.aQ) ((sb.wrap (↑a:Int)).toNat*3+2))&&true)
 (.need (sI .i64 (av (aF (aem bK M.aQ) ((sb.wrap (↑a:Int)).toNat*3+2)))=sI sb T)
 (fU M T P Q))))
 (.test (decide (sb.wrap (sb.wrap (↑a:Int)-(↑M.aQ.length:Int))<(↑M.fns.length:Int)))
 (.must (aW (sb.wrap (sb.wrap (↑a:Int)-(↑M.aQ.length:Int))) M.fns.length&&true&&true)
 (.must (isInt sb (aF (aem bG M.fns) ((sb.wrap (sb.wrap (↑a:Int)-(↑M.aQ.length:Int))).toNat*3+0))&&true)
 (.need (sI .i64 (av (aF (aem bG M.fns) ((sb.wrap (sb.wrap (↑a:Int)-(↑M.aQ.length:Int))).toNat*3+0)))=sI sb T)
 (fU M T P Q))))
 (.out (.ret (.au [.agg [sI .i64 0,sI .i64 0],sB false]) []))))
theorem ko (M:Mo) (a:Nat) (T P Q:Int):aG acb env (W6 M a T P Q) 1000000 8 ([AV.agg (ab6 AV.p M.aI),sI abY (↑a:Int)]) ([]) aaK=kV M a T P Q:=by kernel_rfl
def KR (M:Mo) (a:Nat):Int:=
 match M.aQ[a]? with
 |some x=>x.ty
 |none=>match M.fns[a-M.aQ.length]? with
  |some x=>x.ty
  |none=> -1
def sj (M:Mo) (a:Nat):Option Ty:=if 0≤KR M a then M.tys[(KR M a).toNat]? else none
def TP:Option Ty→AV
 |some y=> .au [.agg [sI .i64 y.p,sI .i64 y.r],sB true]
 |none=> .au [.agg [sI .i64 0,sI .i64 0],sB false]
theorem EB (M:Mo) (a:Nat):(∃x,M.aQ[a]? = some x∧a<M.aQ.length∧KR M a=x.ty)∨(∃b x,a=M.aQ.length+b∧M.fns[b]? = some x∧b<M.fns.length∧KR M a=x.ty)∨(M.aQ.length+M.fns.length≤a∧KR M a = -1):=by
 unfold KR
 by_cases h:a<M.aQ.length
 · exact .inl ⟨_,cb h,h,by rw[cb h]⟩
 · have hn:M.aQ[a]? = none:=dt (by omega)
   by_cases h2:a-M.aQ.length<M.fns.length
   · refine .inr (.inl ⟨a-M.aQ.length,_,by omega,cb h2,h2,?_⟩)
     rw[hn,cb h2]
   · refine .inr (.inr ⟨by omega,?_⟩)
     rw[hn,dt (by omega:M.fns.length≤a-M.aQ.length)]
theorem EC (M:Mo) (a:Nat) (T:Int) (hT:KR M a=T):(T<0∧sj M a=none)∨(0≤T∧(M.tys.length:Int)≤T∧sj M a=none)∨(∃y,0≤T∧T<(M.tys.length:Int)∧M.tys[T.toNat]? = some y∧sj M a=some y):=by
 unfold sj
 rw[hT]
 by_cases h:T<0
 · exact .inl ⟨h,if_neg (by omega)⟩
 · by_cases h2:(M.tys.length:Int)≤T
   · exact .inr (.inl ⟨by omega,h2,by rw[if_pos (by omega),dt (by omega)]⟩)
   · have h3:T.toNat<M.tys.length:=by omega
     exact .inr (.inr ⟨_,by omega,by omega,cb h3,by rw[if_pos (by omega),cb h3]⟩)
theorem yB (M:Mo) (hM:M.fit) (a:Nat) (ha:a<4294967296):an acb env 8 [.agg (M.aI.map .p),sI .u32 a] [] (TP (sj M a)) []:=by
 have h1:=hM.aQ
 have h2:=hM.fns
 have h3:=hM.tys
 have w0:sb.wrap (a:Int)=(a:Int):=aN (by omega) (by omega)
 have w2:sb.wrap ((M.aQ.length:Int)+(M.fns.length:Int))=(M.aQ.length:Int)+(M.fns.length:Int):=aN (by omega) (by omega)
 rcases EB M a with⟨x,hx,hi,hT⟩ | ⟨b,x,rfl,hx,hi,hT⟩ | ⟨hge,hT⟩
 · have c:=bp (z:=3) (enc:=bK) (fun _=>rfl) hx
   have c2:(M.aQ.flatMap bK).getD (a*3+2) .bw = .sc (.int .i64 x.ty):=c 2 (by decide)
   have w1:sb.wrap ((a:Int)-M.aQ.length)=(a:Int)-M.aQ.length:=aN (by omega) (by omega)
   have d1:decide ((a:Int)-(M.aQ.length:Int)<0)=true:=decide_eq_true (by omega)
   have d2:decide ((a:Int)<(M.aQ.length:Int))=true:=decide_eq_true (by omega)
   have i1:aW (a:Int) M.aQ.length=true:=by simp only[aW,c8,decide_eq_true_eq];omega
   rcases EC M _ _ hT with⟨q,e⟩ | ⟨q,q2,e⟩ | ⟨y,q,q2,hy,e⟩<;>rw[e]
   · have d3:decide (x.ty<0)=true:=decide_eq_true q
     refine af aM (ko M _ x.ty 0 0) ?_
     simp only[kV,fU,bF,az.ok,isStr,isInt,bB,isBool,br,av,bD,aE,bC,aB,acy,aeq,aeM,pb,ae5,false_implies,true_implies,true_and,and_true,w0,w1,d1,d2,i1,c2,d3,TP]
     all_goals first | trivial | rfl | exact⟨rfl,rfl⟩ | exact⟨rfl,rfl,rfl⟩
   · have d3:decide (x.ty<0)=false:=decide_eq_false (by omega)
     have d4:decide (x.ty≥(M.tys.length:Int))=true:=decide_eq_true (by omega)
     refine af aM (ko M _ x.ty 0 0) ?_
     simp only[kV,fU,bF,az.ok,isStr,isInt,bB,isBool,br,av,bD,aE,bC,aB,acy,aeq,aeM,pb,ae5,false_implies,true_implies,true_and,and_true,w0,w1,d1,d2,i1,c2,d3,d4,TP]
     all_goals first | trivial | rfl | exact⟨rfl,rfl⟩ | exact⟨rfl,rfl,rfl⟩
   · have d3:decide (x.ty<0)=false:=decide_eq_false (by omega)
     have d4:decide (x.ty≥(M.tys.length:Int))=false:=decide_eq_false (by omega)
     have i2:aW x.ty M.tys.length=true:=by simp only[aW,c8,decide_eq_true_eq];omega
     have e':=bp (z:=2) (enc:=cP) (fun _=>rfl) hy
     have e0:(M.tys.flatMap cP).getD (x.ty.toNat*2) .bw = .sc (.int .i64 y.p):=e' 0 (by decide)
     have e1:(M.tys.flatMap cP).getD (x.ty.toNat*2+1) .bw = .sc (.int .i64 y.r):=e' 1 (by decide)
     refine af aM (ko M _ x.ty y.p y.r) ?_
     simp only[kV,fU,bF,az.ok,isStr,isInt,bB,isBool,br,av,bD,aE,bC,aB,acy,aeq,aeM,pb,ae5,false_implies,true_implies,true_and,and_true,w0,w1,d1,d2,i1,c2,d3,d4,i2,e0,e1,TP]
     all_goals first | trivial | rfl | exact⟨rfl,rfl⟩ | exact⟨rfl,rfl,rfl⟩
 · have c:=bp (z:=3) (enc:=bG) (fun _=>rfl) hx
   have c0:(M.fns.flatMap bG).getD (b*3+0) .bw = .sc (.int .i64 x.ty):=c 0 (by decide)
   have w1:sb.wrap (((M.aQ.length+b:Nat):Int)-M.aQ.length)=b:=by rw[aN (by omega) (by omega)];omega
   have d1:decide ((b:Int)<0)=false:=decide_eq_false (by omega)
   have d2:decide ((b:Int)<(M.fns.length:Int))=true:=decide_eq_true (by omega)
   have d5:decide (((M.aQ.length+b:Nat):Int)<(M.aQ.length:Int))=false:=decide_eq_false (by omega)
   have d6:decide (((M.aQ.length+b:Nat):Int)<(M.aQ.length:Int)+(M.fns.length:Int))=true:=decide_eq_true (by omega)
   have i1:aW (b:Int) M.fns.length=true:=by simp only[aW,c8,decide_eq_true_eq];omega
   rcases EC M _ _ hT with⟨q,e⟩ | ⟨q,q2,e⟩ | ⟨y,q,q2,hy,e⟩<;>rw[e]
   · have d3:decide (x.ty<0)=true:=decide_eq_true q
     refine af aM (ko M _ x.ty 0 0) ?_
     simp only[kV,fU,bF,az.ok,isStr,isInt,bB,isBool,br,av,bD,aE,bC,aB,acy,aeq,aeM,pb,ae5,false_implies,true_implies,true_and,and_true,w0,w1,w2,d1,d2,d5,d6,i1,c0,d3,TP]
     all_goals first | trivial | rfl | exact⟨rfl,rfl⟩ | exact⟨rfl,rfl,rfl⟩
   · have d3:decide (x.ty<0)=false:=decide_eq_false (by omega)
     have d4:decide (x.ty≥(M.tys.length:Int))=true:=decide_eq_true (by omega)
     refine af aM (ko M _ x.ty 0 0) ?_
     simp only[kV,fU,bF,az.ok,isStr,isInt,bB,isBool,br,av,bD,aE,bC,aB,acy,aeq,aeM,pb,ae5,false_implies,true_implies,true_and,and_true,w0,w1,w2,d1,d2,d5,d6,i1,c0,d3,d4,TP]
     all_goals first | trivial | rfl | exact⟨rfl,rfl⟩ | exact⟨rfl,rfl,rfl⟩
   · have d3:decide (x.ty<0)=false:=decide_eq_false (by omega)
     have d4:decide (x.ty≥(M.tys.length:Int))=false:=decide_eq_false (by omega)
     have i2:aW x.ty M.tys.length=true:=by simp only[aW,c8,decide_eq_true_eq];omega
     have e':=bp (z:=2) (enc:=cP) (fun _=>rfl) hy
     have e0:(M.tys.flatMap cP).getD (x.ty.toNat*2) .bw = .sc (.int .i64 y.p):=e' 0 (by decide)
     have e1:(M.tys.flatMap cP).getD (x.ty.toNat*2+1) .bw = .sc (.int .i64 y.r):=e' 1 (by decide)
     refine af aM (ko M _ x.ty y.p y.r) ?_
     simp only[kV,fU,bF,az.ok,isStr,isInt,bB,isBool,br,av,bD,aE,bC,aB,acy,aeq,aeM,pb,ae5,false_implies,true_implies,true_and,and_true,w0,w1,w2,d1,d2,d5,d6,i1,c0,d3,d4,i2,e0,e1,TP]
     all_goals first | trivial | rfl | exact⟨rfl,rfl⟩ | exact⟨rfl,rfl,rfl⟩
 · have e:sj M a=none:=by unfold sj;rw[hT];exact if_neg (by decide)
   have w1:sb.wrap ((a:Int)-M.aQ.length)=(a:Int)-M.aQ.length:=aN (by omega) (by omega)
   have d1:decide ((a:Int)-(M.aQ.length:Int)<0)=false:=decide_eq_false (by omega)
   have d2:decide ((a:Int)-(M.aQ.length:Int)<(M.fns.length:Int))=false:=decide_eq_false (by omega)
   have d5:decide ((a:Int)<(M.aQ.length:Int))=false:=decide_eq_false (by omega)
   have d6:decide ((a:Int)<(M.aQ.length:Int)+(M.fns.length:Int))=false:=decide_eq_false (by omega)
   rw[e]
   refine af aM (ko M a 0 0 0) ?_
   simp only[kV,fU,bF,az.ok,isStr,isInt,bB,isBool,br,av,bD,aE,bC,aB,acy,aeq,aeM,pb,ae5,false_implies,true_implies,true_and,and_true,w0,w1,w2,d1,d2,d5,d6,TP]
   all_goals first | trivial | rfl | exact⟨rfl,rfl⟩ | exact⟨rfl,rfl,rfl⟩
end Go.Proofs.YtdmmllcjgjmbbaaGreatDoor.N
end
section
set_option linter.unusedSimpArgs false
set_option linter.unusedVariables false
namespace Go.Proofs.YtdmmllcjgjmbbaaGreatDoor.N
open Go Go.Am
def aaL:bH:=aT aH aA [(98,2)] [(98,0,3),(98,0,4)] [(98,8,0),(98,8,1)]
def adW:Sc:= .fin
def Gy (M:Mo) (fs:List Int) (i:Nat):az:=
 (.test (decide ((↑i:Int)<(↑fs.length:Int)))
 (.must (aW (↑i:Int) fs.length&&true&&true)
 (.must (isInt abY (aF (dZ abY fs) (aJ i*1))&&true)
 (.test (decide (ae6.wrap (av (aF (dZ abY fs) (aJ i*1)))≥ae6.wrap (sb.wrap ((↑M.aQ.length:Int)+(↑M.fns.length:Int)))))
 (.out (.ret (.au [sI .i64 6,sI .i64 0]) []))
 (.at (ak acb env 98 2 [.mp 0 0,.p (.ps fs.length 1 (dZ abY fs)),sI .i64 (↑fs.length:Int),sI .i64 (sb.wrap ((↑i:Int)+1))] ([.pc M.aI]) 0 40)))))
 (.out (.ret (.au [sI .i64 0,sI .i64 0]) [])))
theorem IA (M:Mo) (fs:List Int) (i:Nat):grow acb env aaL 1000000 true (ak acb env 98 2 ([AV.mp 0 0,AV.p (PV.ps fs.length 1 (dZ abY fs)),sI sb (↑fs.length:Int),sI sb (↑i:Int)]) ([aU.pc M.aI]) 0 40) adW atEnd=Gy M fs i:=by kernel_rfl
def Gz (c t:Int):Bool:=decide (ae6.wrap t≥ae6.wrap c)
def yC (M:Mo):Int:=sb.wrap ((M.aQ.length:Int)+(M.fns.length:Int))
def TQ (M:Mo) (x:El):Int:=if M.fR.length=0 then 6 else if(nk x.l==0)=true then(if x.fs.any (Gz (yC M))=true then 6 else 0) else 210
theorem W7 (M:Mo) (fs:List Int) (hl:fs.length≤1000000000) : ∀r i:Nat,i+r=fs.length→cO acb env (ak acb env 98 2 [.mp 0 0,.p (.ps fs.length 1 (dZ .u32 fs)),sI .i64 fs.length,sI .i64 i] [.pc M.aI] 0 40) (.ret (.au [sI .i64 (if(fs.drop i).any (Gz (yC M))=true then 6 else 0),sI .i64 0]) []):=by
 intro r
 induction r with
 |zero=>
  intro i hi
  obtain rfl:i=fs.length:=by omega
  have hd:decide ((fs.length:Int)<(fs.length:Int))=false:=decide_eq_false (by omega)
  refine aj aM (IA M fs fs.length) ?_
  simp only[Gy,bF,az.ok,hd,aeU,List.any_nil]
  exact⟨fun q=>(by cases q),fun _=>(by first | exact adV | rfl)⟩
 |succ r ih=>
  intro i hi
  have BP:i<fs.length:=by omega
  have hd:decide ((i:Int)<(fs.length:Int))=true:=decide_eq_true (by omega)
  have hin:aW (i:Int) fs.length=true:=by simp only[aW,c8,decide_eq_true_eq];omega
  have w:sb.wrap ((i:Int)+1)=((i+1:Nat):Int):=by rw[aN (by omega) (by omega)];rfl
  have c0:(dZ .u32 fs).getD (i*1) .bw = .sc (.int .u32 fs[i]):=by rw[Nat.mul_one,tH .u32 fs i BP,List.getD_eq_getElem?_getD,cb BP];rfl
  have k:=ih (i+1) (by omega)
  rw[aeT BP,List.any_cons]
  refine aj aM (IA M fs i) ?_
  simp only[Gy,bF,az.ok,isInt,av,acy,c0,hd,hin,w,aeq]
  refine⟨fun _=>⟨(by first | rfl | trivial),(by first | rfl | trivial),fun q=> ?_,fun q=> ?_⟩,fun q=>(by cases q)⟩
  · have e:Gz (yC M) fs[i]=true:=q
    rw[e];rfl
  · have e:Gz (yC M) fs[i]=false:=q
    rw[e,Bool.false_or];exact k
theorem Ka (M:Mo) (x:El) (hl:x.fs.length≤1000000000) (h:cN x.l≤100000000000):an acb env 98 [.agg (M.aI.map .p),.agg [aL x.l,.p (.ps x.fs.length 1 (dZ .u32 x.fs))],.fn (.func 88) [] []] [] (.au [sI .i64 (TQ M x),sI .i64 0]) []:=by
 refine af aM (RR M x.l x.fs (nk x.l==0)) ?_
 simp only[NW,az.ok]
 unfold TQ
 by_cases z:M.fR.length=0
 · rw[if_pos z]
   exact⟨fun _=>(by first | exact adV | rfl),fun q=>absurd z (by intro e;simp[e] at q)⟩
 · rw[if_neg z]
   refine⟨fun q=>absurd (by simpa using q) z,fun _=>⟨mO _ h,fun q=> ?_,fun q=> ?_⟩⟩
   · rw[if_neg (by simpa using q)]
   · rw[if_pos (by simpa using q)]
     exact W7 M x.fs hl x.fs.length 0 (by omega)
theorem So (M:Mo) {i:Nat} (hi:i<M.els.length) (hl:M.els[i].fs.length≤1000000000) (h:cN M.els[i].l≤100000000000):an acb env 97 [sI .i64 i,.mp 0 0,.mp 1 0] (zW M) (.au [sI .i64 (TQ M M.els[i]),sI .i64 0]) (zW M):=by
 have hx:M.els[i]? = some M.els[i]:=cb hi
 have c:=bp (z:=2) (enc:=bA) (fun _=>rfl) hx
 have c0:(M.els.flatMap bA).getD (i*2) .bw = .ps M.els[i].l.length 8 (aq M.els[i].l):=c 0 (by decide)
 have c1:(M.els.flatMap bA).getD (i*2+1) .bw = .ps M.els[i].fs.length 1 (dZ .u32 M.els[i].fs):=c 1 (by decide)
 have hin:aW (i:Int) M.els.length=true:=by simp only[aW,c8,decide_eq_true_eq];omega
 refine af aM (RP M i false (TQ M M.els[i])) ?_
 simp only[NV,bF,az.ok,bB,aE,bC,aB,acy,c0,c1,hin,aeq,aeM]
 exact⟨Ka M _ hl h,(by first | rfl | trivial),(by first | rfl | trivial),(by first | rfl | trivial)⟩
def Ot (M:Mo):Int:=match sj M M.sn.toNat with
 |none=>6
 |some y=>if(y.p==0&&(y.r==0&&true))=true then 0 else 213
theorem Sp (M:Mo) (hM:M.fit) (hs:0≤M.sn∧M.sn<4294967296) (i:Nat):an acb env 96 [sI .i64 i,.mp 0 0] (D5 M) (.au [sI .i64 (Ot M),sI .i64 0]) (D5 M):=by
 have t:=yB M hM M.sn.toNat (by omega)
 rw[Int.toNat_of_nonneg hs.1] at t
 unfold Ot
 cases e:sj M M.sn.toNat with
 |none=>
  rw[e] at t
  refine af aM (Ir M i 0 0 0 0 false) ?_
  simp only[Gs,az.ok]
  exact⟨t,fun _=>(by first | exact adV | rfl),fun q=>(by cases q)⟩
 |some y=>
  rw[e] at t
  refine af aM (Ir M i y.p y.r (if(y.p==0&&(y.r==0&&true))=true then 0 else 213) 0 true) ?_
  simp only[Gs,az.ok]
  exact⟨t,fun q=>(by cases q),fun _=>⟨eF _ 213,(by first | exact adV | rfl)⟩⟩
end Go.Proofs.YtdmmllcjgjmbbaaGreatDoor.N
end
