/-
How many instructions there are: what the laws' kit tells.
module.Check of any module; gimletkit.LargeWasm.
-/
import Derived.Test.YtdmmllcjgjmbbaaGreatDoorMH
import Derived.Test.YtdmmllcjgjmbbaaGreatDoorMK
import Derived.Test.YtdmmllcjgjmbbaaGreatDoorMM
section
set_option linter.unusedSimpArgs false
set_option linter.unusedVariables false
namespace Go.Proofs.YtdmmllcjgjmbbaaGreatDoor.N
open Go Go.Am
def OH (_:List Ins) (_ _ _:Int) (R:List AV→Int) (f:FuncId) (args:List AV) (m:Mem):Option (AV×Mem):=cond (Nat.beq f 23) (some (sI .i64 (R args),m)) none
noncomputable def TU:bu:=aK av az [(23,0)] [] []
def Yc:Sc:= .fin
noncomputable def OI (l:List Ins) (most:Int):Tree:=
 (.at (af Tryz.prog env 23 0 [AV.p (PV.ps l.length 8 (ak l)),AV.p (PV.sc (Value.int IntKind.i64 most)),AV.p (PV.sc (Value.int IntKind.i64 0)),AV.p (PV.sc (Value.int IntKind.i64 0))] ([]) 0 58))
theorem Lt (l:List Ins) (most:Int):aR Tryz.prog env TU 1000000 23 ([aL l,sI IntKind.i64 most]) ([]) Yc=OI l most:=by kernel_rfl
noncomputable def OJ (l:List Ins) (most:Int) (n:Int) (i:Int) (R:List AV→Int):bu:=aK (OH l most n i R) az [(23,0)] [(23,4,5),(23,0,1),(23,0,2),(23,0,3)] [(23,6,4),(23,6,6),(23,8,3),(23,8,5),(23,10,3),(23,10,5)]
def TV:Sc:=(.fork (.fork (.fork .fin (.no .fin)) .fin) (.lit .fin))
noncomputable def uF (l:List Ins) (most:Int) (n:Int) (i:Int) (R:List AV→Int):Tree:=
 (.test (decide (i<(↑l.length:Int)))
  (.test (decide (n≤most))
   (.must (aG i l.length&&true&&true)
    (.must (aH ((ak l).getD (i.toNat*8+5) PV.bad)&&true)
     (.test (decide (IntKind.i64.wrap (IntKind.i64.wrap (n+1)+bif true then Min.min (↑(aq ((ak l).getD (i.toNat*8+5) PV.bad)):Int) most else Max.max (↑(aq ((ak l).getD (i.toNat*8+5) PV.bad)):Int) most)≤most))
      (.must (aG i l.length&&true&&true)
       (.must (aH ((ak l).getD (i.toNat*8+6) PV.bad)&&true)
        (.call ⟨23,[AV.p (PV.ps (aq ((ak l).getD (i.toNat*8+6) PV.bad)) (aA ((ak l).getD (i.toNat*8+6) PV.bad)) (aj ((ak l).getD (i.toNat*8+6) PV.bad))),AV.p (PV.sc (Value.int IntKind.i64 (IntKind.i64.wrap (most-IntKind.i64.wrap (IntKind.i64.wrap (n+1)+bif true then Min.min (↑(aq ((ak l).getD (i.toNat*8+5) PV.bad)):Int) most else Max.max (↑(aq ((ak l).getD (i.toNat*8+5) PV.bad)):Int) most)))))],[],AV.p (PV.sc (Value.int IntKind.i64 (R [AV.p (PV.ps (aq ((ak l).getD (i.toNat*8+6) PV.bad)) (aA ((ak l).getD (i.toNat*8+6) PV.bad)) (aj ((ak l).getD (i.toNat*8+6) PV.bad))),AV.p (PV.sc (Value.int IntKind.i64 (IntKind.i64.wrap (most-IntKind.i64.wrap (IntKind.i64.wrap (n+1)+bif true then Min.min (↑(aq ((ak l).getD (i.toNat*8+5) PV.bad)):Int) most else Max.max (↑(aq ((ak l).getD (i.toNat*8+5) PV.bad)):Int) most)))))]))),[]⟩
         (.test (decide (IntKind.i64.wrap (IntKind.i64.wrap (IntKind.i64.wrap (n+1)+bif true then Min.min (↑(aq ((ak l).getD (i.toNat*8+5) PV.bad)):Int) most else Max.max (↑(aq ((ak l).getD (i.toNat*8+5) PV.bad)):Int) most)+R [AV.p (PV.ps (aq ((ak l).getD (i.toNat*8+6) PV.bad)) (aA ((ak l).getD (i.toNat*8+6) PV.bad)) (aj ((ak l).getD (i.toNat*8+6) PV.bad))),AV.p (PV.sc (Value.int IntKind.i64 (IntKind.i64.wrap (most-IntKind.i64.wrap (IntKind.i64.wrap (n+1)+bif true then Min.min (↑(aq ((ak l).getD (i.toNat*8+5) PV.bad)):Int) most else Max.max (↑(aq ((ak l).getD (i.toNat*8+5) PV.bad)):Int) most)))))])≤most))
          (.must (aG i l.length&&true&&true)
           (.must (aH ((ak l).getD (i.toNat*8+7) PV.bad)&&true)
            (.call ⟨23,[AV.p (PV.ps (aq ((ak l).getD (i.toNat*8+7) PV.bad)) (aA ((ak l).getD (i.toNat*8+7) PV.bad)) (aj ((ak l).getD (i.toNat*8+7) PV.bad))),AV.p (PV.sc (Value.int IntKind.i64 (IntKind.i64.wrap (most-IntKind.i64.wrap (IntKind.i64.wrap (IntKind.i64.wrap (n+1)+bif true then Min.min (↑(aq ((ak l).getD (i.toNat*8+5) PV.bad)):Int) most else Max.max (↑(aq ((ak l).getD (i.toNat*8+5) PV.bad)):Int) most)+R [AV.p (PV.ps (aq ((ak l).getD (i.toNat*8+6) PV.bad)) (aA ((ak l).getD (i.toNat*8+6) PV.bad)) (aj ((ak l).getD (i.toNat*8+6) PV.bad))),AV.p (PV.sc (Value.int IntKind.i64 (IntKind.i64.wrap (most-IntKind.i64.wrap (IntKind.i64.wrap (n+1)+bif true then Min.min (↑(aq ((ak l).getD (i.toNat*8+5) PV.bad)):Int) most else Max.max (↑(aq ((ak l).getD (i.toNat*8+5) PV.bad)):Int) most)))))])))))],[],AV.p (PV.sc (Value.int IntKind.i64 (R [AV.p (PV.ps (aq ((ak l).getD (i.toNat*8+7) PV.bad)) (aA ((ak l).getD (i.toNat*8+7) PV.bad)) (aj ((ak l).getD (i.toNat*8+7) PV.bad))),AV.p (PV.sc (Value.int IntKind.i64 (IntKind.i64.wrap (most-IntKind.i64.wrap (IntKind.i64.wrap (IntKind.i64.wrap (n+1)+bif true then Min.min (↑(aq ((ak l).getD (i.toNat*8+5) PV.bad)):Int) most else Max.max (↑(aq ((ak l).getD (i.toNat*8+5) PV.bad)):Int) most)+R [AV.p (PV.ps (aq ((ak l).getD (i.toNat*8+6) PV.bad)) (aA ((ak l).getD (i.toNat*8+6) PV.bad)) (aj ((ak l).getD (i.toNat*8+6) PV.bad))),AV.p (PV.sc (Value.int IntKind.i64 (IntKind.i64.wrap (most-IntKind.i64.wrap (IntKind.i64.wrap (n+1)+bif true then Min.min (↑(aq ((ak l).getD (i.toNat*8+5) PV.bad)):Int) most else Max.max (↑(aq ((ak l).getD (i.toNat*8+5) PV.bad)):Int) most)))))])))))]))),[]⟩
             (.at (af Tryz.prog env 23 0 [AV.p (PV.ps l.length 8 (ak l)),AV.p (PV.sc (Value.int IntKind.i64 most)),AV.p (PV.sc (Value.int IntKind.i64 (IntKind.i64.wrap (IntKind.i64.wrap (IntKind.i64.wrap (IntKind.i64.wrap (n+1)+bif true then Min.min (↑(aq ((ak l).getD (i.toNat*8+5) PV.bad)):Int) most else Max.max (↑(aq ((ak l).getD (i.toNat*8+5) PV.bad)):Int) most)+R [AV.p (PV.ps (aq ((ak l).getD (i.toNat*8+6) PV.bad)) (aA ((ak l).getD (i.toNat*8+6) PV.bad)) (aj ((ak l).getD (i.toNat*8+6) PV.bad))),AV.p (PV.sc (Value.int IntKind.i64 (IntKind.i64.wrap (most-IntKind.i64.wrap (IntKind.i64.wrap (n+1)+bif true then Min.min (↑(aq ((ak l).getD (i.toNat*8+5) PV.bad)):Int) most else Max.max (↑(aq ((ak l).getD (i.toNat*8+5) PV.bad)):Int) most)))))])+R [AV.p (PV.ps (aq ((ak l).getD (i.toNat*8+7) PV.bad)) (aA ((ak l).getD (i.toNat*8+7) PV.bad)) (aj ((ak l).getD (i.toNat*8+7) PV.bad))),AV.p (PV.sc (Value.int IntKind.i64 (IntKind.i64.wrap (most-IntKind.i64.wrap (IntKind.i64.wrap (IntKind.i64.wrap (n+1)+bif true then Min.min (↑(aq ((ak l).getD (i.toNat*8+5) PV.bad)):Int) most else Max.max (↑(aq ((ak l).getD (i.toNat*8+5) PV.bad)):Int) most)+R [AV.p (PV.ps (aq ((ak l).getD (i.toNat*8+6) PV.bad)) (aA ((ak l).getD (i.toNat*8+6) PV.bad)) (aj ((ak l).getD (i.toNat*8+6) PV.bad))),AV.p (PV.sc (Value.int IntKind.i64 (IntKind.i64.wrap (most-IntKind.i64.wrap (IntKind.i64.wrap (n+1)+bif true then Min.min (↑(aq ((ak l).getD (i.toNat*8+5) PV.bad)):Int) most else Max.max (↑(aq ((ak l).getD (i.toNat*8+5) PV.bad)):Int) most)))))])))))])))),AV.p (PV.sc (Value.int IntKind.i64 (IntKind.i64.wrap (i+1))))] ([]) 0 58)))))
          (.at (af Tryz.prog env 23 0 [AV.p (PV.ps l.length 8 (ak l)),AV.p (PV.sc (Value.int IntKind.i64 most)),AV.p (PV.sc (Value.int IntKind.i64 (IntKind.i64.wrap (IntKind.i64.wrap (IntKind.i64.wrap (n+1)+bif true then Min.min (↑(aq ((ak l).getD (i.toNat*8+5) PV.bad)):Int) most else Max.max (↑(aq ((ak l).getD (i.toNat*8+5) PV.bad)):Int) most)+R [AV.p (PV.ps (aq ((ak l).getD (i.toNat*8+6) PV.bad)) (aA ((ak l).getD (i.toNat*8+6) PV.bad)) (aj ((ak l).getD (i.toNat*8+6) PV.bad))),AV.p (PV.sc (Value.int IntKind.i64 (IntKind.i64.wrap (most-IntKind.i64.wrap (IntKind.i64.wrap (n+1)+bif true then Min.min (↑(aq ((ak l).getD (i.toNat*8+5) PV.bad)):Int) most else Max.max (↑(aq ((ak l).getD (i.toNat*8+5) PV.bad)):Int) most)))))])))),AV.p (PV.sc (Value.int IntKind.i64 (IntKind.i64.wrap (i+1))))] ([]) 0 58))))))
      (.must (!(decide (IntKind.i64.wrap (IntKind.i64.wrap (n+1)+bif true then Min.min (↑(aq ((ak l).getD (i.toNat*8+5) PV.bad)):Int) most else Max.max (↑(aq ((ak l).getD (i.toNat*8+5) PV.bad)):Int) most)≤most)))
       (.at (af Tryz.prog env 23 0 [AV.p (PV.ps l.length 8 (ak l)),AV.p (PV.sc (Value.int IntKind.i64 most)),AV.p (PV.sc (Value.int IntKind.i64 (IntKind.i64.wrap (IntKind.i64.wrap (n+1)+bif true then Min.min (↑(aq ((ak l).getD (i.toNat*8+5) PV.bad)):Int) most else Max.max (↑(aq ((ak l).getD (i.toNat*8+5) PV.bad)):Int) most)))),AV.p (PV.sc (Value.int IntKind.i64 (IntKind.i64.wrap (i+1))))] ([]) 0 58))))))
   (.out (Out.ret (AV.p (PV.sc (Value.int IntKind.i64 n))) [])))
  (.out (Out.ret (AV.p (PV.sc (Value.int IntKind.i64 n))) [])))
theorem x9 (l:List Ins) (most:Int) (n:Int) (i:Int) (R:List AV→Int):grow Tryz.prog env (OJ l most n i R) 1000000 true (af Tryz.prog env 23 0 ([aL l,sI IntKind.i64 most,sI IntKind.i64 n,sI IntKind.i64 i]) ([]) 0 58) TV atEnd=uF l most n i R:=by kernel_rfl
theorem Cf (R:List AV→Int) (hR : ∀l most,R [aL l,sI .i64 most]=bZ l most 0) (l:List Ins) (most:Int) (h0:0≤most) (hm:most≤1000000000000) (hl:l.length≤maxLen)
  (IH : ∀x∈l,∀m':Int,0≤m'→m'≤most→aC Tryz.prog env 23 [aL x.l,sI .i64 m'] [] (sI .i64 (bZ x.l m' 0)) []∧aC Tryz.prog env 23 [aL x.e,sI .i64 m'] [] (sI .i64 (bZ x.e m' 0)) []) :
  ∀(r k:Nat) (n:Int),k+r=l.length→0≤n→n≤2*most+1→Am.Good Tryz.prog env (af Tryz.prog env 23 0 [aL l,sI .i64 most,sI .i64 n,sI .i64 k] [] 0 58) (.ret (sI .i64 (bZ (l.drop k) most n)) []):=by
 intro r
 induction r with
 |zero=>
  intro k n hk hn0 hn
  refine aa names (x9 l most n k R) ?_
  have h1:l.drop k=[]:=List.drop_eq_nil_of_le (by omega)
  have h2 : ¬((k:Int)<l.length):=by omega
  simp[uF,Tree.ok,h1,h2,bZ]
 |succ r ih=>
  intro k n hk hn0 hn
  refine aa names (x9 l most n k R) ?_
  have kK:k<l.length:=by omega
  have DD:l[k]? = some l[k]:=List.getElem?_eq_getElem kK
  have hmem:l[k]∈l:=List.getElem_mem kK
  have hd:l.drop k=l[k]::l.drop (k+1):=List.drop_eq_getElem_cons kK
  rw[hd]
  generalize l[k]=x at *
  obtain⟨op,rs,a,b,nn,tags,ll,le⟩:=x
  have hc:=qh DD
  have c5:(ak l).getD (k*8+5) .bad = .ps tags.length 1 (eK .u32 tags):=hc 5 (by omega)
  have c6:(ak l).getD (k*8+6) .bad = .ps ll.length 8 (ak ll):=hc 6 (by omega)
  have c7:(ak l).getD (k*8+7) .bad = .ps le.length 8 (ak le):=hc 7 (by omega)
  have hML:maxLen=9223372036854775807:=rfl
  have hw:IntKind.i64.wrap ((k:Int)+1)=((k+1:Nat):Int):=by rw[aD (by omega) (by omega)];rfl
  have hw1:IntKind.i64.wrap (n+1)=n+1:=aD (by omega) (by omega)
  have uG:(k:Int)<(l.length:Int):=by omega
  simp only[uF,Tree.ok,c5,c6,c7,aq,aA,aj,aH,Int.toNat_natCast,aG,cond_true,hw,hw1]
  refine⟨fun _=>⟨fun hnm=>⟨by simp[uG],rfl,?_⟩,fun hnm=> ?_⟩,fun h=>absurd uG (by simpa using h)⟩
  · have hnm:n≤most:=by simpa using hnm
    have pF:=IH _ hmem
    simp only[bZ,if_pos hnm,uc,Ins.l,Ins.e] at pF ⊢
    generalize hn1:n+1+min (tags.length:Int) most=n1
    have Wq:0≤n1∧n1≤2*most+1:=by omega
    have Zh:IntKind.i64.wrap n1=n1:=aD (by omega) (by omega)
    simp only[Zh]
    have hw3:IntKind.i64.wrap (most-n1)=most-n1:=aD (by omega) (by omega)
    simp only[hw3,hR]
    refine⟨fun h1=> ?_,fun h1=> ?_⟩
    · have h1:n1≤most:=by simpa using h1
      rw[if_pos h1]
      have hb:=bO ll (most-n1) 0 (by omega) (by omega) (by omega)
      have hw4:IntKind.i64.wrap (n1+bZ ll (most-n1) 0)=n1+bZ ll (most-n1) 0:=aD (by omega) (by omega)
      refine⟨by simp[uG],rfl,(pF (most-n1) (by omega) (by omega)).1,?_⟩
      simp only[hw4]
      generalize hn2:n1+bZ ll (most-n1) 0=n2
      have V5:0≤n2∧n2≤2*most+1:=by omega
      have hw5:IntKind.i64.wrap (most-n2)=most-n2:=aD (by omega) (by omega)
      simp only[hw5]
      refine⟨fun h2=> ?_,fun h2=> ?_⟩
      · have h2:n2≤most:=by simpa using h2
        rw[if_pos h2]
        have hb2:=bO le (most-n2) 0 (by omega) (by omega) (by omega)
        have hw6:IntKind.i64.wrap (n2+bZ le (most-n2) 0)=n2+bZ le (most-n2) 0:=aD (by omega) (by omega)
        refine⟨by simp[uG],rfl,(pF (most-n2) (by omega) (by omega)).2,?_⟩
        simp only[hw6]
        exact ih (k+1) _ (by omega) (by omega) (by omega)
      · have h2 : ¬n2≤most:=by simpa using h2
        rw[if_neg h2]
        exact ih (k+1) n2 (by omega) (by omega) (by omega)
    · have h1 : ¬n1≤most:=by simpa using h1
      rw[if_neg h1,if_neg h1]
      refine⟨by simpa using h1,?_⟩
      exact ih (k+1) n1 (by omega) (by omega) (by omega)
  · have hnm : ¬n≤most:=by simpa using hnm
    simp only[bZ,if_neg hnm]
theorem JH {l m:List Ins} (h:aL l=aL m):l=m:=by
 simp only[AV.p.injEq,PV.ps.injEq] at h
 exact jI h.2.2
open Classical in
noncomputable def TW (args:List AV):Int:=if h : ∃l most,args=[aL l,sI .i64 most] then bZ h.choose h.choose_spec.choose 0 else 0
theorem OK (l:List Ins) (most:Int):TW [aL l,sI .i64 most]=bZ l most 0:=by
 have h : ∃l' most',[aL l,sI .i64 most]=[aL l',sI .i64 most']:=⟨l,most,rfl⟩
 have e:=h.choose_spec.choose_spec
 unfold TW
 rw[dif_pos h]
 have e1:=JH (List.cons.inj e).1
 have e2:most=h.choose_spec.choose:=by
  have:=(List.cons.inj (List.cons.inj e).2).1
  simpa only[AV.p.injEq,PV.sc.injEq,Value.int.injEq,true_and] using this
 have e:(h.choose,h.choose_spec.choose)=(l,most):=by rw[Prod.mk.injEq];exact⟨e1.symm,e2.symm⟩
 exact congrArg (fun q:List Ins×Int=>bZ q.1 q.2 0) e
theorem fy : ∀(N:Nat) (l:List Ins) (most:Int),dU l≤N→l.length≤maxLen→QN l→0≤most→most≤1000000000000→aC Tryz.prog env 23 [aL l,sI .i64 most] [] (sI .i64 (bZ l most 0)) []
 |N,l,most,hN,hl,hw,h0,hm=>by
  have IH : ∀x∈l,∀m':Int,0≤m'→m'≤most→aC Tryz.prog env 23 [aL x.l,sI .i64 m'] [] (sI .i64 (bZ x.l m' 0)) []∧aC Tryz.prog env 23 [aL x.e,sI .i64 m'] [] (sI .i64 (bZ x.e m' 0)) []:=by
   intro x hx m' h0' hm'
   have hc:=iL hx
   have Yd:=Go.Am.E3 hw hx
   obtain⟨op,rs,a,b,nn,tags,ll,le⟩:=x
   simp only[nF] at hc
   simp only[W2] at Yd
   match N,hN with
   |0,hN=>omega
   |N+1,hN=>exact⟨fy N ll m' (by omega) Yd.2.2.2.2.2.2.1.1 Yd.2.2.2.2.2.2.1.2 h0' (by omega),fy N le m' (by omega) Yd.2.2.2.2.2.2.2.1 Yd.2.2.2.2.2.2.2.2 h0' (by omega)⟩
  refine ah names (Lt l most) ?_
  have h:=Cf TW OK l most h0 hm hl IH l.length 0 0 (by omega) (by omega) (by omega)
  rw[List.drop_zero] at h
  exact h
end Go.Proofs.YtdmmllcjgjmbbaaGreatDoor.N
end
section
set_option linter.unusedSimpArgs false
set_option linter.unusedVariables false
namespace Go.Proofs.YtdmmllcjgjmbbaaGreatDoor.N
open Go Go.Am
def lrC (M:Mo) (most n:Int) (i:Nat) (r:Int) (_:Nat) (f:FuncId) (_:List AV) (m:Mem):Option (AV×Mem):=cond (Nat.beq f 23) (some (sI .i64 r,m)) none
noncomputable def TX:bu:=aK av az [(6,1)] [(6,0,0)] []
def Ye:Sc:= .fin
noncomputable def FJ (M:Mo) (most:Int):Tree:=
 (.test (decide (IntKind.i64.wrap (IntKind.i64.wrap (IntKind.i64.wrap (IntKind.i64.wrap (IntKind.i64.wrap (IntKind.i64.wrap (IntKind.i64.wrap (IntKind.i64.wrap ((↑M.tys.length:Int)+(↑M.aI.length:Int))+(↑M.fns.length:Int))+(↑M.bW.length:Int))+(↑M.bX.length:Int))+(↑M.gls.length:Int))+(↑M.exs.length:Int))+(↑M.els.length:Int))+(↑M.aW.length:Int))>most))
 (.out (.ret (sB true) []))
 (.at (af Tryz.prog env 6 1 [sI .i64 most,.mp 0 0,sI .i64 (IntKind.i64.wrap (IntKind.i64.wrap (IntKind.i64.wrap (IntKind.i64.wrap (IntKind.i64.wrap (IntKind.i64.wrap (IntKind.i64.wrap (IntKind.i64.wrap ((↑M.tys.length:Int)+(↑M.aI.length:Int))+(↑M.fns.length:Int))+(↑M.bW.length:Int))+(↑M.bX.length:Int))+(↑M.gls.length:Int))+(↑M.exs.length:Int))+(↑M.els.length:Int))+(↑M.aW.length:Int))),sI .i64 0] ([.pc M.aE]) 0 188)))
theorem Lu (M:Mo) (most:Int):aR Tryz.prog env TX 1000000 6 ([AV.agg (List.map AV.p M.aE),sI IntKind.i64 most]) ([]) Ye=FJ M most:=by kernel_rfl
noncomputable def OL:bu:=aK av az [(6,1),(6,3)] [(6,0,2)] [(6,8,4),(6,8,7)]
noncomputable def TY (M:Mo) (most n:Int) (i:Nat) (r:Int):Sc:=(.fork (.ans 23 (sI .i64 r) ([]) .fin) .fin)
noncomputable def uH (M:Mo) (most n:Int) (i:Nat) (r:Int):Tree:=
 (.test (decide ((↑i:Int)<(↑M.fns.length:Int)))
 (.must (aG (↑i:Int) M.fns.length&&true&&true)
 (.must (aH ((List.flatMap aB M.fns).getD ((↑i:Int).toNat*3+1+1) PV.bad)&&true)
 (.call ⟨23,[.p (.ps (aq ((List.flatMap aB M.fns).getD ((↑i:Int).toNat*3+1+1) PV.bad)) (aA ((List.flatMap aB M.fns).getD ((↑i:Int).toNat*3+1+1) PV.bad)) (aj ((List.flatMap aB M.fns).getD ((↑i:Int).toNat*3+1+1) PV.bad))),sI .i64 most],[],sI .i64 r,[]⟩
 (.at (af Tryz.prog env 6 1 [sI .i64 most,.mp 0 0,sI .i64 (IntKind.i64.wrap (n+r)),sI .i64 (IntKind.i64.wrap ((↑i:Int)+1))] ([.pc M.aE]) 0 188)))))
 (.at (af Tryz.prog env 6 3 [sI .i64 most,.mp 0 0,sI .i64 n,sI .i64 0] ([.pc M.aE]) 0 188)))
theorem ya (M:Mo) (most n:Int) (i:Nat) (r:Int):grow Tryz.prog env OL 1000000 true (af Tryz.prog env 6 1 ([sI IntKind.i64 most,AV.mp 0 0,sI IntKind.i64 n,sI IntKind.i64 (↑i:Int)]) ([bg.pc M.aE]) 0 188) (TY M most n i r) atEnd=uH M most n i r:=by kernel_rfl
noncomputable def OM:bu:=aK av az [(6,3),(6,5)] [(6,0,4)] [(6,12,4),(6,12,6)]
noncomputable def TZ (M:Mo) (most n:Int) (i:Nat) (r:Int):Sc:=(.fork (.ans 23 (sI .i64 r) ([]) .fin) .fin)
noncomputable def uI (M:Mo) (most n:Int) (i:Nat) (r:Int):Tree:=
 (.test (decide ((↑i:Int)<(↑M.gls.length:Int)))
 (.must (aG (↑i:Int) M.gls.length&&true&&true)
 (.must (aH ((List.flatMap aY M.gls).getD ((↑i:Int).toNat*2+1) PV.bad)&&true)
 (.call ⟨23,[.p (.ps (aq ((List.flatMap aY M.gls).getD ((↑i:Int).toNat*2+1) PV.bad)) (aA ((List.flatMap aY M.gls).getD ((↑i:Int).toNat*2+1) PV.bad)) (aj ((List.flatMap aY M.gls).getD ((↑i:Int).toNat*2+1) PV.bad))),sI .i64 most],[],sI .i64 r,[]⟩
 (.at (af Tryz.prog env 6 3 [sI .i64 most,.mp 0 0,sI .i64 (IntKind.i64.wrap (n+r)),sI .i64 (IntKind.i64.wrap ((↑i:Int)+1))] ([.pc M.aE]) 0 188)))))
 (.at (af Tryz.prog env 6 5 [sI .i64 most,.mp 0 0,sI .i64 n,sI .i64 0] ([.pc M.aE]) 0 188)))
theorem yc (M:Mo) (most n:Int) (i:Nat) (r:Int):grow Tryz.prog env OM 1000000 true (af Tryz.prog env 6 3 ([sI IntKind.i64 most,AV.mp 0 0,sI IntKind.i64 n,sI IntKind.i64 (↑i:Int)]) ([bg.pc M.aE]) 0 188) (TZ M most n i r) atEnd=uI M most n i r:=by kernel_rfl
noncomputable def ON:bu:=aK av az [(6,5),(6,7)] [(6,0,6)] [(6,0,7)]
noncomputable def T0 (M:Mo) (most n:Int) (i:Nat) (r:Int):Sc:=(.fork (.tU 6 15 (lrC M most n i r 0) .fin) .fin)
noncomputable def uJ (M:Mo) (most n:Int) (i:Nat) (r:Int):Tree:=
 (.test (decide ((↑i:Int)<(↑M.els.length:Int)))
 (.call ⟨23,[.p (.ps (aq ((List.flatMap aJ M.els).getD ((↑i:Int).toNat*2+0) PV.bad)) (aA ((List.flatMap aJ M.els).getD ((↑i:Int).toNat*2+0) PV.bad)) (aj ((List.flatMap aJ M.els).getD ((↑i:Int).toNat*2+0) PV.bad))),sI .i64 most],[],sI .i64 r,[]⟩
 (.must (aG (↑i:Int) M.els.length&&true&&true&&(aH ((List.flatMap aJ M.els).getD ((↑i:Int).toNat*2+0) PV.bad)&&true&&(aG (↑i:Int) M.els.length&&true&&true&&(aH ((List.flatMap aJ M.els).getD ((↑i:Int).toNat*2+1) PV.bad)&&true&&true)))&&true)
 (.at (af Tryz.prog env 6 5 [sI .i64 most,.mp 0 0,sI .i64 (IntKind.i64.wrap (IntKind.i64.wrap (n+r)+bif true then Min.min (↑(aq ((List.flatMap aJ M.els).getD ((↑i:Int).toNat*2+1) PV.bad)):Int) most else Max.max (↑(aq ((List.flatMap aJ M.els).getD ((↑i:Int).toNat*2+1) PV.bad)):Int) most)),sI .i64 (IntKind.i64.wrap ((↑i:Int)+1))] ([.pc M.aE]) 0 188))))
 (.at (af Tryz.prog env 6 7 [sI .i64 most,.mp 0 0,sI .i64 n,sI .i64 0] ([.pc M.aE]) 0 188)))
theorem yd (M:Mo) (most n:Int) (i:Nat) (r:Int):grow Tryz.prog env ON 1000000 true (af Tryz.prog env 6 5 ([sI IntKind.i64 most,AV.mp 0 0,sI IntKind.i64 n,sI IntKind.i64 (↑i:Int)]) ([bg.pc M.aE]) 0 188) (T0 M most n i r) atEnd=uJ M most n i r:=by kernel_rfl
noncomputable def OO:bu:=aK av az [(6,7),(6,9)] [(6,0,8)] [(6,0,9)]
noncomputable def T1 (M:Mo) (most n:Int) (i:Nat) (r:Int):Sc:=(.fork (.tU 6 19 (lrC M most n i r 0) .fin) .fin)
noncomputable def uK (M:Mo) (most n:Int) (i:Nat) (r:Int):Tree:=
 (.test (decide ((↑i:Int)<(↑M.aW.length:Int)))
 (.call ⟨23,[.p (.ps (aq ((List.flatMap aV M.aW).getD ((↑i:Int).toNat*2+0) PV.bad)) (aA ((List.flatMap aV M.aW).getD ((↑i:Int).toNat*2+0) PV.bad)) (aj ((List.flatMap aV M.aW).getD ((↑i:Int).toNat*2+0) PV.bad))),sI .i64 most],[],sI .i64 r,[]⟩
 (.must (aG (↑i:Int) M.aW.length&&true&&true&&(aH ((List.flatMap aV M.aW).getD ((↑i:Int).toNat*2+0) PV.bad)&&true&&(aG (↑i:Int) M.aW.length&&true&&true&&(aH ((List.flatMap aV M.aW).getD ((↑i:Int).toNat*2+1) PV.bad)&&true&&true)))&&true)
 (.at (af Tryz.prog env 6 7 [sI .i64 most,.mp 0 0,sI .i64 (IntKind.i64.wrap (IntKind.i64.wrap (n+r)+bif true then Min.min (↑(aq ((List.flatMap aV M.aW).getD ((↑i:Int).toNat*2+1) PV.bad)):Int) most else Max.max (↑(aq ((List.flatMap aV M.aW).getD ((↑i:Int).toNat*2+1) PV.bad)):Int) most)),sI .i64 (IntKind.i64.wrap ((↑i:Int)+1))] ([.pc M.aE]) 0 188))))
 (.at (af Tryz.prog env 6 9 [sI .i64 most,.mp 0 0,sI .i64 n,sI .i64 0] ([.pc M.aE]) 0 188)))
theorem yf (M:Mo) (most n:Int) (i:Nat) (r:Int):grow Tryz.prog env OO 1000000 true (af Tryz.prog env 6 7 ([sI IntKind.i64 most,AV.mp 0 0,sI IntKind.i64 n,sI IntKind.i64 (↑i:Int)]) ([bg.pc M.aE]) 0 188) (T1 M most n i r) atEnd=uK M most n i r:=by kernel_rfl
noncomputable def OP:bu:=aK av az [(6,9),(6,11)] [(6,0,10)] [(6,0,11)]
noncomputable def T2 (M:Mo) (most n:Int) (i:Nat) (r:Int):Sc:= .fin
noncomputable def uL (M:Mo) (most n:Int) (i:Nat) (r:Int):Tree:=
 (.test (decide ((↑i:Int)<(↑M.aI.length:Int)))
 (.must (aG (↑i:Int) M.aI.length&&true&&(isStr ((List.flatMap aQ M.aI).getD ((↑i:Int).toNat*3+0) PV.bad)&&(aG (↑i:Int) M.aI.length&&true&&(isStr ((List.flatMap aQ M.aI).getD ((↑i:Int).toNat*3+1) PV.bad)&&true)))&&true)
 (.at (af Tryz.prog env 6 9 [sI .i64 most,.mp 0 0,sI .i64 (IntKind.i64.wrap (IntKind.i64.wrap (n+bif true then Min.min (↑(aN ((List.flatMap aQ M.aI).getD ((↑i:Int).toNat*3+0) PV.bad)).data.toList.length:Int) most else Max.max (↑(aN ((List.flatMap aQ M.aI).getD ((↑i:Int).toNat*3+0) PV.bad)).data.toList.length:Int) most)+bif true then Min.min (↑(aN ((List.flatMap aQ M.aI).getD ((↑i:Int).toNat*3+1) PV.bad)).data.toList.length:Int) most else Max.max (↑(aN ((List.flatMap aQ M.aI).getD ((↑i:Int).toNat*3+1) PV.bad)).data.toList.length:Int) most)),sI .i64 (IntKind.i64.wrap ((↑i:Int)+1))] ([.pc M.aE]) 0 188)))
 (.at (af Tryz.prog env 6 11 [sI .i64 most,.mp 0 0,sI .i64 n,sI .i64 0] ([.pc M.aE]) 0 188)))
theorem yg (M:Mo) (most n:Int) (i:Nat) (r:Int):grow Tryz.prog env OP 1000000 true (af Tryz.prog env 6 9 ([sI IntKind.i64 most,AV.mp 0 0,sI IntKind.i64 n,sI IntKind.i64 (↑i:Int)]) ([bg.pc M.aE]) 0 188) (T2 M most n i r) atEnd=uL M most n i r:=by kernel_rfl
noncomputable def OQ:bu:=aK av az [(6,11)] [(6,0,12)] [(6,28,4),(6,28,6)]
noncomputable def T3 (M:Mo) (most n:Int) (i:Nat) (r:Int):Sc:= .fin
noncomputable def uM (M:Mo) (most n:Int) (i:Nat) (r:Int):Tree:=
 (.test (decide ((↑i:Int)<(↑M.exs.length:Int)))
 (.must (aG (↑i:Int) M.exs.length&&true&&true)
 (.must (isStr ((List.flatMap aP M.exs).getD ((↑i:Int).toNat*3+0) PV.bad)&&true)
 (.at (af Tryz.prog env 6 11 [sI .i64 most,.mp 0 0,sI .i64 (IntKind.i64.wrap (n+bif true then Min.min (↑(aN ((List.flatMap aP M.exs).getD ((↑i:Int).toNat*3+0) PV.bad)).data.toList.length:Int) most else Max.max (↑(aN ((List.flatMap aP M.exs).getD ((↑i:Int).toNat*3+0) PV.bad)).data.toList.length:Int) most)),sI .i64 (IntKind.i64.wrap ((↑i:Int)+1))] ([.pc M.aE]) 0 188))))
 (.out (.ret (.p (.sc (.bool (decide (n>most))))) [])))
theorem yh (M:Mo) (most n:Int) (i:Nat) (r:Int):grow Tryz.prog env OQ 1000000 true (af Tryz.prog env 6 11 ([sI IntKind.i64 most,AV.mp 0 0,sI IntKind.i64 n,sI IntKind.i64 (↑i:Int)]) ([bg.pc M.aE]) 0 188) (T3 M most n i r) atEnd=uM M most n i r:=by kernel_rfl
theorem Lv (s:ByteArray) (hs:s.size≤maxLen):aC Tryz.prog env 66 [.p (.sc (.string s))] [] (sB (decide (l7 s≥0))) []:=
 ah names (Ky s (l7 s)) ⟨aC.W1 (m:=[.tok]) (args:=[.os (some 0) s.data.toList.length 1 (s.data.toList.map fc)]) (Hj s hs) ⟨QM.os (.refl _),trivial⟩,rfl⟩
def uN (s:ByteArray):Bool:=decide (l7 s≥0)
def uO (M:Mo):Bool:=M.tys.any rF||M.aI.any oP||M.fns.any oQ||(kO M).any uN||M.bW.any (gW 1048576)||M.bX.any (gW 65536)||M.exs.any oS||(!M.st&&M.sn != 0)
def Cg (M:Mo):Int:=if uO M=true then 2 else if fC M 2=true then 2 else 0
theorem T4 {M:Mo} (hM:M.wf) : ∀s∈kO M,s.size≤maxLen:=by
 intro s hs
 rcases List.mem_append.1 hs with h | h
 · obtain⟨x,hx,h⟩:=List.mem_flatMap.1 h
   have q:=hM.aI.2 x hx
   simp only[List.mem_cons,List.not_mem_nil,or_false] at h
   rcases h with rfl | rfl
   · exact q.1
   · exact q.2.1
 · obtain⟨x,hx,rfl⟩:=List.mem_map.1 h
   exact(hM.exs.2 x hx).1
theorem Hl (M:Mo) (hM:M.fit) (hw:M.wf) (hs:M.qk):aC Tryz.prog env 29 [.agg (M.aE.map .p)] [] (sI .i64 (Cg M)) []:=by
 have f1:=KQ M.tys (by have:=hM.tys;omega) rF (fun x _=>K4 x)
 have f2:=KS M.aI (by have:=hM.aI;omega) oP (fun x _=>K7 x)
 have f3:=KU M.fns (by have:=hM.fns;omega) oQ (fun x _=>K9 x)
 have f4:=KO (kO M) (qj hM) uN (fun x hx=>Lv x (T4 hw x hx))
 have f5:=KW M.bW (by have:=hM.bW;omega) (gW 1048576) (fun x _=>K5 x)
 have f6:=KY M.bX (by have:=hM.bX;omega) (gW 65536) (fun x _=>K6 x)
 have f7:=K0 M.exs (by have:=hM.exs;omega) oS (fun x _=>K8 x)
 have f8:=qX M hM hs 2
 have nd:=La M hM
 have hF:Cg M=if uO M=true then 2 else if fC M 2=true then 2 else 0:=rfl
 have hB:uO M=(M.tys.any rF||M.aI.any oP||M.fns.any oQ||(kO M).any uN||M.bW.any (gW 1048576)||M.bX.any (gW 65536)||M.exs.any oS||(!M.st&&M.sn != 0)):=rfl
 refine ah names (KI M (M.tys.any rF) (M.aI.any oP) (M.fns.any oQ) ((kO M).any uN) (M.bW.any (gW 1048576)) (M.bX.any (gW 65536)) (M.exs.any oS) (kO M).length ((kO M).flatMap cS) (if fC M 2=true then 2 else 0)) ?_
 generalize (if fC M 2=true then(2:Int) else 0)=v at f8 hF ⊢
 rw[hF,hB]
 generalize M.tys.any rF=b1 at *
 generalize M.aI.any oP=b2 at *
 generalize M.fns.any oQ=b3 at *
 generalize (kO M).any uN=b4 at *
 generalize M.bW.any (gW 1048576)=b5 at *
 generalize M.bX.any (gW 65536)=b6 at *
 generalize M.exs.any oS=b7 at *
 simp only[FA,Tree.ok]
 refine⟨f1,fun q1=> ?_,fun q1=>⟨f2,fun q2=> ?_,fun q2=>⟨f3,fun q3=> ?_,fun q3=>⟨nd,f4,fun q4=> ?_,fun q4=>⟨f5,fun q5=> ?_,fun q5=>⟨f6,fun q6=> ?_,fun q6=>⟨f7,fun q7=> ?_,fun q7=>⟨fun q9=>⟨fun q8=> ?_,fun q8=>⟨f8,?_⟩⟩,fun q9=>⟨f8,?_⟩⟩⟩⟩⟩⟩⟩⟩⟩
 · rw[if_pos (by simp only[q1,Bool.true_or])]
 · rw[if_pos (by simp only[q2,Bool.true_or,Bool.or_true])]
 · rw[if_pos (by simp only[q3,Bool.true_or,Bool.or_true])]
 · rw[if_pos (by simp only[q4,Bool.true_or,Bool.or_true])]
 · rw[if_pos (by simp only[q5,Bool.true_or,Bool.or_true])]
 · rw[if_pos (by simp only[q6,Bool.true_or,Bool.or_true])]
 · rw[if_pos (by simp only[q7,Bool.true_or,Bool.or_true])]
 · rw[if_pos (by simp only[q8,q9,Bool.and_true,Bool.or_true])]
 · rw[if_neg (by simp only[q1,q2,q3,q4,q5,q6,q7,q8,Bool.and_false,Bool.or_false,Bool.false_eq_true,not_false_eq_true])]
 · rw[if_neg (by simp only[q1,q2,q3,q4,q5,q6,q7,q9,Bool.false_and,Bool.or_false,Bool.false_eq_true,not_false_eq_true])]
def yj (M:Mo):Int:=if x8 M≠0 then x8 M else if Cb M≠0 then Cb M else Cg M
theorem Ch (M:Mo) (hM:M.fit) (hw:M.wf) (hs:M.qk):aC Tryz.prog env 12 [.agg (M.aE.map .p)] [] (sI .i64 (yj M)) []:=by
 refine ah names (Hf M (x8 M) (Cb M) (Cg M)) ?_
 simp only[B9,Tree.ok,yj,bne_iff_ne,ne_eq,bne_eq_false_iff_eq]
 refine⟨Hh M hM hs,fun q=> ?_,fun q=>⟨Hg M hM,fun r=> ?_,fun r=>⟨Hl M hM hw hs,fun t=> ?_,fun t=> ?_⟩⟩⟩
 · rw[if_pos q]
 · rw[if_neg (by simpa using q),if_pos r]
 · rw[if_neg (by simpa using q),if_neg (by simpa using r)]
 · rw[if_neg (by simpa using q),if_neg (by simpa using r),t]
def mK (x:Fu):Int:=bZ x.l 5000 0
def pG (x:Gl):Int:=bZ x.l 5000 0
def vQ (x:El):Int:=bZ x.l 5000 0+min (x.fs.length:Int) 5000
def CT (x:Da):Int:=bZ x.l 5000 0+min (x.bs.length:Int) 5000
def Nj (x:Im):Int:=min (x.mo.data.toList.length:Int) 5000+min (x.nm.data.toList.length:Int) 5000
def T5 (x:Ex):Int:=min (x.nm.data.toList.length:Int) 5000
def bG {α:Type} (w:α→Int):Int→List α→Int
 |n,[]=>n
 |n,x::r=>bG w (n+w x) r
noncomputable def eC (M:Mo) (t:Nat) (n:Int) (i:Nat):bJ:=af Tryz.prog env 6 t [sI .i64 5000,.mp 0 0,sI .i64 n,sI .i64 i] [.pc M.aE] 0 188
theorem mL {α:Type} {l:List α} {w:α→Int} {D:Int→Nat→bJ} {K:Int→Prop} {o:Out} (hw : ∀x:α,0≤w x∧w x≤20000)
  (step : ∀(n:Int) (i:Nat) (x:α),l[i]? = some x→0≤n→n+w x≤1000000000000000→Am.Good Tryz.prog env (D (n+w x) (i+1)) o→Am.Good Tryz.prog env (D n i) o)
  (fin : ∀n,K n→Am.Good Tryz.prog env (D n l.length) o) :
  ∀(r i:Nat) (n:Int),i+r=l.length→0≤n→n+r*20000≤1000000000000000→K (bG w n (l.drop i))→Am.Good Tryz.prog env (D n i) o:=by
 intro r
 induction r with
 |zero=>
  intro i n hi h0 hn h
  obtain rfl:i=l.length:=by omega
  rw[List.drop_length] at h
  exact fin n h
 |succ r ih=>
  intro i n hi h0 hn h
  have hl:i<l.length:=by omega
  rw[List.drop_eq_getElem_cons hl] at h
  have hx:=hw l[i]
  exact step n i l[i] (List.getElem?_eq_getElem hl) h0 (by omega) (ih (i+1) _ (by omega) (by omega) (by omega) h)
theorem bQ {α:Type} {w:α→Int} (hw : ∀x:α,0≤w x∧w x≤20000) : ∀(l:List α) (n:Int),n≤bG w n l∧bG w n l≤n+l.length*20000
 |[],n=>by simp[bG]
 |x::r,n=>by
  have h:=bQ hw r (n+w x)
  have hx:=hw x
  simp only[bG,List.length_cons]
  omega
theorem hG {α:Type} {w:α→Int} (hw : ∀x:α,0≤w x∧w x≤20000) : ∀(l:List α) (n:Int) (x:α),x∈l→n+w x≤bG w n l
 |y::r,n,x,h=>by
  have hy:=hw y
  rcases List.mem_cons.1 h with rfl | h
  · exact(bQ hw r (n+w x)).1
  · have:=hG hw r (n+w y) x h
    simp only[bG]
    omega
theorem yl (x:Fu):0≤mK x∧mK x≤20000:=by have h:=bO x.l 5000 0 (by decide) (by decide) (by decide);unfold mK;omega
theorem ym (x:Gl):0≤pG x∧pG x≤20000:=by have h:=bO x.l 5000 0 (by decide) (by decide) (by decide);unfold pG;omega
theorem yp (x:El):0≤vQ x∧vQ x≤20000:=by have h:=bO x.l 5000 0 (by decide) (by decide) (by decide);unfold vQ;omega
theorem yq (x:Da):0≤CT x∧CT x≤20000:=by have h:=bO x.l 5000 0 (by decide) (by decide) (by decide);unfold CT;omega
theorem FK (x:Im):0≤Nj x∧Nj x≤20000:=by unfold Nj;omega
theorem Lw (x:Ex):0≤T5 x∧T5 x≤20000:=by unfold T5;omega
theorem Lx (M:Mo) (hM:M.wf) (h5:M.fns.length≤5000) (o:Out) (n:Int) (i:Nat) (x:Fu) (hx:M.fns[i]? = some x) (h0:0≤n) (hn:n+mK x≤1000000000000000) (h:Am.Good Tryz.prog env (eC M 1 (n+mK x) (i+1)) o):Am.Good Tryz.prog env (eC M 1 n i) o:=by
 have hi:i<M.fns.length:=(List.getElem?_eq_some_iff.1 hx).1
 have c:=aM (z:=3) (enc:=aB) (fun _=>rfl) hx
 have c20:(M.fns.flatMap aB).getD (i*3+1+1) .bad=pL x.l:=c 2 (by decide)
 have c21:(M.fns.flatMap aB).getD (i*3+2) .bad=pL x.l:=c 2 (by decide)
 have w:IntKind.i64.wrap ((i:Int)+1)=((i+1:Nat):Int):=by rw[aD (by omega) (by omega)];rfl
 have hd:decide ((i:Int)<(M.fns.length:Int))=true:=decide_eq_true (by omega)
 have hI:=bO x.l 5000 0 (by decide) (by decide) (by decide)
 have hq:Al x.l:=(hM.fns.2 x (List.mem_of_getElem? hx)).2.2
 have hc:=fy (dU x.l) x.l 5000 (Nat.le_refl _) hq.1 hq.2 (by decide) (by decide)
 unfold mK at h hn
 have w1:IntKind.i64.wrap (n+bZ x.l 5000 0)=n+bZ x.l 5000 0:=aD (by omega) (by omega)
 refine aa names (ya M 5000 n i (bZ x.l 5000 0)) ?_
 simp only[uH,Tree.ok,isStr,aH,aN,aq,aA,aj,aG,Int.toNat_natCast,c20,c21,hd,w,cond_true,cond_false,Bool.and_true,Bool.true_and,w1]
 exact⟨fun _=>⟨(by first | rfl | (simp only[Bool.and_eq_true,decide_eq_true_eq];omega)),(by first | rfl | trivial),hc,h⟩,fun q=>(by cases q)⟩
theorem OR (M:Mo) (o:Out) (n:Int) (h:Am.Good Tryz.prog env (eC M 3 n 0) o):Am.Good Tryz.prog env (eC M 1 n M.fns.length) o:=by
 have hd:decide ((M.fns.length:Int)<(M.fns.length:Int))=false:=decide_eq_false (by omega)
 refine aa names (ya M 5000 n M.fns.length 0) ?_
 simp only[uH,Tree.ok,hd]
 exact⟨fun q=>(by cases q),fun _=>h⟩
theorem Ly (M:Mo) (hM:M.wf) (h5:M.gls.length≤5000) (o:Out) (n:Int) (i:Nat) (x:Gl) (hx:M.gls[i]? = some x) (h0:0≤n) (hn:n+pG x≤1000000000000000) (h:Am.Good Tryz.prog env (eC M 3 (n+pG x) (i+1)) o):Am.Good Tryz.prog env (eC M 3 n i) o:=by
 have hi:i<M.gls.length:=(List.getElem?_eq_some_iff.1 hx).1
 have c:=aM (z:=2) (enc:=aY) (fun _=>rfl) hx
 have c10:(M.gls.flatMap aY).getD (i*2+1) .bad=pL x.l:=c 1 (by decide)
 have w:IntKind.i64.wrap ((i:Int)+1)=((i+1:Nat):Int):=by rw[aD (by omega) (by omega)];rfl
 have hd:decide ((i:Int)<(M.gls.length:Int))=true:=decide_eq_true (by omega)
 have hI:=bO x.l 5000 0 (by decide) (by decide) (by decide)
 have hq:Al x.l:=(hM.gls.2 x (List.mem_of_getElem? hx))
 have hc:=fy (dU x.l) x.l 5000 (Nat.le_refl _) hq.1 hq.2 (by decide) (by decide)
 unfold pG at h hn
 have w1:IntKind.i64.wrap (n+bZ x.l 5000 0)=n+bZ x.l 5000 0:=aD (by omega) (by omega)
 refine aa names (yc M 5000 n i (bZ x.l 5000 0)) ?_
 simp only[uI,Tree.ok,isStr,aH,aN,aq,aA,aj,aG,Int.toNat_natCast,c10,hd,w,cond_true,cond_false,Bool.and_true,Bool.true_and,w1]
 exact⟨fun _=>⟨(by first | rfl | (simp only[Bool.and_eq_true,decide_eq_true_eq];omega)),(by first | rfl | trivial),hc,h⟩,fun q=>(by cases q)⟩
theorem OS (M:Mo) (o:Out) (n:Int) (h:Am.Good Tryz.prog env (eC M 5 n 0) o):Am.Good Tryz.prog env (eC M 3 n M.gls.length) o:=by
 have hd:decide ((M.gls.length:Int)<(M.gls.length:Int))=false:=decide_eq_false (by omega)
 refine aa names (yc M 5000 n M.gls.length 0) ?_
 simp only[uI,Tree.ok,hd]
 exact⟨fun q=>(by cases q),fun _=>h⟩
theorem Lz (M:Mo) (hM:M.wf) (h5:M.els.length≤5000) (o:Out) (n:Int) (i:Nat) (x:El) (hx:M.els[i]? = some x) (h0:0≤n) (hn:n+vQ x≤1000000000000000) (h:Am.Good Tryz.prog env (eC M 5 (n+vQ x) (i+1)) o):Am.Good Tryz.prog env (eC M 5 n i) o:=by
 have hi:i<M.els.length:=(List.getElem?_eq_some_iff.1 hx).1
 have c:=aM (z:=2) (enc:=aJ) (fun _=>rfl) hx
 have T6:(M.els.flatMap aJ).getD (i*2) .bad=pL x.l:=c 0 (by decide)
 have T7:(M.els.flatMap aJ).getD (i*2+0) .bad=pL x.l:=c 0 (by decide)
 have c12:(M.els.flatMap aJ).getD (i*2+1) .bad=pT .u32 x.fs:=c 1 (by decide)
 have w:IntKind.i64.wrap ((i:Int)+1)=((i+1:Nat):Int):=by rw[aD (by omega) (by omega)];rfl
 have hd:decide ((i:Int)<(M.els.length:Int))=true:=decide_eq_true (by omega)
 have hI:=bO x.l 5000 0 (by decide) (by decide) (by decide)
 have hq:Al x.l:=(hM.els.2 x (List.mem_of_getElem? hx)).1
 have hc:=fy (dU x.l) x.l 5000 (Nat.le_refl _) hq.1 hq.2 (by decide) (by decide)
 unfold vQ at h hn
 have w1:IntKind.i64.wrap (IntKind.i64.wrap (n+bZ x.l 5000 0)+min (x.fs.length:Int) 5000)=n+(bZ x.l 5000 0+min (x.fs.length:Int) 5000):=by rw[aD (n:=n+bZ x.l 5000 0) (by omega) (by omega),Int.add_assoc];exact aD (by omega) (by omega)
 refine aa names (yd M 5000 n i (bZ x.l 5000 0)) ?_
 simp only[uJ,Tree.ok,isStr,aH,aN,aq,aA,aj,aG,Int.toNat_natCast,T6,T7,c12,hd,w,cond_true,cond_false,Bool.and_true,Bool.true_and,w1]
 exact⟨fun _=>⟨hc,(by first | rfl | (simp only[Bool.and_eq_true,decide_eq_true_eq];omega)),h⟩,fun q=>(by cases q)⟩
theorem OT (M:Mo) (o:Out) (n:Int) (h:Am.Good Tryz.prog env (eC M 7 n 0) o):Am.Good Tryz.prog env (eC M 5 n M.els.length) o:=by
 have hd:decide ((M.els.length:Int)<(M.els.length:Int))=false:=decide_eq_false (by omega)
 refine aa names (yd M 5000 n M.els.length 0) ?_
 simp only[uJ,Tree.ok,hd]
 exact⟨fun q=>(by cases q),fun _=>h⟩
theorem LA (M:Mo) (hM:M.wf) (h5:M.aW.length≤5000) (o:Out) (n:Int) (i:Nat) (x:Da) (hx:M.aW[i]? = some x) (h0:0≤n) (hn:n+CT x≤1000000000000000) (h:Am.Good Tryz.prog env (eC M 7 (n+CT x) (i+1)) o):Am.Good Tryz.prog env (eC M 7 n i) o:=by
 have hi:i<M.aW.length:=(List.getElem?_eq_some_iff.1 hx).1
 have c:=aM (z:=2) (enc:=aV) (fun _=>rfl) hx
 have T6:(M.aW.flatMap aV).getD (i*2) .bad=pL x.l:=c 0 (by decide)
 have T7:(M.aW.flatMap aV).getD (i*2+0) .bad=pL x.l:=c 0 (by decide)
 have c12:(M.aW.flatMap aV).getD (i*2+1) .bad=pT .u8 x.bs:=c 1 (by decide)
 have w:IntKind.i64.wrap ((i:Int)+1)=((i+1:Nat):Int):=by rw[aD (by omega) (by omega)];rfl
 have hd:decide ((i:Int)<(M.aW.length:Int))=true:=decide_eq_true (by omega)
 have hI:=bO x.l 5000 0 (by decide) (by decide) (by decide)
 have hq:Al x.l:=(hM.aW.2 x (List.mem_of_getElem? hx)).1
 have hc:=fy (dU x.l) x.l 5000 (Nat.le_refl _) hq.1 hq.2 (by decide) (by decide)
 unfold CT at h hn
 have w1:IntKind.i64.wrap (IntKind.i64.wrap (n+bZ x.l 5000 0)+min (x.bs.length:Int) 5000)=n+(bZ x.l 5000 0+min (x.bs.length:Int) 5000):=by rw[aD (n:=n+bZ x.l 5000 0) (by omega) (by omega),Int.add_assoc];exact aD (by omega) (by omega)
 refine aa names (yf M 5000 n i (bZ x.l 5000 0)) ?_
 simp only[uK,Tree.ok,isStr,aH,aN,aq,aA,aj,aG,Int.toNat_natCast,T6,T7,c12,hd,w,cond_true,cond_false,Bool.and_true,Bool.true_and,w1]
 exact⟨fun _=>⟨hc,(by first | rfl | (simp only[Bool.and_eq_true,decide_eq_true_eq];omega)),h⟩,fun q=>(by cases q)⟩
theorem OU (M:Mo) (o:Out) (n:Int) (h:Am.Good Tryz.prog env (eC M 9 n 0) o):Am.Good Tryz.prog env (eC M 7 n M.aW.length) o:=by
 have hd:decide ((M.aW.length:Int)<(M.aW.length:Int))=false:=decide_eq_false (by omega)
 refine aa names (yf M 5000 n M.aW.length 0) ?_
 simp only[uK,Tree.ok,hd]
 exact⟨fun q=>(by cases q),fun _=>h⟩
theorem LB (M:Mo) (hM:M.wf) (h5:M.aI.length≤5000) (o:Out) (n:Int) (i:Nat) (x:Im) (hx:M.aI[i]? = some x) (h0:0≤n) (hn:n+Nj x≤1000000000000000) (h:Am.Good Tryz.prog env (eC M 9 (n+Nj x) (i+1)) o):Am.Good Tryz.prog env (eC M 9 n i) o:=by
 have hi:i<M.aI.length:=(List.getElem?_eq_some_iff.1 hx).1
 have c:=aM (z:=3) (enc:=aQ) (fun _=>rfl) hx
 have T6:(M.aI.flatMap aQ).getD (i*3) .bad = .sc (.string x.mo):=c 0 (by decide)
 have T7:(M.aI.flatMap aQ).getD (i*3+0) .bad = .sc (.string x.mo):=c 0 (by decide)
 have c12:(M.aI.flatMap aQ).getD (i*3+1) .bad = .sc (.string x.nm):=c 1 (by decide)
 have w:IntKind.i64.wrap ((i:Int)+1)=((i+1:Nat):Int):=by rw[aD (by omega) (by omega)];rfl
 have hd:decide ((i:Int)<(M.aI.length:Int))=true:=decide_eq_true (by omega)
 unfold Nj at h hn
 have w1:IntKind.i64.wrap (IntKind.i64.wrap (n+min (x.mo.data.toList.length:Int) 5000)+min (x.nm.data.toList.length:Int) 5000)=n+(min (x.mo.data.toList.length:Int) 5000+min (x.nm.data.toList.length:Int) 5000):=by rw[aD (n:=n+min (x.mo.data.toList.length:Int) 5000) (by omega) (by omega),Int.add_assoc];exact aD (by omega) (by omega)
 refine aa names (yg M 5000 n i 0) ?_
 simp only[uL,Tree.ok,isStr,aH,aN,aq,aA,aj,aG,Int.toNat_natCast,T6,T7,c12,hd,w,cond_true,cond_false,Bool.and_true,Bool.true_and,w1]
 exact⟨fun _=>⟨(by first | rfl | (simp only[Bool.and_eq_true,decide_eq_true_eq];omega)),h⟩,fun q=>(by cases q)⟩
theorem OV (M:Mo) (o:Out) (n:Int) (h:Am.Good Tryz.prog env (eC M 11 n 0) o):Am.Good Tryz.prog env (eC M 9 n M.aI.length) o:=by
 have hd:decide ((M.aI.length:Int)<(M.aI.length:Int))=false:=decide_eq_false (by omega)
 refine aa names (yg M 5000 n M.aI.length 0) ?_
 simp only[uL,Tree.ok,hd]
 exact⟨fun q=>(by cases q),fun _=>h⟩
theorem LC (M:Mo) (hM:M.wf) (h5:M.exs.length≤5000) (o:Out) (n:Int) (i:Nat) (x:Ex) (hx:M.exs[i]? = some x) (h0:0≤n) (hn:n+T5 x≤1000000000000000) (h:Am.Good Tryz.prog env (eC M 11 (n+T5 x) (i+1)) o):Am.Good Tryz.prog env (eC M 11 n i) o:=by
 have hi:i<M.exs.length:=(List.getElem?_eq_some_iff.1 hx).1
 have c:=aM (z:=3) (enc:=aP) (fun _=>rfl) hx
 have T6:(M.exs.flatMap aP).getD (i*3) .bad = .sc (.string x.nm):=c 0 (by decide)
 have T7:(M.exs.flatMap aP).getD (i*3+0) .bad = .sc (.string x.nm):=c 0 (by decide)
 have w:IntKind.i64.wrap ((i:Int)+1)=((i+1:Nat):Int):=by rw[aD (by omega) (by omega)];rfl
 have hd:decide ((i:Int)<(M.exs.length:Int))=true:=decide_eq_true (by omega)
 unfold T5 at h hn
 have w1:IntKind.i64.wrap (n+min (x.nm.data.toList.length:Int) 5000)=n+min (x.nm.data.toList.length:Int) 5000:=aD (by omega) (by omega)
 refine aa names (yh M 5000 n i 0) ?_
 simp only[uM,Tree.ok,isStr,aH,aN,aq,aA,aj,aG,Int.toNat_natCast,T6,T7,hd,w,cond_true,cond_false,Bool.and_true,Bool.true_and,w1]
 exact⟨fun _=>⟨(by first | rfl | (simp only[Bool.and_eq_true,decide_eq_true_eq];omega)),(by first | rfl | trivial),h⟩,fun q=>(by cases q)⟩
theorem OW (M:Mo) (o:Out) (n:Int) (h:Out.ret (sB (decide (n>5000))) []=o):Am.Good Tryz.prog env (eC M 11 n M.exs.length) o:=by
 have hd:decide ((M.exs.length:Int)<(M.exs.length:Int))=false:=decide_eq_false (by omega)
 refine aa names (yh M 5000 n M.exs.length 0) ?_
 simp only[uM,Tree.ok,hd]
 exact⟨fun q=>(by cases q),fun _=>h⟩
def lens (M:Mo):Int:=M.tys.length+M.aI.length+M.fns.length+M.bW.length+M.bX.length+M.gls.length+M.exs.length+M.els.length+M.aW.length
def Ho (M:Mo):Int:=bG T5 (bG Nj (bG CT (bG vQ (bG pG (bG mK (lens M) M.fns) M.gls) M.els) M.aW) M.aI) M.exs
def l8 (M:Mo):Bool:=if lens M>5000 then true else decide (Ho M>5000)
def _root_.Go.Am.Mo.short (M:Mo):Prop:=M.tys.length≤1000000000000000∧M.aI.length≤1000000000000000∧M.fns.length≤1000000000000000∧M.bW.length≤1000000000000000∧M.bX.length≤1000000000000000∧M.gls.length≤1000000000000000∧M.exs.length≤1000000000000000∧M.els.length≤1000000000000000∧M.aW.length≤1000000000000000
theorem D3 (M:Mo) (hw:M.wf) (hs:M.short):aC Tryz.prog env 6 [.agg (M.aE.map .p),sI .i64 5000] [] (sB (l8 M)) []:=by
 obtain⟨s1,s2,s3,s4,s5,s6,s7,s8,s9⟩:=hs
 have e:IntKind.i64.wrap (IntKind.i64.wrap (IntKind.i64.wrap (IntKind.i64.wrap (IntKind.i64.wrap (IntKind.i64.wrap (IntKind.i64.wrap (IntKind.i64.wrap ((M.tys.length:Int)+M.aI.length)+M.fns.length)+M.bW.length)+M.bX.length)+M.gls.length)+M.exs.length)+M.els.length)+M.aW.length)=lens M:=by
  unfold lens
  rw[aD (n:=(M.tys.length:Int)+M.aI.length) (by omega) (by omega),aD (n:=(M.tys.length:Int)+M.aI.length+M.fns.length) (by omega) (by omega),aD (n:=(M.tys.length:Int)+M.aI.length+M.fns.length+M.bW.length) (by omega) (by omega),
   aD (n:=(M.tys.length:Int)+M.aI.length+M.fns.length+M.bW.length+M.bX.length) (by omega) (by omega),aD (n:=(M.tys.length:Int)+M.aI.length+M.fns.length+M.bW.length+M.bX.length+M.gls.length) (by omega) (by omega),
   aD (n:=(M.tys.length:Int)+M.aI.length+M.fns.length+M.bW.length+M.bX.length+M.gls.length+M.exs.length) (by omega) (by omega),aD (n:=(M.tys.length:Int)+M.aI.length+M.fns.length+M.bW.length+M.bX.length+M.gls.length+M.exs.length+M.els.length) (by omega) (by omega),aD (by omega) (by omega)]
 refine ah names (Lu M 5000) ?_
 simp only[FJ,Tree.ok,e]
 refine⟨fun q=> ?_,fun q=> ?_⟩
 · have q:lens M>5000:=by simpa using q
   rw[l8,if_pos q]
 · have q : ¬lens M>5000:=by simpa using q
   have hl:0≤lens M:=by unfold lens;omega
   rw[l8,if_neg q]
   have q:lens M≤5000:=by omega
   have l1:M.fns.length≤5000:=by unfold lens at q;omega
   have l2:M.gls.length≤5000:=by unfold lens at q;omega
   have l3:M.els.length≤5000:=by unfold lens at q;omega
   have l4:M.aW.length≤5000:=by unfold lens at q;omega
   have l5:M.aI.length≤5000:=by unfold lens at q;omega
   have l6:M.exs.length≤5000:=by unfold lens at q;omega
   have r1:=bQ yl M.fns (lens M)
   have r2:=bQ ym M.gls (bG mK (lens M) M.fns)
   have r3:=bQ yp M.els (bG pG (bG mK (lens M) M.fns) M.gls)
   have r4:=bQ yq M.aW (bG vQ (bG pG (bG mK (lens M) M.fns) M.gls) M.els)
   have r5:=bQ FK M.aI (bG CT (bG vQ (bG pG (bG mK (lens M) M.fns) M.gls) M.els) M.aW)
   have k6:=mL Lw (LC M hw l6 (.ret (sB (decide (Ho M>5000))) [])) (OW M _) M.exs.length 0 (bG Nj (bG CT (bG vQ (bG pG (bG mK (lens M) M.fns) M.gls) M.els) M.aW) M.aI) (by omega) (by omega) (by omega) rfl
   have k5:=mL FK (LB M hw l5 _) (OV M _) M.aI.length 0 (bG CT (bG vQ (bG pG (bG mK (lens M) M.fns) M.gls) M.els) M.aW) (by omega) (by omega) (by omega) k6
   have k4:=mL yq (LA M hw l4 _) (OU M _) M.aW.length 0 (bG vQ (bG pG (bG mK (lens M) M.fns) M.gls) M.els) (by omega) (by omega) (by omega) k5
   have k3:=mL yp (Lz M hw l3 _) (OT M _) M.els.length 0 (bG pG (bG mK (lens M) M.fns) M.gls) (by omega) (by omega) (by omega) k4
   have k2:=mL ym (Ly M hw l2 _) (OS M _) M.gls.length 0 (bG mK (lens M) M.fns) (by omega) (by omega) (by omega) k3
   have k1:=mL yl (Lx M hw l1 _) (OR M _) M.fns.length 0 (lens M) (by omega) (by omega) (by omega) k2
   exact k1
theorem Hp {M:Mo} (h:l8 M=false):M.fit∧M.qk∧lens M≤5000:=by
 unfold l8 at h
 split at h
 · cases h
 rename_i q
 have h : ¬Ho M>5000:=by simpa using h
 have q:lens M≤5000:=by omega
 have q':=q
 unfold lens at q'
 have r1:=bQ yl M.fns (lens M)
 have r2:=bQ ym M.gls (bG mK (lens M) M.fns)
 have r3:=bQ yp M.els (bG pG (bG mK (lens M) M.fns) M.gls)
 have r4:=bQ yq M.aW (bG vQ (bG pG (bG mK (lens M) M.fns) M.gls) M.els)
 have r5:=bQ FK M.aI (bG CT (bG vQ (bG pG (bG mK (lens M) M.fns) M.gls) M.els) M.aW)
 have r6:=bQ Lw M.exs (bG Nj (bG CT (bG vQ (bG pG (bG mK (lens M) M.fns) M.gls) M.els) M.aW) M.aI)
 unfold Ho at h
 have hl:0≤lens M:=by unfold lens;omega
 have cnt : ∀l:List Ins,bZ l 5000 0≤5000→aU l≤100000000000:=fun l hl=>by
  have:=lV l 5000 0 (by decide) (by decide) hl
  have:=oK l
  omega
 refine⟨⟨by omega,by omega,by omega,by omega,by omega,by omega,by omega,by omega,by omega⟩,fun l hm=> ?_,q⟩
 simp only[nH,List.mem_append,List.mem_map] at hm
 rcases hm with((⟨x,hx,rfl⟩ | ⟨x,hx,rfl⟩) | ⟨x,hx,rfl⟩) | ⟨x,hx,rfl⟩
 · have:=hG yl M.fns (lens M) x hx
   exact cnt _ (by have e:mK x=bZ x.l 5000 0:=rfl;omega)
 · have:=hG ym M.gls (bG mK (lens M) M.fns) x hx
   exact cnt _ (by have e:pG x=bZ x.l 5000 0:=rfl;omega)
 · have:=hG yp M.els (bG pG (bG mK (lens M) M.fns) M.gls) x hx
   exact cnt _ (by have e:vQ x=bZ x.l 5000 0+min (x.fs.length:Int) 5000:=rfl;omega)
 · have:=hG yq M.aW (bG vQ (bG pG (bG mK (lens M) M.fns) M.gls) M.els) x hx
   exact cnt _ (by have e:CT x=bZ x.l 5000 0+min (x.bs.length:Int) 5000:=rfl;omega)
end Go.Proofs.YtdmmllcjgjmbbaaGreatDoor.N
end
