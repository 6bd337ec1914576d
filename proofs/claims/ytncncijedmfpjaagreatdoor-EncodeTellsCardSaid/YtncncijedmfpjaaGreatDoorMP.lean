import Derived.Test.YtncncijedmfpjaaGreatDoorMH
import Derived.Test.YtncncijedmfpjaaGreatDoorMM
import Derived.Test.YtncncijedmfpjaaGreatDoorMO
import Derived.Test.YtncncijedmfpjaaGreatDoorMK
import Derived.Test.YtncncijedmfpjaaGreatDoorML
import Derived.Test.YtncncijedmfpjaaGreatDoorMG
open Nat renaming beq→ba,le_refl→c9,eq_of_beq_eq_true→be
open Go.Proofs.Tryz renaming prog→ae
open Go.Value renaming int→sb
open Go.IntKind renaming i64→re
open Min renaming min→ae4
open Max renaming max→afg
open List renaming flatMap→ajO,getElem?_eq_some_iff→dT,mem_of_getElem?→mv,getElem?_eq_getElem→da,drop_eq_getElem_cons→agj,getElem_mem→en,getElem_map→dE,mem_append→na,mem_cons→yo,mem_map→fb
open Int renaming toNat_natCast→afm,add_assoc→aj9
open Bool renaming and_eq_true→di,and_true→ajQ,true_or→ake,or_true→aki,true_and→ajX,false_eq_true→o0,or_false→akl
open Array renaming getElem?_eq_getElem→gl
noncomputable section
section
set_option linter.unusedSimpArgs false
set_option linter.unusedVariables false
namespace Go.Proofs.YtncncijedmfpjaaGreatDoor.N
open Go Go.Am
def Vq (_:List Ins) (_ _ _:Int) (R:List AV→Int) (f:FuncId) (args:List AV) (m:Mem):Option (AV×Mem):=cond (ba f 16) (some (sI .i64 (R args),m)) none
def abQ:bA:=aM aE aC [(16,0)] [] []
def ahf:Sc:= .fin
def Vr (l:List Ins) (most:Int):aA:=
 (.at (ah ae env 16 0 [AV.p (PV.ps l.length 8 (aj l)),AV.p (PV.sc (sb re most)),AV.p (PV.sc (sb re 0)),AV.p (PV.sc (sb re 0))] ([]) 0 58))
theorem RB (l:List Ins) (most:Int):aI ae env abQ 1000000 16 ([aL l,sI re most]) ([]) ahf=Vr l most:=by kernel_rfl
def Vs (l:List Ins) (most:Int) (n:Int) (i:Int) (R:List AV→Int):bA:=aM (Vq l most n i R) aC [(16,0)] [(16,4,5),(16,0,1),(16,0,2),(16,0,3)] [(16,6,4),(16,6,6),(16,8,3),(16,8,5),(16,10,3),(16,10,5)]
def abR:Sc:=(.fork (.fork (.fork .fin (.no .fin)) .fin) (.lit .fin))
def yF (l:List Ins) (most:Int) (n:Int) (i:Int) (R:List AV→Int):aA:=
 (.test (decide (i<(↑l.length:Int)))
  (.test (decide (n≤most))
   (.must (aP i l.length&&true&&true)
    (.must (aO (aq (aj l) (i.toNat*8+5))&&true)
     (.test (decide (re.wrap (re.wrap (n+1)+bif true then ae4 (↑(an (aq (aj l) (i.toNat*8+5))):Int) most else afg (↑(an (aq (aj l) (i.toNat*8+5))):Int) most)≤most))
      (.must (aP i l.length&&true&&true)
       (.must (aO (aq (aj l) (i.toNat*8+6))&&true)
        (.call ⟨16,[AV.p (PV.ps (an (aq (aj l) (i.toNat*8+6))) (aD (aq (aj l) (i.toNat*8+6))) (ak (aq (aj l) (i.toNat*8+6)))),AV.p (PV.sc (sb re (re.wrap (most-re.wrap (re.wrap (n+1)+bif true then ae4 (↑(an (aq (aj l) (i.toNat*8+5))):Int) most else afg (↑(an (aq (aj l) (i.toNat*8+5))):Int) most)))))],[],AV.p (PV.sc (sb re (R [AV.p (PV.ps (an (aq (aj l) (i.toNat*8+6))) (aD (aq (aj l) (i.toNat*8+6))) (ak (aq (aj l) (i.toNat*8+6)))),AV.p (PV.sc (sb re (re.wrap (most-re.wrap (re.wrap (n+1)+bif true then ae4 (↑(an (aq (aj l) (i.toNat*8+5))):Int) most else afg (↑(an (aq (aj l) (i.toNat*8+5))):Int) most)))))]))),[]⟩
         (.test (decide (re.wrap (re.wrap (re.wrap (n+1)+bif true then ae4 (↑(an (aq (aj l) (i.toNat*8+5))):Int) most else afg (↑(an (aq (aj l) (i.toNat*8+5))):Int) most)+R [AV.p (PV.ps (an (aq (aj l) (i.toNat*8+6))) (aD (aq (aj l) (i.toNat*8+6))) (ak (aq (aj l) (i.toNat*8+6)))),AV.p (PV.sc (sb re (re.wrap (most-re.wrap (re.wrap (n+1)+bif true then ae4 (↑(an (aq (aj l) (i.toNat*8+5))):Int) most else afg (↑(an (aq (aj l) (i.toNat*8+5))):Int) most)))))])≤most))
          (.must (aP i l.length&&true&&true)
           (.must (aO (aq (aj l) (i.toNat*8+7))&&true)
            (.call ⟨16,[AV.p (PV.ps (an (aq (aj l) (i.toNat*8+7))) (aD (aq (aj l) (i.toNat*8+7))) (ak (aq (aj l) (i.toNat*8+7)))),AV.p (PV.sc (sb re (re.wrap (most-re.wrap (re.wrap (re.wrap (n+1)+bif true then ae4 (↑(an (aq (aj l) (i.toNat*8+5))):Int) most else afg (↑(an (aq (aj l) (i.toNat*8+5))):Int) most)+R [AV.p (PV.ps (an (aq (aj l) (i.toNat*8+6))) (aD (aq (aj l) (i.toNat*8+6))) (ak (aq (aj l) (i.toNat*8+6)))),AV.p (PV.sc (sb re (re.wrap (most-re.wrap (re.wrap (n+1)+bif true then ae4 (↑(an (aq (aj l) (i.toNat*8+5))):Int) most else afg (↑(an (aq (aj l) (i.toNat*8+5))):Int) most)))))])))))],[],AV.p (PV.sc (sb re (R [AV.p (PV.ps (an (aq (aj l) (i.toNat*8+7))) (aD (aq (aj l) (i.toNat*8+7))) (ak (aq (aj l) (i.toNat*8+7)))),AV.p (PV.sc (sb re (re.wrap (most-re.wrap (re.wrap (re.wrap (n+1)+bif true then ae4 (↑(an (aq (aj l) (i.toNat*8+5))):Int) most else afg (↑(an (aq (aj l) (i.toNat*8+5))):Int) most)+R [AV.p (PV.ps (an (aq (aj l) (i.toNat*8+6))) (aD (aq (aj l) (i.toNat*8+6))) (ak (aq (aj l) (i.toNat*8+6)))),AV.p (PV.sc (sb re (re.wrap (most-re.wrap (re.wrap (n+1)+bif true then ae4 (↑(an (aq (aj l) (i.toNat*8+5))):Int) most else afg (↑(an (aq (aj l) (i.toNat*8+5))):Int) most)))))])))))]))),[]⟩
             (.at (ah ae env 16 0 [AV.p (PV.ps l.length 8 (aj l)),AV.p (PV.sc (sb re most)),AV.p (PV.sc (sb re (re.wrap (re.wrap (re.wrap (re.wrap (n+1)+bif true then ae4 (↑(an (aq (aj l) (i.toNat*8+5))):Int) most else afg (↑(an (aq (aj l) (i.toNat*8+5))):Int) most)+R [AV.p (PV.ps (an (aq (aj l) (i.toNat*8+6))) (aD (aq (aj l) (i.toNat*8+6))) (ak (aq (aj l) (i.toNat*8+6)))),AV.p (PV.sc (sb re (re.wrap (most-re.wrap (re.wrap (n+1)+bif true then ae4 (↑(an (aq (aj l) (i.toNat*8+5))):Int) most else afg (↑(an (aq (aj l) (i.toNat*8+5))):Int) most)))))])+R [AV.p (PV.ps (an (aq (aj l) (i.toNat*8+7))) (aD (aq (aj l) (i.toNat*8+7))) (ak (aq (aj l) (i.toNat*8+7)))),AV.p (PV.sc (sb re (re.wrap (most-re.wrap (re.wrap (re.wrap (n+1)+bif true then ae4 (↑(an (aq (aj l) (i.toNat*8+5))):Int) most else afg (↑(an (aq (aj l) (i.toNat*8+5))):Int) most)+R [AV.p (PV.ps (an (aq (aj l) (i.toNat*8+6))) (aD (aq (aj l) (i.toNat*8+6))) (ak (aq (aj l) (i.toNat*8+6)))),AV.p (PV.sc (sb re (re.wrap (most-re.wrap (re.wrap (n+1)+bif true then ae4 (↑(an (aq (aj l) (i.toNat*8+5))):Int) most else afg (↑(an (aq (aj l) (i.toNat*8+5))):Int) most)))))])))))])))),AV.p (PV.sc (sb re (re.wrap (i+1))))] ([]) 0 58)))))
          (.at (ah ae env 16 0 [AV.p (PV.ps l.length 8 (aj l)),AV.p (PV.sc (sb re most)),AV.p (PV.sc (sb re (re.wrap (re.wrap (re.wrap (n+1)+bif true then ae4 (↑(an (aq (aj l) (i.toNat*8+5))):Int) most else afg (↑(an (aq (aj l) (i.toNat*8+5))):Int) most)+R [AV.p (PV.ps (an (aq (aj l) (i.toNat*8+6))) (aD (aq (aj l) (i.toNat*8+6))) (ak (aq (aj l) (i.toNat*8+6)))),AV.p (PV.sc (sb re (re.wrap (most-re.wrap (re.wrap (n+1)+bif true then ae4 (↑(an (aq (aj l) (i.toNat*8+5))):Int) most else afg (↑(an (aq (aj l) (i.toNat*8+5))):Int) most)))))])))),AV.p (PV.sc (sb re (re.wrap (i+1))))] ([]) 0 58))))))
      (.must (!(decide (re.wrap (re.wrap (n+1)+bif true then ae4 (↑(an (aq (aj l) (i.toNat*8+5))):Int) most else afg (↑(an (aq (aj l) (i.toNat*8+5))):Int) most)≤most)))
       (.at (ah ae env 16 0 [AV.p (PV.ps l.length 8 (aj l)),AV.p (PV.sc (sb re most)),AV.p (PV.sc (sb re (re.wrap (re.wrap (n+1)+bif true then ae4 (↑(an (aq (aj l) (i.toNat*8+5))):Int) most else afg (↑(an (aq (aj l) (i.toNat*8+5))):Int) most)))),AV.p (PV.sc (sb re (re.wrap (i+1))))] ([]) 0 58))))))
   (.out (Out.ret (AV.p (PV.sc (sb re n))) [])))
  (.out (Out.ret (AV.p (PV.sc (sb re n))) [])))
theorem BL (l:List Ins) (most:Int) (n:Int) (i:Int) (R:List AV→Int):grow ae env (Vs l most n i R) 1000000 true (ah ae env 16 0 ([aL l,sI re most,sI re n,sI re i]) ([]) 0 58) abR atEnd=yF l most n i R:=by kernel_rfl
theorem Gb (R:List AV→Int) (hR : ∀l most,R [aL l,sI .i64 most]=dm l most 0) (l:List Ins) (most:Int) (h0:0≤most) (hm:most≤1000000000000) (hl:l.length≤maxLen)
  (IH : ∀x∈l,∀m':Int,0≤m'→m'≤most→az ae env 16 [aL x.l,sI .i64 m'] [] (sI .i64 (dm x.l m' 0)) []∧az ae env 16 [aL x.e,sI .i64 m'] [] (sI .i64 (dm x.e m' 0)) []) :
  ∀(r k:Nat) (n:Int),k+r=l.length→0≤n→n≤2*most+1→aU ae env (ah ae env 16 0 [aL l,sI .i64 most,sI .i64 n,sI .i64 k] [] 0 58) (.ret (sI .i64 (dm (l.drop k) most n)) []):=by
 intro r
 induction r with
 |zero=>
  intro k n hk hn0 hn
  refine af aH (BL l most n k R) ?_
  have h1:l.drop k=[]:=List.drop_eq_nil_of_le (by omega)
  have h2 : ¬((k:Int)<l.length):=by omega
  simp[yF,aV,aA.ok,h1,h2,dm]
 |succ r ih=>
  intro k n hk hn0 hn
  refine af aH (BL l most n k R) ?_
  have nG:k<l.length:=by omega
  have FA:l[k]? = some l[k]:=da nG
  have hmem:l[k]∈l:=en nG
  have hd:l.drop k=l[k]::l.drop (k+1):=agj nG
  rw[hd]
  generalize l[k]=x at *
  obtain⟨op,rs,a,b,nn,tags,ll,le⟩:=x
  have hc:=tX FA
  have c5:(aj l).getD (k*8+5) .bz = .ps tags.length 1 (bN .u32 tags):=hc 5 (by omega)
  have c6:(aj l).getD (k*8+6) .bz = .ps ll.length 8 (aj ll):=hc 6 (by omega)
  have c7:(aj l).getD (k*8+7) .bz = .ps le.length 8 (aj le):=hc 7 (by omega)
  have hML:maxLen=9223372036854775807:=rfl
  have hw:re.wrap ((k:Int)+1)=((k+1:Nat):Int):=by rw[aQ (by omega) (by omega)];rfl
  have hw1:re.wrap (n+1)=n+1:=aQ (by omega) (by omega)
  have xY:(k:Int)<(l.length:Int):=by omega
  simp only[yF,aV,aA.ok,c5,c6,c7,an,aD,ak,aO,afm,aP,cond_true,hw,hw1]
  refine⟨fun _=>⟨fun hnm=>⟨by simp[xY],rfl,?_⟩,fun hnm=> ?_⟩,fun h=>absurd xY (by simpa using h)⟩
  · have hnm:n≤most:=by simpa using hnm
    have pJ:=IH _ hmem
    simp only[dm,if_pos hnm,xP,Ins.l,Ins.e] at pJ ⊢
    generalize hn1:n+1+min (tags.length:Int) most=n1
    have YX:0≤n1∧n1≤2*most+1:=by omega
    have hw2:re.wrap n1=n1:=aQ (by omega) (by omega)
    simp only[hw2]
    have hw3:re.wrap (most-n1)=most-n1:=aQ (by omega) (by omega)
    simp only[hw3,hR]
    refine⟨fun h1=> ?_,fun h1=> ?_⟩
    · have h1:n1≤most:=by simpa using h1
      rw[if_pos h1]
      have hb:=cN ll (most-n1) 0 (by omega) (by omega) (by omega)
      have hw4:re.wrap (n1+dm ll (most-n1) 0)=n1+dm ll (most-n1) 0:=aQ (by omega) (by omega)
      refine⟨by simp[xY],rfl,(pJ (most-n1) (by omega) (by omega)).1,?_⟩
      simp only[hw4]
      generalize hn2:n1+dm ll (most-n1) 0=n2
      have hr2:0≤n2∧n2≤2*most+1:=by omega
      have hw5:re.wrap (most-n2)=most-n2:=aQ (by omega) (by omega)
      simp only[hw5]
      refine⟨fun h2=> ?_,fun h2=> ?_⟩
      · have h2:n2≤most:=by simpa using h2
        rw[if_pos h2]
        have hb2:=cN le (most-n2) 0 (by omega) (by omega) (by omega)
        have hw6:re.wrap (n2+dm le (most-n2) 0)=n2+dm le (most-n2) 0:=aQ (by omega) (by omega)
        refine⟨by simp[xY],rfl,(pJ (most-n2) (by omega) (by omega)).2,?_⟩
        simp only[hw6]
        exact ih (k+1) _ (by omega) (by omega) (by omega)
      · have h2 : ¬n2≤most:=by simpa using h2
        rw[if_neg h2]
        exact ih (k+1) n2 (by omega) (by omega) (by omega)
    · have h1 : ¬n1≤most:=by simpa using h1
      rw[if_neg h1,if_neg h1]
      refine⟨by simpa using h1,?_⟩
      exact ih (k+1) n1 (by omega) (by omega) (by omega)
  · have hnm : ¬n≤most:=by simpa using hnm
    simp only[dm,if_neg hnm]
theorem Pp {l m:List Ins} (h:aL l=aL m):l=m:=by
 simp only[AV.p.injEq,PV.ps.injEq] at h
 exact mq h.2.2
open Classical in
def abS (args:List AV):Int:=if h : ∃l most,args=[aL l,sI .i64 most] then dm h.choose h.choose_spec.choose 0 else 0
theorem Vt (l:List Ins) (most:Int):abS [aL l,sI .i64 most]=dm l most 0:=by
 have h : ∃l' most',[aL l,sI .i64 most]=[aL l',sI .i64 most']:=⟨l,most,rfl⟩
 have e:=h.choose_spec.choose_spec
 unfold abS
 rw[dif_pos h]
 have e1:=Pp (List.cons.inj e).1
 have e2:most=h.choose_spec.choose:=by
  have:=(List.cons.inj (List.cons.inj e).2).1
  simpa only[AV.p.injEq,PV.sc.injEq,Value.int.injEq,true_and] using this
 have e:(h.choose,h.choose_spec.choose)=(l,most):=by rw[Prod.mk.injEq];exact⟨e1.symm,e2.symm⟩
 exact congrArg (fun q:List Ins×Int=>dm q.1 q.2 0) e
theorem hH : ∀(N:Nat) (l:List Ins) (most:Int),cz l≤N→l.length≤maxLen→qn l→0≤most→most≤1000000000000→az ae env 16 [aL l,sI .i64 most] [] (sI .i64 (dm l most 0)) []
 |N,l,most,hN,hl,hw,h0,hm=>by
  have IH : ∀x∈l,∀m':Int,0≤m'→m'≤most→az ae env 16 [aL x.l,sI .i64 m'] [] (sI .i64 (dm x.l m' 0)) []∧az ae env 16 [aL x.e,sI .i64 m'] [] (sI .i64 (dm x.e m' 0)) []:=by
   intro x hx m' h0' hm'
   have hc:=fS hx
   have UD:=Go.Am.lF hw hx
   obtain⟨op,rs,a,b,nn,tags,ll,le⟩:=x
   simp only[jr] at hc
   simp only[Tw] at UD
   match N,hN with
   |0,hN=>omega
   |N+1,hN=>exact⟨hH N ll m' (by omega) UD.2.2.2.2.2.2.1.1 UD.2.2.2.2.2.2.1.2 h0' (by omega),hH N le m' (by omega) UD.2.2.2.2.2.2.2.1 UD.2.2.2.2.2.2.2.2 h0' (by omega)⟩
  refine aa aH (RB l most) ?_
  have h:=Gb abS Vt l most h0 hm hl IH l.length 0 0 (by omega) (by omega) (by omega)
  rw[List.drop_zero] at h
  exact h
end Go.Proofs.YtncncijedmfpjaaGreatDoor.N
end
section
set_option linter.unusedSimpArgs false
set_option linter.unusedVariables false
namespace Go.Proofs.YtncncijedmfpjaaGreatDoor.N
open Go Go.Am
def lrC (M:Mo) (most n:Int) (i:Nat) (r:Int) (_:Nat) (f:FuncId) (_:List AV) (m:Mem):Option (AV×Mem):=cond (ba f 16) (some (sI .i64 r,m)) none
def abT:bA:=aM aE aC [(6,1)] [(6,0,0)] []
def ahg:Sc:= .fin
def KQ (M:Mo) (most:Int):aA:=
 (.test (decide (re.wrap (re.wrap (re.wrap (re.wrap (re.wrap (re.wrap (re.wrap (re.wrap ((↑M.tys.length:Int)+(↑M.aX.length:Int))+(↑M.fns.length:Int))+(↑M.b8.length:Int))+(↑M.b9.length:Int))+(↑M.gls.length:Int))+(↑M.exs.length:Int))+(↑M.els.length:Int))+(↑M.bp.length:Int))>most))
 gj
 (.at (ah ae env 6 1 [sI .i64 most,.mp 0 0,sI .i64 (re.wrap (re.wrap (re.wrap (re.wrap (re.wrap (re.wrap (re.wrap (re.wrap ((↑M.tys.length:Int)+(↑M.aX.length:Int))+(↑M.fns.length:Int))+(↑M.b8.length:Int))+(↑M.b9.length:Int))+(↑M.gls.length:Int))+(↑M.exs.length:Int))+(↑M.els.length:Int))+(↑M.bp.length:Int))),sI .i64 0] ([.pc M.aJ]) 0 188)))
theorem RC (M:Mo) (most:Int):aI ae env abT 1000000 6 ([AV.agg (List.map AV.p M.aJ),sI re most]) ([]) ahg=KQ M most:=by kernel_rfl
def Vu:bA:=aM aE aC [(6,1),(6,3)] [(6,0,2)] [(6,8,4),(6,8,7)]
def abU (M:Mo) (most n:Int) (i:Nat) (r:Int):Sc:=(.fork (.ans 16 (sI .i64 r) ([]) .fin) .fin)
def yG (M:Mo) (most n:Int) (i:Nat) (r:Int):aA:=
 (.test (decide ((↑i:Int)<(↑M.fns.length:Int)))
 (.must (aP (↑i:Int) M.fns.length&&true&&true)
 (.must (aO (aq (ajO aG M.fns) (aB i*3+1+1))&&true)
 (.call ⟨16,[.p (.ps (an (aq (ajO aG M.fns) (aB i*3+1+1))) (aD (aq (ajO aG M.fns) (aB i*3+1+1))) (ak (aq (ajO aG M.fns) (aB i*3+1+1)))),sI .i64 most],[],sI .i64 r,[]⟩
 (.at (ah ae env 6 1 [sI .i64 most,.mp 0 0,sI .i64 (re.wrap (n+r)),sI .i64 (re.wrap ((↑i:Int)+1))] ([.pc M.aJ]) 0 188)))))
 (.at (ah ae env 6 3 [sI .i64 most,.mp 0 0,sI .i64 n,sI .i64 0] ([.pc M.aJ]) 0 188)))
theorem BM (M:Mo) (most n:Int) (i:Nat) (r:Int):grow ae env Vu 1000000 true (ah ae env 6 1 ([sI re most,AV.mp 0 0,sI re n,sI re (↑i:Int)]) ([bq.pc M.aJ]) 0 188) (abU M most n i r) atEnd=yG M most n i r:=by kernel_rfl
def Vv:bA:=aM aE aC [(6,3),(6,5)] [(6,0,4)] [(6,12,4),(6,12,6)]
def abV (M:Mo) (most n:Int) (i:Nat) (r:Int):Sc:=(.fork (.ans 16 (sI .i64 r) ([]) .fin) .fin)
def yH (M:Mo) (most n:Int) (i:Nat) (r:Int):aA:=
 (.test (decide ((↑i:Int)<(↑M.gls.length:Int)))
 (.must (aP (↑i:Int) M.gls.length&&true&&true)
 (.must (aO (aq (ajO bn M.gls) (aB i*2+1))&&true)
 (.call ⟨16,[.p (.ps (an (aq (ajO bn M.gls) (aB i*2+1))) (aD (aq (ajO bn M.gls) (aB i*2+1))) (ak (aq (ajO bn M.gls) (aB i*2+1)))),sI .i64 most],[],sI .i64 r,[]⟩
 (.at (ah ae env 6 3 [sI .i64 most,.mp 0 0,sI .i64 (re.wrap (n+r)),sI .i64 (re.wrap ((↑i:Int)+1))] ([.pc M.aJ]) 0 188)))))
 (.at (ah ae env 6 5 [sI .i64 most,.mp 0 0,sI .i64 n,sI .i64 0] ([.pc M.aJ]) 0 188)))
theorem BN (M:Mo) (most n:Int) (i:Nat) (r:Int):grow ae env Vv 1000000 true (ah ae env 6 3 ([sI re most,AV.mp 0 0,sI re n,sI re (↑i:Int)]) ([bq.pc M.aJ]) 0 188) (abV M most n i r) atEnd=yH M most n i r:=by kernel_rfl
def Vw:bA:=aM aE aC [(6,5),(6,7)] [(6,0,6)] [(6,0,7)]
def abW (M:Mo) (most n:Int) (i:Nat) (r:Int):Sc:=(.fork (.z7 6 15 (lrC M most n i r 0) .fin) .fin)
def yI (M:Mo) (most n:Int) (i:Nat) (r:Int):aA:=
 (.test (decide ((↑i:Int)<(↑M.els.length:Int)))
 (.call ⟨16,[.p (.ps (an (aq (ajO aN M.els) (aB i*2+0))) (aD (aq (ajO aN M.els) (aB i*2+0))) (ak (aq (ajO aN M.els) (aB i*2+0)))),sI .i64 most],[],sI .i64 r,[]⟩
 (.must (aP (↑i:Int) M.els.length&&true&&true&&(aO (aq (ajO aN M.els) (aB i*2+0))&&true&&(aP (↑i:Int) M.els.length&&true&&true&&(aO (aq (ajO aN M.els) (aB i*2+1))&&true&&true)))&&true)
 (.at (ah ae env 6 5 [sI .i64 most,.mp 0 0,sI .i64 (re.wrap (re.wrap (n+r)+bif true then ae4 (↑(an (aq (ajO aN M.els) (aB i*2+1))):Int) most else afg (↑(an (aq (ajO aN M.els) (aB i*2+1))):Int) most)),sI .i64 (re.wrap ((↑i:Int)+1))] ([.pc M.aJ]) 0 188))))
 (.at (ah ae env 6 7 [sI .i64 most,.mp 0 0,sI .i64 n,sI .i64 0] ([.pc M.aJ]) 0 188)))
theorem BO (M:Mo) (most n:Int) (i:Nat) (r:Int):grow ae env Vw 1000000 true (ah ae env 6 5 ([sI re most,AV.mp 0 0,sI re n,sI re (↑i:Int)]) ([bq.pc M.aJ]) 0 188) (abW M most n i r) atEnd=yI M most n i r:=by kernel_rfl
def Vx:bA:=aM aE aC [(6,7),(6,9)] [(6,0,8)] [(6,0,9)]
def abX (M:Mo) (most n:Int) (i:Nat) (r:Int):Sc:=(.fork (.z7 6 19 (lrC M most n i r 0) .fin) .fin)
def yJ (M:Mo) (most n:Int) (i:Nat) (r:Int):aA:=
 (.test (decide ((↑i:Int)<(↑M.bp.length:Int)))
 (.call ⟨16,[.p (.ps (an (aq (ajO aZ M.bp) (aB i*2+0))) (aD (aq (ajO aZ M.bp) (aB i*2+0))) (ak (aq (ajO aZ M.bp) (aB i*2+0)))),sI .i64 most],[],sI .i64 r,[]⟩
 (.must (aP (↑i:Int) M.bp.length&&true&&true&&(aO (aq (ajO aZ M.bp) (aB i*2+0))&&true&&(aP (↑i:Int) M.bp.length&&true&&true&&(aO (aq (ajO aZ M.bp) (aB i*2+1))&&true&&true)))&&true)
 (.at (ah ae env 6 7 [sI .i64 most,.mp 0 0,sI .i64 (re.wrap (re.wrap (n+r)+bif true then ae4 (↑(an (aq (ajO aZ M.bp) (aB i*2+1))):Int) most else afg (↑(an (aq (ajO aZ M.bp) (aB i*2+1))):Int) most)),sI .i64 (re.wrap ((↑i:Int)+1))] ([.pc M.aJ]) 0 188))))
 (.at (ah ae env 6 9 [sI .i64 most,.mp 0 0,sI .i64 n,sI .i64 0] ([.pc M.aJ]) 0 188)))
theorem BP (M:Mo) (most n:Int) (i:Nat) (r:Int):grow ae env Vx 1000000 true (ah ae env 6 7 ([sI re most,AV.mp 0 0,sI re n,sI re (↑i:Int)]) ([bq.pc M.aJ]) 0 188) (abX M most n i r) atEnd=yJ M most n i r:=by kernel_rfl
def Vy:bA:=aM aE aC [(6,9),(6,11)] [(6,0,10)] [(6,0,11)]
def abY (M:Mo) (most n:Int) (i:Nat) (r:Int):Sc:= .fin
def yK (M:Mo) (most n:Int) (i:Nat) (r:Int):aA:=
 (.test (decide ((↑i:Int)<(↑M.aX.length:Int)))
 (.must (aP (↑i:Int) M.aX.length&&true&&(isStr (aq (ajO bh M.aX) (aB i*3+0))&&(aP (↑i:Int) M.aX.length&&true&&(isStr (aq (ajO bh M.aX) (aB i*3+1))&&true)))&&true)
 (.at (ah ae env 6 9 [sI .i64 most,.mp 0 0,sI .i64 (re.wrap (re.wrap (n+bif true then ae4 (↑(bg (aq (ajO bh M.aX) (aB i*3+0))).data.toList.length:Int) most else afg (↑(bg (aq (ajO bh M.aX) (aB i*3+0))).data.toList.length:Int) most)+bif true then ae4 (↑(bg (aq (ajO bh M.aX) (aB i*3+1))).data.toList.length:Int) most else afg (↑(bg (aq (ajO bh M.aX) (aB i*3+1))).data.toList.length:Int) most)),sI .i64 (re.wrap ((↑i:Int)+1))] ([.pc M.aJ]) 0 188)))
 (.at (ah ae env 6 11 [sI .i64 most,.mp 0 0,sI .i64 n,sI .i64 0] ([.pc M.aJ]) 0 188)))
theorem BQ (M:Mo) (most n:Int) (i:Nat) (r:Int):grow ae env Vy 1000000 true (ah ae env 6 9 ([sI re most,AV.mp 0 0,sI re n,sI re (↑i:Int)]) ([bq.pc M.aJ]) 0 188) (abY M most n i r) atEnd=yK M most n i r:=by kernel_rfl
def Vz:bA:=aM aE aC [(6,11)] [(6,0,12)] [(6,28,4),(6,28,6)]
def abZ (M:Mo) (most n:Int) (i:Nat) (r:Int):Sc:= .fin
def yL (M:Mo) (most n:Int) (i:Nat) (r:Int):aA:=
 (.test (decide ((↑i:Int)<(↑M.exs.length:Int)))
 (.must (aP (↑i:Int) M.exs.length&&true&&true)
 (.must (isStr (aq (ajO bu M.exs) (aB i*3+0))&&true)
 (.at (ah ae env 6 11 [sI .i64 most,.mp 0 0,sI .i64 (re.wrap (n+bif true then ae4 (↑(bg (aq (ajO bu M.exs) (aB i*3+0))).data.toList.length:Int) most else afg (↑(bg (aq (ajO bu M.exs) (aB i*3+0))).data.toList.length:Int) most)),sI .i64 (re.wrap ((↑i:Int)+1))] ([.pc M.aJ]) 0 188))))
 (.out (.ret (.p (.sc (.bool (decide (n>most))))) [])))
theorem BR (M:Mo) (most n:Int) (i:Nat) (r:Int):grow ae env Vz 1000000 true (ah ae env 6 11 ([sI re most,AV.mp 0 0,sI re n,sI re (↑i:Int)]) ([bq.pc M.aJ]) 0 188) (abZ M most n i r) atEnd=yL M most n i r:=by kernel_rfl
theorem RD (s:ByteArray) (hs:s.size≤maxLen):az ae env 73 [.p (.sc (.string s))] [] (sB (decide (jZ s≥0))) []:=
 aa aH (QG s (jZ s)) ⟨az.Uh (m:=[.tok]) (args:=[.os (some 0) s.data.toList.length 1 (s.data.toList.map eE)]) (BK s hs) ⟨Tv.os (.refl _),trivial⟩,rfl⟩
def yM (s:ByteArray):Bool:=decide (jZ s≥0)
def yN (M:Mo):Bool:=M.tys.any vw||M.aX.any sy||M.fns.any sA||(nK M).any yM||M.b8.any (jT 1048576)||M.b9.any (jT 65536)||M.exs.any sC||(!M.st&&M.sn != 0)
def Gc (M:Mo):Int:=if yN M=true then 2 else if hU M 2=true then 2 else 0
theorem ab0 {M:Mo} (hM:M.wf) : ∀s∈nK M,s.size≤maxLen:=by
 intro s hs
 rcases na.1 hs with h | h
 · obtain⟨x,hx,h⟩:=List.mem_flatMap.1 h
   have q:=hM.aX.2 x hx
   simp only[yo,List.not_mem_nil,or_false] at h
   rcases h with rfl | rfl
   · exact q.1
   · exact q.2.1
 · obtain⟨x,hx,rfl⟩:=fb.1 h
   exact(hM.exs.2 x hx).1
theorem MC (M:Mo) (hM:M.fit) (hw:M.wf) (hs:M.uq):az ae env 33 [.agg (M.aJ.map .p)] [] (sI .i64 (Gc M)) []:=by
 have f1:=Q2 M.tys (by have:=hM.tys;omega) vw (fun x _=>Rf x)
 have f2:=Q4 M.aX (by have:=hM.aX;omega) sy (fun x _=>Ri x)
 have f3:=Q6 M.fns (by have:=hM.fns;omega) sA (fun x _=>Rk x)
 have f4:=Q0 (nK M) (uo hM) yM (fun x hx=>RD x (ab0 hw x hx))
 have f5:=Q8 M.b8 (by have:=hM.b8;omega) (jT 1048576) (fun x _=>Rg x)
 have f6:=Ra M.b9 (by have:=hM.b9;omega) (jT 65536) (fun x _=>Rh x)
 have f7:=Rc M.exs (by have:=hM.exs;omega) sC (fun x _=>Rj x)
 have f8:=vg M hM hs 2
 have nd:=Rl M hM
 have hF:Gc M=if yN M=true then 2 else if hU M 2=true then 2 else 0:=rfl
 have hB:yN M=(M.tys.any vw||M.aX.any sy||M.fns.any sA||(nK M).any yM||M.b8.any (jT 1048576)||M.b9.any (jT 65536)||M.exs.any sC||(!M.st&&M.sn != 0)):=rfl
 refine aa aH (QU M (M.tys.any vw) (M.aX.any sy) (M.fns.any sA) ((nK M).any yM) (M.b8.any (jT 1048576)) (M.b9.any (jT 65536)) (M.exs.any sC) (nK M).length ((nK M).flatMap dW) (if hU M 2=true then 2 else 0)) ?_
 generalize (if hU M 2=true then(2:Int) else 0)=v at f8 hF ⊢
 rw[hF,hB]
 generalize M.tys.any vw=b1 at *
 generalize M.aX.any sy=b2 at *
 generalize M.fns.any sA=b3 at *
 generalize (nK M).any yM=b4 at *
 generalize M.b8.any (jT 1048576)=b5 at *
 generalize M.b9.any (jT 65536)=b6 at *
 generalize M.exs.any sC=b7 at *
 simp only[KH,gm,aA.ok]
 refine⟨f1,fun q1=> ?_,fun q1=>⟨f2,fun q2=> ?_,fun q2=>⟨f3,fun q3=> ?_,fun q3=>⟨nd,f4,fun q4=> ?_,fun q4=>⟨f5,fun q5=> ?_,fun q5=>⟨f6,fun q6=> ?_,fun q6=>⟨f7,fun q7=> ?_,fun q7=>⟨fun q9=>⟨fun q8=> ?_,fun q8=>⟨f8,?_⟩⟩,fun q9=>⟨f8,?_⟩⟩⟩⟩⟩⟩⟩⟩⟩
 · rw[if_pos (by simp only[q1,ake])]
 · rw[if_pos (by simp only[q2,ake,aki])]
 · rw[if_pos (by simp only[q3,ake,aki])]
 · rw[if_pos (by simp only[q4,ake,aki])]
 · rw[if_pos (by simp only[q5,ake,aki])]
 · rw[if_pos (by simp only[q6,ake,aki])]
 · rw[if_pos (by simp only[q7,ake,aki])]
 · rw[if_pos (by simp only[q8,q9,ajQ,aki])]
 · rw[if_neg (by simp only[q1,q2,q3,q4,q5,q6,q7,q8,Bool.and_false,akl,o0,not_false_eq_true])]
 · rw[if_neg (by simp only[q1,q2,q3,q4,q5,q6,q7,q9,Bool.false_and,akl,o0,not_false_eq_true])]
def dZ (M:Mo):Int:=if BJ M≠0 then BJ M else if F7 M≠0 then F7 M else Gc M
theorem oO (M:Mo) (hM:M.fit) (hw:M.wf) (hs:M.uq):az ae env 17 [.agg (M.aJ.map .p)] [] (sI .i64 (dZ M)) []:=by
 refine aa aH (My M (BJ M) (F7 M) (Gc M)) ?_
 simp only[F5,aA.ok,dZ,bne_iff_ne,ne_eq,bne_eq_false_iff_eq]
 refine⟨MA M hM hs,fun q=> ?_,fun q=>⟨Mz M hM,fun r=> ?_,fun r=>⟨MC M hM hw hs,fun t=> ?_,fun t=> ?_⟩⟩⟩
 · rw[if_pos q]
 · rw[if_neg (by simpa using q),if_pos r]
 · rw[if_neg (by simpa using q),if_neg (by simpa using r)]
 · rw[if_neg (by simpa using q),if_neg (by simpa using r),t]
def mF (x:Fu):Int:=dm x.l 5000 0
def pK (x:Gl):Int:=dm x.l 5000 0
def ur (x:El):Int:=dm x.l 5000 0+min (x.fs.length:Int) 5000
def BS (x:Da):Int:=dm x.l 5000 0+min (x.bs.length:Int) 5000
def MD (x:Im):Int:=min (x.mo.data.toList.length:Int) 5000+min (x.nm.data.toList.length:Int) 5000
def Ym (x:Ex):Int:=min (x.nm.data.toList.length:Int) 5000
def bR {α:Type} (w:α→Int):Int→List α→Int
 |n,[]=>n
 |n,x::r=>bR w (n+w x) r
def fW (M:Mo) (t:Nat) (n:Int) (i:Nat):cm:=ah ae env 6 t [sI .i64 5000,.mp 0 0,sI .i64 n,sI .i64 i] [.pc M.aJ] 0 188
theorem pM {α:Type} {l:List α} {w:α→Int} {D:Int→Nat→cm} {K:Int→Prop} {o:Out} (hw : ∀x:α,0≤w x∧w x≤20000)
  (step : ∀(n:Int) (i:Nat) (x:α),l[i]? = some x→0≤n→n+w x≤1000000000000000→aU ae env (D (n+w x) (i+1)) o→aU ae env (D n i) o)
  (fin : ∀n,K n→aU ae env (D n l.length) o) :
  ∀(r i:Nat) (n:Int),i+r=l.length→0≤n→n+r*20000≤1000000000000000→K (bR w n (l.drop i))→aU ae env (D n i) o:=by
 intro r
 induction r with
 |zero=>
  intro i n hi h0 hn h
  obtain rfl:i=l.length:=by omega
  rw[List.drop_length] at h
  exact fin n h
 |succ r ih=>
  intro i n hi h0 hn h
  have hl:i<l.length:=by omega
  rw[agj hl] at h
  have hx:=hw l[i]
  exact step n i l[i] (da hl) h0 (by omega) (ih (i+1) _ (by omega) (by omega) (by omega) h)
theorem bY {α:Type} {w:α→Int} (hw : ∀x:α,0≤w x∧w x≤20000) : ∀(l:List α) (n:Int),n≤bR w n l∧bR w n l≤n+l.length*20000
 |[],n=>by simp[bR]
 |x::r,n=>by
  have h:=bY hw r (n+w x)
  have hx:=hw x
  simp only[bR,List.length_cons]
  omega
theorem iD {α:Type} {w:α→Int} (hw : ∀x:α,0≤w x∧w x≤20000) : ∀(l:List α) (n:Int) (x:α),x∈l→n+w x≤bR w n l
 |y::r,n,x,h=>by
  have hy:=hw y
  rcases yo.1 h with rfl | h
  · exact(bY hw r (n+w x)).1
  · have:=iD hw r (n+w y) x h
    simp only[bR]
    omega
theorem yO (x:Fu):0≤mF x∧mF x≤20000:=by have h:=cN x.l 5000 0 (by decide) (by decide) (by decide);unfold mF;omega
theorem yP (x:Gl):0≤pK x∧pK x≤20000:=by have h:=cN x.l 5000 0 (by decide) (by decide) (by decide);unfold pK;omega
theorem yQ (x:El):0≤ur x∧ur x≤20000:=by have h:=cN x.l 5000 0 (by decide) (by decide) (by decide);unfold ur;omega
theorem yR (x:Da):0≤BS x∧BS x≤20000:=by have h:=cN x.l 5000 0 (by decide) (by decide) (by decide);unfold BS;omega
theorem BT (x:Im):0≤MD x∧MD x≤20000:=by unfold MD;omega
theorem Gd (x:Ex):0≤Ym x∧Ym x≤20000:=by unfold Ym;omega
theorem RE (M:Mo) (hM:M.wf) (h5:M.fns.length≤5000) (o:Out) (n:Int) (i:Nat) (x:Fu) (hx:M.fns[i]? = some x) (h0:0≤n) (hn:n+mF x≤1000000000000000) (h:aU ae env (fW M 1 (n+mF x) (i+1)) o):aU ae env (fW M 1 n i) o:=by
 have hi:i<M.fns.length:=(dT.1 hx).1
 have c:=aW (z:=3) (enc:=aG) (fun _=>rfl) hx
 have c20:(M.fns.flatMap aG).getD (i*3+1+1) .bz=pL x.l:=c 2 (by decide)
 have c21:(M.fns.flatMap aG).getD (i*3+2) .bz=pL x.l:=c 2 (by decide)
 have w:re.wrap ((i:Int)+1)=((i+1:Nat):Int):=by rw[aQ (by omega) (by omega)];rfl
 have hd:decide ((i:Int)<(M.fns.length:Int))=true:=decide_eq_true (by omega)
 have hI:=cN x.l 5000 0 (by decide) (by decide) (by decide)
 have hq:DE x.l:=(hM.fns.2 x (mv hx)).2.2
 have hc:=hH (cz x.l) x.l 5000 (c9 _) hq.1 hq.2 (by decide) (by decide)
 unfold mF at h hn
 have w1:re.wrap (n+dm x.l 5000 0)=n+dm x.l 5000 0:=aQ (by omega) (by omega)
 refine af aH (BM M 5000 n i (dm x.l 5000 0)) ?_
 simp only[yG,aV,aA.ok,isStr,aO,bg,an,aD,ak,aP,afm,c20,c21,hd,w,cond_true,cond_false,ajQ,ajX,w1]
 exact⟨fun _=>⟨(by first | rfl | (simp only[di,decide_eq_true_eq];omega)),(by first | rfl | trivial),hc,h⟩,fun q=>(by cases q)⟩
theorem VB (M:Mo) (o:Out) (n:Int) (h:aU ae env (fW M 3 n 0) o):aU ae env (fW M 1 n M.fns.length) o:=by
 have hd:decide ((M.fns.length:Int)<(M.fns.length:Int))=false:=decide_eq_false (by omega)
 refine af aH (BM M 5000 n M.fns.length 0) ?_
 simp only[yG,aV,aA.ok,hd]
 exact⟨fun q=>(by cases q),fun _=>h⟩
theorem RF (M:Mo) (hM:M.wf) (h5:M.gls.length≤5000) (o:Out) (n:Int) (i:Nat) (x:Gl) (hx:M.gls[i]? = some x) (h0:0≤n) (hn:n+pK x≤1000000000000000) (h:aU ae env (fW M 3 (n+pK x) (i+1)) o):aU ae env (fW M 3 n i) o:=by
 have hi:i<M.gls.length:=(dT.1 hx).1
 have c:=aW (z:=2) (enc:=bn) (fun _=>rfl) hx
 have c10:(M.gls.flatMap bn).getD (i*2+1) .bz=pL x.l:=c 1 (by decide)
 have w:re.wrap ((i:Int)+1)=((i+1:Nat):Int):=by rw[aQ (by omega) (by omega)];rfl
 have hd:decide ((i:Int)<(M.gls.length:Int))=true:=decide_eq_true (by omega)
 have hI:=cN x.l 5000 0 (by decide) (by decide) (by decide)
 have hq:DE x.l:=(hM.gls.2 x (mv hx))
 have hc:=hH (cz x.l) x.l 5000 (c9 _) hq.1 hq.2 (by decide) (by decide)
 unfold pK at h hn
 have w1:re.wrap (n+dm x.l 5000 0)=n+dm x.l 5000 0:=aQ (by omega) (by omega)
 refine af aH (BN M 5000 n i (dm x.l 5000 0)) ?_
 simp only[yH,aV,aA.ok,isStr,aO,bg,an,aD,ak,aP,afm,c10,hd,w,cond_true,cond_false,ajQ,ajX,w1]
 exact⟨fun _=>⟨(by first | rfl | (simp only[di,decide_eq_true_eq];omega)),(by first | rfl | trivial),hc,h⟩,fun q=>(by cases q)⟩
theorem VC (M:Mo) (o:Out) (n:Int) (h:aU ae env (fW M 5 n 0) o):aU ae env (fW M 3 n M.gls.length) o:=by
 have hd:decide ((M.gls.length:Int)<(M.gls.length:Int))=false:=decide_eq_false (by omega)
 refine af aH (BN M 5000 n M.gls.length 0) ?_
 simp only[yH,aV,aA.ok,hd]
 exact⟨fun q=>(by cases q),fun _=>h⟩
theorem RG (M:Mo) (hM:M.wf) (h5:M.els.length≤5000) (o:Out) (n:Int) (i:Nat) (x:El) (hx:M.els[i]? = some x) (h0:0≤n) (hn:n+ur x≤1000000000000000) (h:aU ae env (fW M 5 (n+ur x) (i+1)) o):aU ae env (fW M 5 n i) o:=by
 have hi:i<M.els.length:=(dT.1 hx).1
 have c:=aW (z:=2) (enc:=aN) (fun _=>rfl) hx
 have c00:(M.els.flatMap aN).getD (i*2) .bz=pL x.l:=c 0 (by decide)
 have c01:(M.els.flatMap aN).getD (i*2+0) .bz=pL x.l:=c 0 (by decide)
 have c12:(M.els.flatMap aN).getD (i*2+1) .bz=pT .u32 x.fs:=c 1 (by decide)
 have w:re.wrap ((i:Int)+1)=((i+1:Nat):Int):=by rw[aQ (by omega) (by omega)];rfl
 have hd:decide ((i:Int)<(M.els.length:Int))=true:=decide_eq_true (by omega)
 have hI:=cN x.l 5000 0 (by decide) (by decide) (by decide)
 have hq:DE x.l:=(hM.els.2 x (mv hx)).1
 have hc:=hH (cz x.l) x.l 5000 (c9 _) hq.1 hq.2 (by decide) (by decide)
 unfold ur at h hn
 have w1:re.wrap (re.wrap (n+dm x.l 5000 0)+min (x.fs.length:Int) 5000)=n+(dm x.l 5000 0+min (x.fs.length:Int) 5000):=by rw[aQ (n:=n+dm x.l 5000 0) (by omega) (by omega),aj9];exact aQ (by omega) (by omega)
 refine af aH (BO M 5000 n i (dm x.l 5000 0)) ?_
 simp only[yI,aV,aA.ok,isStr,aO,bg,an,aD,ak,aP,afm,c00,c01,c12,hd,w,cond_true,cond_false,ajQ,ajX,w1]
 exact⟨fun _=>⟨hc,(by first | rfl | (simp only[di,decide_eq_true_eq];omega)),h⟩,fun q=>(by cases q)⟩
theorem VD (M:Mo) (o:Out) (n:Int) (h:aU ae env (fW M 7 n 0) o):aU ae env (fW M 5 n M.els.length) o:=by
 have hd:decide ((M.els.length:Int)<(M.els.length:Int))=false:=decide_eq_false (by omega)
 refine af aH (BO M 5000 n M.els.length 0) ?_
 simp only[yI,aV,aA.ok,hd]
 exact⟨fun q=>(by cases q),fun _=>h⟩
theorem RH (M:Mo) (hM:M.wf) (h5:M.bp.length≤5000) (o:Out) (n:Int) (i:Nat) (x:Da) (hx:M.bp[i]? = some x) (h0:0≤n) (hn:n+BS x≤1000000000000000) (h:aU ae env (fW M 7 (n+BS x) (i+1)) o):aU ae env (fW M 7 n i) o:=by
 have hi:i<M.bp.length:=(dT.1 hx).1
 have c:=aW (z:=2) (enc:=aZ) (fun _=>rfl) hx
 have c00:(M.bp.flatMap aZ).getD (i*2) .bz=pL x.l:=c 0 (by decide)
 have c01:(M.bp.flatMap aZ).getD (i*2+0) .bz=pL x.l:=c 0 (by decide)
 have c12:(M.bp.flatMap aZ).getD (i*2+1) .bz=pT .u8 x.bs:=c 1 (by decide)
 have w:re.wrap ((i:Int)+1)=((i+1:Nat):Int):=by rw[aQ (by omega) (by omega)];rfl
 have hd:decide ((i:Int)<(M.bp.length:Int))=true:=decide_eq_true (by omega)
 have hI:=cN x.l 5000 0 (by decide) (by decide) (by decide)
 have hq:DE x.l:=(hM.bp.2 x (mv hx)).1
 have hc:=hH (cz x.l) x.l 5000 (c9 _) hq.1 hq.2 (by decide) (by decide)
 unfold BS at h hn
 have w1:re.wrap (re.wrap (n+dm x.l 5000 0)+min (x.bs.length:Int) 5000)=n+(dm x.l 5000 0+min (x.bs.length:Int) 5000):=by rw[aQ (n:=n+dm x.l 5000 0) (by omega) (by omega),aj9];exact aQ (by omega) (by omega)
 refine af aH (BP M 5000 n i (dm x.l 5000 0)) ?_
 simp only[yJ,aV,aA.ok,isStr,aO,bg,an,aD,ak,aP,afm,c00,c01,c12,hd,w,cond_true,cond_false,ajQ,ajX,w1]
 exact⟨fun _=>⟨hc,(by first | rfl | (simp only[di,decide_eq_true_eq];omega)),h⟩,fun q=>(by cases q)⟩
theorem VE (M:Mo) (o:Out) (n:Int) (h:aU ae env (fW M 9 n 0) o):aU ae env (fW M 7 n M.bp.length) o:=by
 have hd:decide ((M.bp.length:Int)<(M.bp.length:Int))=false:=decide_eq_false (by omega)
 refine af aH (BP M 5000 n M.bp.length 0) ?_
 simp only[yJ,aV,aA.ok,hd]
 exact⟨fun q=>(by cases q),fun _=>h⟩
theorem RI (M:Mo) (hM:M.wf) (h5:M.aX.length≤5000) (o:Out) (n:Int) (i:Nat) (x:Im) (hx:M.aX[i]? = some x) (h0:0≤n) (hn:n+MD x≤1000000000000000) (h:aU ae env (fW M 9 (n+MD x) (i+1)) o):aU ae env (fW M 9 n i) o:=by
 have hi:i<M.aX.length:=(dT.1 hx).1
 have c:=aW (z:=3) (enc:=bh) (fun _=>rfl) hx
 have c00:(M.aX.flatMap bh).getD (i*3) .bz = .sc (.string x.mo):=c 0 (by decide)
 have c01:(M.aX.flatMap bh).getD (i*3+0) .bz = .sc (.string x.mo):=c 0 (by decide)
 have c12:(M.aX.flatMap bh).getD (i*3+1) .bz = .sc (.string x.nm):=c 1 (by decide)
 have w:re.wrap ((i:Int)+1)=((i+1:Nat):Int):=by rw[aQ (by omega) (by omega)];rfl
 have hd:decide ((i:Int)<(M.aX.length:Int))=true:=decide_eq_true (by omega)
 unfold MD at h hn
 have w1:re.wrap (re.wrap (n+min (x.mo.data.toList.length:Int) 5000)+min (x.nm.data.toList.length:Int) 5000)=n+(min (x.mo.data.toList.length:Int) 5000+min (x.nm.data.toList.length:Int) 5000):=by rw[aQ (n:=n+min (x.mo.data.toList.length:Int) 5000) (by omega) (by omega),aj9];exact aQ (by omega) (by omega)
 refine af aH (BQ M 5000 n i 0) ?_
 simp only[yK,aV,aA.ok,isStr,aO,bg,an,aD,ak,aP,afm,c00,c01,c12,hd,w,cond_true,cond_false,ajQ,ajX,w1]
 exact⟨fun _=>⟨(by first | rfl | (simp only[di,decide_eq_true_eq];omega)),h⟩,fun q=>(by cases q)⟩
theorem VF (M:Mo) (o:Out) (n:Int) (h:aU ae env (fW M 11 n 0) o):aU ae env (fW M 9 n M.aX.length) o:=by
 have hd:decide ((M.aX.length:Int)<(M.aX.length:Int))=false:=decide_eq_false (by omega)
 refine af aH (BQ M 5000 n M.aX.length 0) ?_
 simp only[yK,aV,aA.ok,hd]
 exact⟨fun q=>(by cases q),fun _=>h⟩
theorem RJ (M:Mo) (hM:M.wf) (h5:M.exs.length≤5000) (o:Out) (n:Int) (i:Nat) (x:Ex) (hx:M.exs[i]? = some x) (h0:0≤n) (hn:n+Ym x≤1000000000000000) (h:aU ae env (fW M 11 (n+Ym x) (i+1)) o):aU ae env (fW M 11 n i) o:=by
 have hi:i<M.exs.length:=(dT.1 hx).1
 have c:=aW (z:=3) (enc:=bu) (fun _=>rfl) hx
 have c00:(M.exs.flatMap bu).getD (i*3) .bz = .sc (.string x.nm):=c 0 (by decide)
 have c01:(M.exs.flatMap bu).getD (i*3+0) .bz = .sc (.string x.nm):=c 0 (by decide)
 have w:re.wrap ((i:Int)+1)=((i+1:Nat):Int):=by rw[aQ (by omega) (by omega)];rfl
 have hd:decide ((i:Int)<(M.exs.length:Int))=true:=decide_eq_true (by omega)
 unfold Ym at h hn
 have w1:re.wrap (n+min (x.nm.data.toList.length:Int) 5000)=n+min (x.nm.data.toList.length:Int) 5000:=aQ (by omega) (by omega)
 refine af aH (BR M 5000 n i 0) ?_
 simp only[yL,aV,aA.ok,isStr,aO,bg,an,aD,ak,aP,afm,c00,c01,hd,w,cond_true,cond_false,ajQ,ajX,w1]
 exact⟨fun _=>⟨(by first | rfl | (simp only[di,decide_eq_true_eq];omega)),(by first | rfl | trivial),h⟩,fun q=>(by cases q)⟩
theorem VG (M:Mo) (o:Out) (n:Int) (h:Out.ret (sB (decide (n>5000))) []=o):aU ae env (fW M 11 n M.exs.length) o:=by
 have hd:decide ((M.exs.length:Int)<(M.exs.length:Int))=false:=decide_eq_false (by omega)
 refine af aH (BR M 5000 n M.exs.length 0) ?_
 simp only[yL,aV,aA.ok,hd]
 exact⟨fun q=>(by cases q),fun _=>h⟩
def lens (M:Mo):Int:=M.tys.length+M.aX.length+M.fns.length+M.b8.length+M.b9.length+M.gls.length+M.exs.length+M.els.length+M.bp.length
def Ge (M:Mo):Int:=bR Ym (bR MD (bR BS (bR ur (bR pK (bR mF (lens M) M.fns) M.gls) M.els) M.bp) M.aX) M.exs
def kN (M:Mo):Bool:=if lens M>5000 then true else decide (Ge M>5000)
def _root_.Go.Am.Mo.short (M:Mo):Prop:=M.tys.length≤1000000000000000∧M.aX.length≤1000000000000000∧M.fns.length≤1000000000000000∧M.b8.length≤1000000000000000∧M.b9.length≤1000000000000000∧M.gls.length≤1000000000000000∧M.exs.length≤1000000000000000∧M.els.length≤1000000000000000∧M.bp.length≤1000000000000000
theorem I9 (M:Mo) (hw:M.wf) (hs:M.short):az ae env 6 [.agg (M.aJ.map .p),sI .i64 5000] [] (sB (kN M)) []:=by
 obtain⟨s1,s2,s3,s4,s5,s6,s7,s8,s9⟩:=hs
 have e:re.wrap (re.wrap (re.wrap (re.wrap (re.wrap (re.wrap (re.wrap (re.wrap ((M.tys.length:Int)+M.aX.length)+M.fns.length)+M.b8.length)+M.b9.length)+M.gls.length)+M.exs.length)+M.els.length)+M.bp.length)=lens M:=by
  unfold lens
  rw[aQ (n:=(M.tys.length:Int)+M.aX.length) (by omega) (by omega),aQ (n:=(M.tys.length:Int)+M.aX.length+M.fns.length) (by omega) (by omega),aQ (n:=(M.tys.length:Int)+M.aX.length+M.fns.length+M.b8.length) (by omega) (by omega),
   aQ (n:=(M.tys.length:Int)+M.aX.length+M.fns.length+M.b8.length+M.b9.length) (by omega) (by omega),aQ (n:=(M.tys.length:Int)+M.aX.length+M.fns.length+M.b8.length+M.b9.length+M.gls.length) (by omega) (by omega),
   aQ (n:=(M.tys.length:Int)+M.aX.length+M.fns.length+M.b8.length+M.b9.length+M.gls.length+M.exs.length) (by omega) (by omega),aQ (n:=(M.tys.length:Int)+M.aX.length+M.fns.length+M.b8.length+M.b9.length+M.gls.length+M.exs.length+M.els.length) (by omega) (by omega),aQ (by omega) (by omega)]
 refine aa aH (RC M 5000) ?_
 simp only[KQ,aV,aA.ok,e]
 refine⟨fun q=> ?_,fun q=> ?_⟩
 · have q:lens M>5000:=by simpa using q
   rw[kN,if_pos q]
 · have q : ¬lens M>5000:=by simpa using q
   have hl:0≤lens M:=by unfold lens;omega
   rw[kN,if_neg q]
   have q:lens M≤5000:=by omega
   have l1:M.fns.length≤5000:=by unfold lens at q;omega
   have l2:M.gls.length≤5000:=by unfold lens at q;omega
   have l3:M.els.length≤5000:=by unfold lens at q;omega
   have l4:M.bp.length≤5000:=by unfold lens at q;omega
   have l5:M.aX.length≤5000:=by unfold lens at q;omega
   have l6:M.exs.length≤5000:=by unfold lens at q;omega
   have r1:=bY yO M.fns (lens M)
   have r2:=bY yP M.gls (bR mF (lens M) M.fns)
   have r3:=bY yQ M.els (bR pK (bR mF (lens M) M.fns) M.gls)
   have r4:=bY yR M.bp (bR ur (bR pK (bR mF (lens M) M.fns) M.gls) M.els)
   have r5:=bY BT M.aX (bR BS (bR ur (bR pK (bR mF (lens M) M.fns) M.gls) M.els) M.bp)
   have k6:=pM Gd (RJ M hw l6 (.ret (sB (decide (Ge M>5000))) [])) (VG M _) M.exs.length 0 (bR MD (bR BS (bR ur (bR pK (bR mF (lens M) M.fns) M.gls) M.els) M.bp) M.aX) (by omega) (by omega) (by omega) rfl
   have k5:=pM BT (RI M hw l5 _) (VF M _) M.aX.length 0 (bR BS (bR ur (bR pK (bR mF (lens M) M.fns) M.gls) M.els) M.bp) (by omega) (by omega) (by omega) k6
   have k4:=pM yR (RH M hw l4 _) (VE M _) M.bp.length 0 (bR ur (bR pK (bR mF (lens M) M.fns) M.gls) M.els) (by omega) (by omega) (by omega) k5
   have k3:=pM yQ (RG M hw l3 _) (VD M _) M.els.length 0 (bR pK (bR mF (lens M) M.fns) M.gls) (by omega) (by omega) (by omega) k4
   have k2:=pM yP (RF M hw l2 _) (VC M _) M.gls.length 0 (bR mF (lens M) M.fns) (by omega) (by omega) (by omega) k3
   have k1:=pM yO (RE M hw l1 _) (VB M _) M.fns.length 0 (lens M) (by omega) (by omega) (by omega) k2
   exact k1
theorem BU {M:Mo} (h:kN M=false):M.fit∧M.uq∧lens M≤5000:=by
 unfold kN at h
 split at h
 · cases h
 rename_i q
 have h : ¬Ge M>5000:=by simpa using h
 have q:lens M≤5000:=by omega
 have q':=q
 unfold lens at q'
 have r1:=bY yO M.fns (lens M)
 have r2:=bY yP M.gls (bR mF (lens M) M.fns)
 have r3:=bY yQ M.els (bR pK (bR mF (lens M) M.fns) M.gls)
 have r4:=bY yR M.bp (bR ur (bR pK (bR mF (lens M) M.fns) M.gls) M.els)
 have r5:=bY BT M.aX (bR BS (bR ur (bR pK (bR mF (lens M) M.fns) M.gls) M.els) M.bp)
 have r6:=bY Gd M.exs (bR MD (bR BS (bR ur (bR pK (bR mF (lens M) M.fns) M.gls) M.els) M.bp) M.aX)
 unfold Ge at h
 have hl:0≤lens M:=by unfold lens;omega
 have cnt : ∀l:List Ins,dm l 5000 0≤5000→cg l≤100000000000:=fun l hl=>by
  have:=oI l 5000 0 (by decide) (by decide) hl
  have:=mw l
  omega
 refine⟨⟨by omega,by omega,by omega,by omega,by omega,by omega,by omega,by omega,by omega⟩,fun l hm=> ?_,q⟩
 simp only[I6,na,fb] at hm
 rcases hm with((⟨x,hx,rfl⟩ | ⟨x,hx,rfl⟩) | ⟨x,hx,rfl⟩) | ⟨x,hx,rfl⟩
 · have:=iD yO M.fns (lens M) x hx
   exact cnt _ (by have e:mF x=dm x.l 5000 0:=rfl;omega)
 · have:=iD yP M.gls (bR mF (lens M) M.fns) x hx
   exact cnt _ (by have e:pK x=dm x.l 5000 0:=rfl;omega)
 · have:=iD yQ M.els (bR pK (bR mF (lens M) M.fns) M.gls) x hx
   exact cnt _ (by have e:ur x=dm x.l 5000 0+min (x.fs.length:Int) 5000:=rfl;omega)
 · have:=iD yR M.bp (bR ur (bR pK (bR mF (lens M) M.fns) M.gls) M.els) x hx
   exact cnt _ (by have e:BS x=dm x.l 5000 0+min (x.bs.length:Int) 5000:=rfl;omega)
end Go.Proofs.YtncncijedmfpjaaGreatDoor.N
end
section
namespace Go.Proofs.YtncncijedmfpjaaGreatDoor.N
open Go Go.Am
def eU (n:Int):List Nat:=pU 4 n.toNat
def eV (n:Int):List Nat:=eU (IntKind.u32.wrap n)
def HM (n:Int):List Nat:=eV n++List.replicate n.toNat 127
def sF (x:Ty):List Nat:=if vv x=0 then 96::(HM x.p++HM x.r) else[]
def ME (s:ByteArray):List Nat:=s.data.toList.map UInt8.toNat
def sG (s:ByteArray):Int:=if s.data.toList.length>1048576 then 3 else if jZ s≥0 then 4 else 0
def eM (s:ByteArray):List Nat:=if sG s=0 then eV s.data.toList.length++ME s else[]
def tr (most:Int) (x:Li):List Nat:=if yC most x=0 then(if x.cap=true then 1::(eU x.mn++eU x.mx) else 0::eU x.mn) else[]
def BV (x:Im):List Nat:=eM x.mo++eM x.nm++[0]++eV x.ty
def BW (x:Fu):List Nat:=eV x.ty
def BX (x:Li):List Nat:=[112]++tr 1048576 x
def BY (x:Li):List Nat:=tr 65536 x
def BZ (x:Gl):List Nat:=[127,if x.mu=true then 1 else 0]++kM x.l
def B0 (x:Ex):List Nat:=eM x.nm++[(x.kind%256).toNat]++eU x.ix
def EC (x:El):List Nat:=[0]++kM x.l++eV x.fs.length++x.fs.flatMap eU
def B2 (x:Fu):List Nat:=eV (AA x.lo x.l).length++AA x.lo x.l
def B3 (x:Da):List Nat:=[0]++kM x.l++eV x.bs.length++x.bs.map Int.toNat
def yS {α:Type} (l:List α) (e:α→List Nat):List Nat:=if l.length=0 then[] else eV l.length++l.flatMap e
def sec (M:Mo):Nat→List Nat
 |1=>yS M.tys sF
 |2=>yS M.aX BV
 |3=>yS M.fns BW
 |4=>yS M.b8 BX
 |5=>yS M.b9 BY
 |6=>yS M.gls BZ
 |7=>yS M.exs B0
 |8=>if M.st=true then eU M.sn else[]
 |9=>yS M.els EC
 |10=>yS M.fns B2
 |11=>yS M.bp B3
 |_=>[]
def AF (M:Mo) (d:Nat):List Nat:=if(sec M d).length=0 then[] else[d]++eV (sec M d).length++sec M d
def oP:List Nat:=[0,97,115,109,1,0,0,0]
def nB (M:Mo) (d:Nat):List Nat:=oP++(List.range' 1 d).flatMap (AF M)
def mG (M:Mo):List Nat:=nB M 11
def nh (M:Mo):Int:=if dZ M≠0 then dZ M else if(mG M).length>1048576 then 3 else 0
def kU (M:Mo):List Nat:=if nh M=0 then mG M else[]
def mH (M:Mo) (d:Int):Int:=if dZ M≠0 then dZ M else if d<1∨d>11 then 5 else 0
def kO (M:Mo) (d:Int):List Nat:=if mH M d=0 then sec M d.toNat else[]
theorem oQ (M:Mo) (d:Nat):nB M (d+1)=nB M d++AF M (d+1):=by
 unfold nB
 rw[List.range'_concat,List.flatMap_append,List.append_assoc]
 simp[Nat.add_comm]
end Go.Proofs.YtncncijedmfpjaaGreatDoor.N
end
section
namespace Go.Proofs.YtncncijedmfpjaaGreatDoor.N
open Go Go.Am
abbrev mV (M:Mo):List AV:=M.aJ.map .p
def wrG (f d:Nat):Bool:=wrs f d||(ba f 19&&ba d 9)||(ba f 20&&ba d 10)||(ba f 85&&ba d 16)||(ba f 91&&ba d 16)||(ba f 88&&ba d 19)
def bO:Env where
 ec:=uR tabs
 wr:=wrG
 keep:=IA keeps
end Go.Proofs.YtncncijedmfpjaaGreatDoor.N
end
section
namespace Go.Am
open Go.RowKit
section
variable {P:Program} {E:Env} {g:Gh} {m:Mem} {w:World}
theorem dy : ∀l:List PV,allBy (l.map .p)=l.all isByte
 |[]=>rfl
 |v::l=>by simp[allBy,X1,dy l]
theorem allBy_append : ∀a b:List AV,allBy (a++b)=(allBy a&&allBy b)
 |[],b=>by simp[allBy]
 |x::a,b=>by simp[allBy,allBy_append a b,Bool.and_assoc]
def RK:Value→Int
 |.int _ n=>n
 |_=>0
theorem u8s {cs:List Value} (h : ∀v∈cs,∃k,v = .int .u8 k):dj g w ((bN .u8 (cs.map RK)).map .p) cs:=
 bP.cY (by simp[bN]) fun i hi hj=>by
  obtain⟨k,hk⟩:=h cs[i] (en hj)
  simp only[bN,dE,hk,RK]
  exact .p _ _ (.sc _)
theorem az.ab3 {f:FuncId} {args:List AV} {n:Nat} {t:TypeId} {X:List AV} {v:AV} (hf0 : ∃fn,P.funcs[f]? = some fn∧fn.body.isSome=true∧(fn.name == "runtime.NumGoroutine")=false)
  (h : ∀(zs:List Int) (cap:Nat),n≤cap→cap≤zs.length→zs.length≤9223372036854775807→az P E f (.ms 0 0 n 1 (some cap)::args) [.pc (bN .u8 zs)] v [.dead]):az P E f (.ms 0 0 n 1 none::args) [.ob (.gb t) X] v [.dead]:=by
 refine⟨hf0,fun g w cS cs hr hv hg=> ?_⟩
 match hl:cS.toList,hv with
 |x::xs,hv=>
  have hx:VA g w (.ms 0 0 n 1 none) x:=hv.1
  cases hx with
  |mg _ _ _ _ cap c hc hcap hroom=>
  obtain⟨c',ob,vs,k1,k2,k3,k4,k5,k6⟩:=hr.obs 0 _ _ rfl
  rw[hc] at k1;cases k1
  obtain⟨cells,e,q,rfl,_,q0,_,_,q3,q4⟩:=k4
  have k6:cells.size=g.hi 0:=k6
  have hr':Rel g [.pc (bN .u8 (cells.toList.map RK))] w:=by
   refine⟨fun i hi=>hr.tA i hi,fun i hi=> ?_,fun i b l hi hb=> ?_,fun i c hi=> ?_,fun i j b b' c hi hj _ _ _ _=> ?_,hr.there,fun i k l hi=> ?_⟩
   · match i,hi with
     |0,hi=>cases hi
     |_+1,hi=>cases hi
   · match i,hi with
     |0,hi=>
      cases hi
      simp only[bq.cells?,Option.some.injEq] at hb
      subst hb
      exact⟨c,cells,e,q,hc,k2,q0,⟨u8s q3,fun v hv=>by obtain⟨k,rfl⟩:=q3 v hv;rfl⟩,k5⟩
     |_+1,hi=>cases hi
   · match i,hi with
     |0,hi=>cases hi
     |_+1,hi=>cases hi
   · match i,hi,j,hj with
     |0,_,0,_=>rfl
     |_+1,hi,_,_=>cases hi
     |0,_,_+1,hj=>cases hj
   · match i,hi with
     |0,hi=>cases hi
     |_+1,hi=>cases hi
  have own : ∀c,fH g [.pc (bN .u8 (cells.toList.map RK))] c→fH g [.ob (.gb t) X] c:=fun c ⟨i,b,hi,_,hcc⟩=>by
   match i,hi with
   |0,_=>exact⟨0,_,rfl,rfl,hcc⟩
   |_+1,hi=>cases hi
  obtain⟨w',g',cv,fr,s1,s2,s3,s4,s5,s6,s7,s8⟩:=(h (cells.toList.map RK) cap hcap (by simp at hroom ⊢;omega) (by simpa using q4)).2 g w cS cs hr' (by rw[hl];exact⟨.ms 0 0 n 1 cap c hc hcap,hv.2⟩) hg
  exact⟨w',g',cv,fr,s1,s2,s3,s4,s5,⟨s6.size,fun c hc ho=>s6.keep c hc fun hh=>ho (own c hh),s6.pure,fun c o hp=>(s6.fresh c o hp).imp_right (Or.imp_left (own c)),fun c ho=>(s6.owned c ho).imp_left (own c),s6.os,s6.tape,s6.output⟩,s7,s8⟩
theorem az.RL {f:FuncId} {args:List AV} {n:Nat} {t:TypeId} {X:List PV} {u:PV} (h:az P E f args [] (.aK [.ms 0 0 n 1 none,.p u]) [.ob (.gb t) (X.map .p)]) (hn:n=X.length):az P E f args [] (.aK [.p (.ps n 1 X),.p u]) []:=by
 obtain⟨hf,h⟩:=h
 refine⟨hf,fun g w cS cs hr hv hg=> ?_⟩
 obtain⟨w',g',cv,fr,s1,s2,s3,s4,s5,s6,s7,s8⟩:=h g w cS cs hr hv hg
 cases s4 with
 |aK _ cs' hl hcs=>
 match LD:cs'.toList,hl with
 |[a,b],_=>
  have ha:VA g' w' (.ms 0 0 n 1 none) a:=by
   have:=hcs 0 (by simp) (by rw[LD];simp)
   simpa[LD] using this
  have hb:VA g' w' (.p u) b:=by
   have:=hcs 1 (by simp) (by rw[LD];simp)
   simpa[LD] using this
  cases ha with
  |mg _ _ _ _ cap c hc hcap hroom=>
  obtain⟨c',ob,vs,k1,k2,k3,k4,k5,k6⟩:=s5.obs 0 _ _ rfl
  rw[hc] at k1;cases k1
  obtain⟨cells,e,q,rfl,_,q0,q1,q2,q3,_⟩:=k4
  have hlen:=k3.len
  rw[List.length_map] at hlen
  have hpu : ∀o,o<n → ∃v,w'.cell? ⟨c,o,none⟩=some v:=fun o ho=>by
   rw[bD k2]
   exact⟨_,gl (by omega)⟩
  refine⟨w',bare fun c' o=>g'.pure c' o∨(c'=c∧o<n),.tuple cs',fr,s1,s2,s3,?_,Rel.bare ?_,⟨s6.size,s6.keep,fun c' o p=>⟨Or.inl (s6.pure c' o p).1,(s6.pure c' o p).2⟩,fun c' o p=> ?_,fun c' ho=> ?_,s6.os,s6.tape,s6.output⟩,fun k c' hk=>absurd hk (Nat.not_lt_zero _),c9 _⟩
  · refine VA.mP.2 ?_
    rw[LD]
    have Yn : ∀k,k<X.length→cells[k]? = some ((cells[k]?).getD undef):=fun k hk=>by
     rw[gl (by omega)];rfl
    refine⟨.p _ _ (.ps n 1 X c 0 cap (fun k=>(cells[k]?).getD undef) (by omega) hcap (c9 _) (fun k hk=>⟨Or.inr ⟨rfl,by omega⟩,?_,?_⟩) fun k hk=> ?_),?_,trivial⟩
    · rw[bD k2,Nat.zero_add];exact Yn k hk
    · have hk':k<cells.size:=by omega
      obtain⟨j,hj⟩:=q3 cells[k] (by simp)
      rw[gl hk']
      show(cells[k]).oneCell'=true
      rw[hj];rfl
    · have hkv:k<vs.length:=by omega
      have hk':k<cells.size:=by omega
      have h1:=k3.get k (by simpa using hk) hkv
      rw[dE,VA.pv] at h1
      have e1:vs[k]? = some cells[k]:=by
       rw[q1,List.getElem?_take,if_pos hkv]
       simp[hk']
      rw[da hkv] at e1
      rw[Option.some.inj e1] at h1
      rw[gl hk']
      exact h1.mono fun _ _ p=>⟨Or.inl p,rfl⟩
    · rw[VA.pv] at hb
      exact .p _ _ (hb.mono fun _ _ p=>⟨Or.inl p,rfl⟩)
  · rintro c' o (p | ⟨rfl,p⟩)
    · exact s5.there c' o p
    · exact hpu o p
  · rcases p with p | ⟨rfl,_⟩
    · exact s6.fresh c' o p
    · exact(s6.owned c' ⟨0,_,rfl,rfl,hc⟩).elim (fun q=> .inr (.inl q)) fun q=> .inr (.inr q)
  · obtain⟨i,b,hi,_⟩:=ho
    cases hi
theorem VA.RM {t len sz:Nat} {cells:List PV} {x:Value} (h:VA g w (.os none len sz cells) x):VA g w (.os (some t) len sz cells) x:=by
 cases h with
 |os _ _ _ _ a cap h' hr'=>
  refine .os _ _ _ _ a cap h' (.inl ?_)
  rcases hr' with h | ⟨t,b,o,e,_⟩
  · exact h
  · cases e
def Ja (n j len sz:Nat) (cs:List PV):pZ→pZ
 |[]=>[]
 |(k,v)::r=>(k,cond (ba k j) (.os (some n) len sz cs) v)::Ja n j len sz cs r
theorem sH {n len sz i k:Nat} {cs:List PV} (hk:ba i k=false) : ∀{r:pZ},look (Ja n i len sz cs r) k=look r k
 |[]=>rfl
 |(a,v)::r=>by
  simp only[look,Ja]
  cases ha:ba a k with
  |true=>
   obtain rfl:=be ha
   have:ba a i=false:=by
    cases hai:ba a i with
    |false=>rfl
    |true=>obtain rfl:=be hai;rw[Nat.beq_refl] at hk;cases hk
   rw[this];rfl
  |false=>exact sH hk
theorem B4 {n j len sz:Nat} {cs:List PV} : ∀{tm:pZ},look tm j = .os none len sz cs → ∀k,look (Ja n j len sz cs tm) k=look tm k∨(look tm k = .os none len sz cs∧look (Ja n j len sz cs tm) k = .os (some n) len sz cs)
 |[],_,_=> .inl rfl
 |(i,v)::r,h,k=>by
  simp only[look,Ja] at h ⊢
  cases hi:ba i j with
  |true=>
   rw[hi] at h
   cases hk:ba i k with
   |true=>exact .inr ⟨h,rfl⟩
   |false=>
    simp only[cond_false]
    clear h
    obtain rfl:=be hi
    exact .inl (sH hk)
  |false=>
   rw[hi] at h
   cases hk:ba i k with
   |true=>exact .inl rfl
   |false=>exact B4 h k
theorem aU.RM {c:cm} {o:Out} (j len sz:Nat) (cells:List PV) (hj:look c.st.tm j = .os none len sz cells) (hc:gU c=true)
  (h:aU P E {c with st:={c.st with tm:=Ja c.st.mem.length j len sz cells c.st.tm,mem:=c.st.mem++[.tok]}} o):aU P E c o:=by
 refine aU.bI (fun g fr w hr cs=> ?_) h
 obtain⟨f,todo,st⟩:=c
 obtain⟨tm,nt,mem,fix,cT,cL⟩:=st
 dsimp only at hj h ⊢
 match todo,hc with
 |.code i x::k,_=>
  obtain⟨b,a,q1,q2,q3,q4,q5,q6⟩:=hr
  have xH:Rel g mem w:=q5.rel
  obtain⟨f1,f2⟩:=xH.cR 1
  have hn:(mem++cR 1)[mem.length]? = some .free:=by rw[List.getElem?_append_right (c9 _),Nat.sub_self];rfl
  obtain⟨z1,z2⟩:=f1.rE hn
  have hmem:(mem++cR 1).set mem.length .tok=mem++[.tok]:=by simp[cR]
  rw[hmem] at z1 z2
  refine⟨g,fr,w,Steps.refl _ _,⟨b,a,q1,q2,q3,q4,⟨fun k=> ?_,q5.nt,z1,?_,q5.ec⟩,q6⟩,f2.trans z2,bZ.refl _ _,rfl,rfl,rfl⟩
  · rcases B4 (n:=mem.length) (sz:=sz) hj k with e | ⟨e1,e2⟩
    · dsimp only;rw[e];exact q5.tm k
    · dsimp only;rw[e2]
      have:=q5.tm k
      dsimp only at this
      rw[e1] at this
      exact VA.RM this
  · have:=q5.fix
    dsimp only at this ⊢
    rw[List.length_append]
    omega
end
end Go.Am
end
