import Derived.Test.YtddfgnmjecogdaaDoorMH
import Derived.Test.YtddfgnmjecogdaaDoorMQ
import Derived.Test.YtddfgnmjecogdaaDoorMP
import Derived.Test.YtddfgnmjecogdaaDoorRows
import Derived.MakeChecks
open Nat renaming beq→a6,le_refl→ch,zero_le→S3,ble_eq→TF
open Go.Proofs.Tryd renaming prog→ae
open Go.Value renaming int→vz
open Go.IntKind renaming i64→tl
open Min renaming min→TC
open Max renaming max→TD
open Int renaming toNat_natCast→TE
open Bool renaming false_eq_true→pC,true_eq_false→TJ,and_true→TR,not_false→qf
open List renaming mem_singleton→Ts,mem_cons→oT
noncomputable section
section
set_option linter.unusedSimpArgs false
set_option linter.unusedVariables false
namespace Go.Proofs.YtddfgnmjecogdaaDoor.N
open Go Go.Am
def I5 (_:List Ins) (_ _ _:Int) (R:List AV→Int) (f:FuncId) (args:List AV) (m:Mem):Option (AV×Mem):=cond (a6 f 13) (some (sI .i64 (R args),m)) none
def Lr:hJ:=gk eK cK [(13,0)] [] []
def NO:Sc:= .fin
def I6 (l:List Ins) (most:Int):aP:=
 (.at (aj ae env 13 0 [AV.p (PV.ps l.length 8 (aa l)),AV.p (PV.sc (vz tl most)),AV.p (PV.sc (vz tl 0)),AV.p (PV.sc (vz tl 0))] ([]) 0 58))
theorem G7 (l:List Ins) (most:Int):dJ ae env Lr 1000000 13 ([aL l,sI tl most]) ([]) NO=I6 l most:=by kernel_rfl
def I7 (l:List Ins) (most:Int) (n:Int) (i:Int) (R:List AV→Int):hJ:=gk (I5 l most n i R) cK [(13,0)] [(13,4,5),(13,0,1),(13,0,2),(13,0,3)] [(13,6,4),(13,6,6),(13,8,3),(13,8,5),(13,10,3),(13,10,5)]
def Ls:Sc:=(.fork (.fork (.fork .fin (.no .fin)) .fin) (.lit .fin))
def vZ (l:List Ins) (most:Int) (n:Int) (i:Int) (R:List AV→Int):aP:=
 (.test (decide (i<(↑l.length:Int)))
  (.test (decide (n≤most))
   (.must (fG i l.length&&true&&true)
    (.must (dA (cq (aa l) (i.toNat*8+5))&&true)
     (.test (decide (tl.wrap (tl.wrap (n+1)+bif true then TC (↑(aJ (cq (aa l) (i.toNat*8+5))):Int) most else TD (↑(aJ (cq (aa l) (i.toNat*8+5))):Int) most)≤most))
      (.must (fG i l.length&&true&&true)
       (.must (dA (cq (aa l) (i.toNat*8+6))&&true)
        (.call ⟨13,[AV.p (PV.ps (aJ (cq (aa l) (i.toNat*8+6))) (cO (cq (aa l) (i.toNat*8+6))) (aI (cq (aa l) (i.toNat*8+6)))),AV.p (PV.sc (vz tl (tl.wrap (most-tl.wrap (tl.wrap (n+1)+bif true then TC (↑(aJ (cq (aa l) (i.toNat*8+5))):Int) most else TD (↑(aJ (cq (aa l) (i.toNat*8+5))):Int) most)))))],[],AV.p (PV.sc (vz tl (R [AV.p (PV.ps (aJ (cq (aa l) (i.toNat*8+6))) (cO (cq (aa l) (i.toNat*8+6))) (aI (cq (aa l) (i.toNat*8+6)))),AV.p (PV.sc (vz tl (tl.wrap (most-tl.wrap (tl.wrap (n+1)+bif true then TC (↑(aJ (cq (aa l) (i.toNat*8+5))):Int) most else TD (↑(aJ (cq (aa l) (i.toNat*8+5))):Int) most)))))]))),[]⟩
         (.test (decide (tl.wrap (tl.wrap (tl.wrap (n+1)+bif true then TC (↑(aJ (cq (aa l) (i.toNat*8+5))):Int) most else TD (↑(aJ (cq (aa l) (i.toNat*8+5))):Int) most)+R [AV.p (PV.ps (aJ (cq (aa l) (i.toNat*8+6))) (cO (cq (aa l) (i.toNat*8+6))) (aI (cq (aa l) (i.toNat*8+6)))),AV.p (PV.sc (vz tl (tl.wrap (most-tl.wrap (tl.wrap (n+1)+bif true then TC (↑(aJ (cq (aa l) (i.toNat*8+5))):Int) most else TD (↑(aJ (cq (aa l) (i.toNat*8+5))):Int) most)))))])≤most))
          (.must (fG i l.length&&true&&true)
           (.must (dA (cq (aa l) (i.toNat*8+7))&&true)
            (.call ⟨13,[AV.p (PV.ps (aJ (cq (aa l) (i.toNat*8+7))) (cO (cq (aa l) (i.toNat*8+7))) (aI (cq (aa l) (i.toNat*8+7)))),AV.p (PV.sc (vz tl (tl.wrap (most-tl.wrap (tl.wrap (tl.wrap (n+1)+bif true then TC (↑(aJ (cq (aa l) (i.toNat*8+5))):Int) most else TD (↑(aJ (cq (aa l) (i.toNat*8+5))):Int) most)+R [AV.p (PV.ps (aJ (cq (aa l) (i.toNat*8+6))) (cO (cq (aa l) (i.toNat*8+6))) (aI (cq (aa l) (i.toNat*8+6)))),AV.p (PV.sc (vz tl (tl.wrap (most-tl.wrap (tl.wrap (n+1)+bif true then TC (↑(aJ (cq (aa l) (i.toNat*8+5))):Int) most else TD (↑(aJ (cq (aa l) (i.toNat*8+5))):Int) most)))))])))))],[],AV.p (PV.sc (vz tl (R [AV.p (PV.ps (aJ (cq (aa l) (i.toNat*8+7))) (cO (cq (aa l) (i.toNat*8+7))) (aI (cq (aa l) (i.toNat*8+7)))),AV.p (PV.sc (vz tl (tl.wrap (most-tl.wrap (tl.wrap (tl.wrap (n+1)+bif true then TC (↑(aJ (cq (aa l) (i.toNat*8+5))):Int) most else TD (↑(aJ (cq (aa l) (i.toNat*8+5))):Int) most)+R [AV.p (PV.ps (aJ (cq (aa l) (i.toNat*8+6))) (cO (cq (aa l) (i.toNat*8+6))) (aI (cq (aa l) (i.toNat*8+6)))),AV.p (PV.sc (vz tl (tl.wrap (most-tl.wrap (tl.wrap (n+1)+bif true then TC (↑(aJ (cq (aa l) (i.toNat*8+5))):Int) most else TD (↑(aJ (cq (aa l) (i.toNat*8+5))):Int) most)))))])))))]))),[]⟩
             (.at (aj ae env 13 0 [AV.p (PV.ps l.length 8 (aa l)),AV.p (PV.sc (vz tl most)),AV.p (PV.sc (vz tl (tl.wrap (tl.wrap (tl.wrap (tl.wrap (n+1)+bif true then TC (↑(aJ (cq (aa l) (i.toNat*8+5))):Int) most else TD (↑(aJ (cq (aa l) (i.toNat*8+5))):Int) most)+R [AV.p (PV.ps (aJ (cq (aa l) (i.toNat*8+6))) (cO (cq (aa l) (i.toNat*8+6))) (aI (cq (aa l) (i.toNat*8+6)))),AV.p (PV.sc (vz tl (tl.wrap (most-tl.wrap (tl.wrap (n+1)+bif true then TC (↑(aJ (cq (aa l) (i.toNat*8+5))):Int) most else TD (↑(aJ (cq (aa l) (i.toNat*8+5))):Int) most)))))])+R [AV.p (PV.ps (aJ (cq (aa l) (i.toNat*8+7))) (cO (cq (aa l) (i.toNat*8+7))) (aI (cq (aa l) (i.toNat*8+7)))),AV.p (PV.sc (vz tl (tl.wrap (most-tl.wrap (tl.wrap (tl.wrap (n+1)+bif true then TC (↑(aJ (cq (aa l) (i.toNat*8+5))):Int) most else TD (↑(aJ (cq (aa l) (i.toNat*8+5))):Int) most)+R [AV.p (PV.ps (aJ (cq (aa l) (i.toNat*8+6))) (cO (cq (aa l) (i.toNat*8+6))) (aI (cq (aa l) (i.toNat*8+6)))),AV.p (PV.sc (vz tl (tl.wrap (most-tl.wrap (tl.wrap (n+1)+bif true then TC (↑(aJ (cq (aa l) (i.toNat*8+5))):Int) most else TD (↑(aJ (cq (aa l) (i.toNat*8+5))):Int) most)))))])))))])))),AV.p (PV.sc (vz tl (tl.wrap (i+1))))] ([]) 0 58)))))
          (.at (aj ae env 13 0 [AV.p (PV.ps l.length 8 (aa l)),AV.p (PV.sc (vz tl most)),AV.p (PV.sc (vz tl (tl.wrap (tl.wrap (tl.wrap (n+1)+bif true then TC (↑(aJ (cq (aa l) (i.toNat*8+5))):Int) most else TD (↑(aJ (cq (aa l) (i.toNat*8+5))):Int) most)+R [AV.p (PV.ps (aJ (cq (aa l) (i.toNat*8+6))) (cO (cq (aa l) (i.toNat*8+6))) (aI (cq (aa l) (i.toNat*8+6)))),AV.p (PV.sc (vz tl (tl.wrap (most-tl.wrap (tl.wrap (n+1)+bif true then TC (↑(aJ (cq (aa l) (i.toNat*8+5))):Int) most else TD (↑(aJ (cq (aa l) (i.toNat*8+5))):Int) most)))))])))),AV.p (PV.sc (vz tl (tl.wrap (i+1))))] ([]) 0 58))))))
      (.must (!(decide (tl.wrap (tl.wrap (n+1)+bif true then TC (↑(aJ (cq (aa l) (i.toNat*8+5))):Int) most else TD (↑(aJ (cq (aa l) (i.toNat*8+5))):Int) most)≤most)))
       (.at (aj ae env 13 0 [AV.p (PV.ps l.length 8 (aa l)),AV.p (PV.sc (vz tl most)),AV.p (PV.sc (vz tl (tl.wrap (tl.wrap (n+1)+bif true then TC (↑(aJ (cq (aa l) (i.toNat*8+5))):Int) most else TD (↑(aJ (cq (aa l) (i.toNat*8+5))):Int) most)))),AV.p (PV.sc (vz tl (tl.wrap (i+1))))] ([]) 0 58))))))
   (.out (Out.ret (AV.p (PV.sc (vz tl n))) [])))
  (.out (Out.ret (AV.p (PV.sc (vz tl n))) [])))
theorem yh (l:List Ins) (most:Int) (n:Int) (i:Int) (R:List AV→Int):grow ae env (I7 l most n i R) 1000000 true (aj ae env 13 0 ([aL l,sI tl most,sI tl n,sI tl i]) ([]) 0 58) Ls atEnd=vZ l most n i R:=by kernel_rfl
theorem Bv (R:List AV→Int) (hR : ∀l most,R [aL l,sI .i64 most]=fE l most 0) (l:List Ins) (most:Int) (h0:0≤most) (hm:most≤1000000000000) (hl:l.length≤maxLen)
  (IH : ∀x∈l,∀m':Int,0≤m'→m'≤most→aO ae env 13 [aL x.l,sI .i64 m'] [] (sI .i64 (fE x.l m' 0)) []∧aO ae env 13 [aL x.e,sI .i64 m'] [] (sI .i64 (fE x.e m' 0)) []) :
  ∀(r k:Nat) (n:Int),k+r=l.length→0≤n→n≤2*most+1→dN ae env (aj ae env 13 0 [aL l,sI .i64 most,sI .i64 n,sI .i64 k] [] 0 58) (.ret (sI .i64 (fE (l.drop k) most n)) []):=by
 intro r
 induction r with
 |zero=>
  intro k n hk hn0 hn
  refine aD dy (yh l most n k R) ?_
  have h1:l.drop k=[]:=List.drop_eq_nil_of_le (by omega)
  have h2 : ¬((k:Int)<l.length):=by omega
  simp[vZ,cJ,aP.ok,h1,h2,fE]
 |succ r ih=>
  intro k n hk hn0 hn
  refine aD dy (yh l most n k R) ?_
  have An:k<l.length:=by omega
  have MQ:l[k]? = some l[k]:=List.getElem?_eq_getElem An
  have hmem:l[k]∈l:=List.getElem_mem An
  have hd:l.drop k=l[k]::l.drop (k+1):=List.drop_eq_getElem_cons An
  rw[hd]
  generalize l[k]=x at *
  obtain⟨op,rs,a,b,nn,tags,ll,le⟩:=x
  have hc:=qW MQ
  have c5:(aa l).getD (k*8+5) .eR = .ps tags.length 1 (cD .u32 tags):=hc 5 (by omega)
  have c6:(aa l).getD (k*8+6) .eR = .ps ll.length 8 (aa ll):=hc 6 (by omega)
  have c7:(aa l).getD (k*8+7) .eR = .ps le.length 8 (aa le):=hc 7 (by omega)
  have Sy:maxLen=9223372036854775807:=rfl
  have hw:tl.wrap ((k:Int)+1)=((k+1:Nat):Int):=by rw[aY (by omega) (by omega)];rfl
  have hw1:tl.wrap (n+1)=n+1:=aY (by omega) (by omega)
  have N9:(k:Int)<(l.length:Int):=by omega
  simp only[vZ,cJ,aP.ok,c5,c6,c7,aJ,cO,aI,dA,TE,fG,cond_true,hw,hw1]
  refine⟨fun _=>⟨fun hnm=>⟨by simp[N9],rfl,?_⟩,fun hnm=> ?_⟩,fun h=>absurd N9 (by simpa using h)⟩
  · have hnm:n≤most:=by simpa using hnm
    have LK:=IH _ hmem
    simp only[fE,if_pos hnm,vA,Ins.l,Ins.e] at LK ⊢
    generalize hn1:n+1+min (tags.length:Int) most=n1
    have J3:0≤n1∧n1≤2*most+1:=by omega
    have Ew:tl.wrap n1=n1:=aY (by omega) (by omega)
    simp only[Ew]
    have R7:tl.wrap (most-n1)=most-n1:=aY (by omega) (by omega)
    simp only[R7,hR]
    refine⟨fun h1=> ?_,fun h1=> ?_⟩
    · have h1:n1≤most:=by simpa using h1
      rw[if_pos h1]
      have hb:=ff ll (most-n1) 0 (by omega) (by omega) (by omega)
      have R8:tl.wrap (n1+fE ll (most-n1) 0)=n1+fE ll (most-n1) 0:=aY (by omega) (by omega)
      refine⟨by simp[N9],rfl,(LK (most-n1) (by omega) (by omega)).1,?_⟩
      simp only[R8]
      generalize hn2:n1+fE ll (most-n1) 0=n2
      have LC:0≤n2∧n2≤2*most+1:=by omega
      have R9:tl.wrap (most-n2)=most-n2:=aY (by omega) (by omega)
      simp only[R9]
      refine⟨fun h2=> ?_,fun h2=> ?_⟩
      · have h2:n2≤most:=by simpa using h2
        rw[if_pos h2]
        have Qd:=ff le (most-n2) 0 (by omega) (by omega) (by omega)
        have Sa:tl.wrap (n2+fE le (most-n2) 0)=n2+fE le (most-n2) 0:=aY (by omega) (by omega)
        refine⟨by simp[N9],rfl,(LK (most-n2) (by omega) (by omega)).2,?_⟩
        simp only[Sa]
        exact ih (k+1) _ (by omega) (by omega) (by omega)
      · have h2 : ¬n2≤most:=by simpa using h2
        rw[if_neg h2]
        exact ih (k+1) n2 (by omega) (by omega) (by omega)
    · have h1 : ¬n1≤most:=by simpa using h1
      rw[if_neg h1,if_neg h1]
      refine⟨by simpa using h1,?_⟩
      exact ih (k+1) n1 (by omega) (by omega) (by omega)
  · have hnm : ¬n≤most:=by simpa using hnm
    simp only[fE,if_neg hnm]
theorem FY {l m:List Ins} (h:aL l=aL m):l=m:=by
 simp only[AV.p.injEq,PV.ps.injEq] at h
 exact kJ h.2.2
open Classical in
def Lt (args:List AV):Int:=if h : ∃l most,args=[aL l,sI .i64 most] then fE h.choose h.choose_spec.choose 0 else 0
theorem I8 (l:List Ins) (most:Int):Lt [aL l,sI .i64 most]=fE l most 0:=by
 have h : ∃l' most',[aL l,sI .i64 most]=[aL l',sI .i64 most']:=⟨l,most,rfl⟩
 have e:=h.choose_spec.choose_spec
 unfold Lt
 rw[dif_pos h]
 have e1:=FY (List.cons.inj e).1
 have e2:most=h.choose_spec.choose:=by
  have:=(List.cons.inj (List.cons.inj e).2).1
  simpa only[AV.p.injEq,PV.sc.injEq,Value.int.injEq,true_and] using this
 have e:(h.choose,h.choose_spec.choose)=(l,most):=by rw[Prod.mk.injEq];exact⟨e1.symm,e2.symm⟩
 exact congrArg (fun q:List Ins×Int=>fE q.1 q.2 0) e
theorem m7 : ∀(N:Nat) (l:List Ins) (most:Int),eT l≤N→l.length≤maxLen→zH l→0≤most→most≤1000000000000→aO ae env 13 [aL l,sI .i64 most] [] (sI .i64 (fE l most 0)) []
 |N,l,most,hN,hl,hw,h0,hm=>by
  have IH : ∀x∈l,∀m':Int,0≤m'→m'≤most→aO ae env 13 [aL x.l,sI .i64 m'] [] (sI .i64 (fE x.l m' 0)) []∧aO ae env 13 [aL x.e,sI .i64 m'] [] (sI .i64 (fE x.e m' 0)) []:=by
   intro x hx m' h0' hm'
   have hc:=qc hx
   have Lj:=Go.Am.nK hw hx
   obtain⟨op,rs,a,b,nn,tags,ll,le⟩:=x
   simp only[lD] at hc
   simp only[FP] at Lj
   match N,hN with
   |0,hN=>omega
   |N+1,hN=>exact⟨m7 N ll m' (by omega) Lj.2.2.2.2.2.2.1.1 Lj.2.2.2.2.2.2.1.2 h0' (by omega),m7 N le m' (by omega) Lj.2.2.2.2.2.2.2.1 Lj.2.2.2.2.2.2.2.2 h0' (by omega)⟩
  refine az dy (G7 l most) ?_
  have h:=Bv Lt I8 l most h0 hm hl IH l.length 0 0 (by omega) (by omega) (by omega)
  rw[List.drop_zero] at h
  exact h
def Sb (l:List Ins) (e:Int) (n:Nat) (X:List PV) (f:FuncId) (_:List AV) (m:Mem):Option (AV×Mem):=cond (a6 f 31||a6 f 33) (some (sI .i64 e,m)) (cond (a6 f 32) (some (.os (some 1) n 1 X,[.dead,.tok])) (cond (a6 f 34) (some (.os (some 0) n 1 X,[.tok])) none))
def NP (l:List Ins) (e:Int) (n:Nat) (X:List PV):hJ:=gk (Sb l e n X) cK [] [(14,0,0)] [(14,5,3)]
def PX:Sc:= .fin
def Cy (l:List Ins) (e:Int) (n:Nat) (X:List PV):aP:=
 (.call ⟨31,[.p (.ps l.length 8 (aa l))],[],sI .i64 e,[]⟩
 (.test (e != 0)
 (.out (.ret (.bn [ct,sI .i64 e]) []))
 (.call ⟨32,[ct,.p (.ps l.length 8 (aa l))],[],.os (some 1) n 1 X,[.dead,.tok]⟩
 (.must (((n+1)*1).ble cE&&(n+1).ble cE&&true)
 (.out (.ret (.bn [.os (some 0) (n+1) 1 (X++[.sc (.int .u8 11)]),sI .i64 0]) [.tok]))))))
theorem Dy (l:List Ins) (e:Int) (n:Nat) (X:List PV):dJ ae env (NP l e n X) 1000000 14 ([aL l]) ([]) PX=Cy l e n X:=by kernel_rfl
theorem aO.NQ {f:FuncId} {args:List AV} {tok:Option Nat} {n sz:Nat} {X:List PV} {u:PV} {m':Mem} (h:aO ae env f args [] (.bn [.os tok n sz X,.p u]) m'):aO ae env f args [] (.bn [.p (.ps n sz X),.p u]) []:=
 aO.weak h fun g w cv hv=>by
  have mono : ∀{v:PV} {c:Value},VP g w v c→VP {g with aN:=fun _=>none} w v c:=fun k=>VP.mono (g:=g) (g':={g with aN:=fun _=>none}) (w:=w) (w':=w) (fun _ _ q=>⟨q,rfl⟩) k
  cases hv with
  |bn _ cs hl hc=>
   obtain⟨cs⟩:=cs
   match cs,aV.cP hl hc with
   |[a,b],⟨h1,h2,_⟩=>
    refine VA.iR.2 ⟨?_,?_,trivial⟩
    · cases h1 with
      |os _ _ _ _ a cap h _=>exact .p _ _ (mono h)
    · cases h2 with
      |p _ _ h=>exact .p _ _ (mono h)
theorem aO.NR {f:FuncId} {args:List AV} {u:PV} {m':Mem} (h:aO ae env f args [] (.bn [.os none 0 0 [],.p u]) m'):aO ae env f args [] (.bn [.p (.ps 0 1 []),.p u]) []:=
 aO.weak h fun g w cv hv=>by
  have mono : ∀{v:PV} {c:Value},VP g w v c→VP {g with aN:=fun _=>none} w v c:=fun k=>VP.mono (g:=g) (g':={g with aN:=fun _=>none}) (w:=w) (w':=w) (fun _ _ q=>⟨q,rfl⟩) k
  cases hv with
  |bn _ cs hl hc=>
   obtain⟨cs⟩:=cs
   match cs,aV.cP hl hc with
   |[a,b],⟨h1,h2,_⟩=>
    refine VA.iR.2 ⟨?_,?_,trivial⟩
    · cases h1 with
      |os _ _ _ _ a cap h _=>
       cases h with
       |lU _ _ _ hz=>exact .p _ _ (.lU _ _ _ (.inl (ch 1)))
       |ps _ _ _ b o cap f hl hc hz hp hv=>exact .p _ _ (.ps _ _ _ b o cap f (by simp) (S3 _) (ch 1) (fun k hk=>absurd hk (by simp)) (fun k hk=>absurd hk (by simp)))
    · cases h2 with
      |p _ _ h=>exact .p _ _ (mono h)
def tS (l:List Ins):List Nat:=if gF nN l=0 then gw l++[11] else[]
theorem PY {t:Option Nat} {n m:Nat} {X Y:List PV} {u:AV} {mm:Mem} (h:X=Y) (h':n=Y.length) (e:m=Y.length):Out.ret (.bn [.os t n 1 X,u]) mm = .ret (.bn [.os t m 1 Y,u]) mm:=by subst h;rw[h',e]
theorem Lu {l:List Ins} (hc:eT l≤1000000):(tS l).length≤20000001:=by
 have:=lF l
 unfold tS
 split
 · simp;omega
 · simp
theorem I9 {l:List Ins} (hw:zH l) (hc:eT l≤1000000):aO ae env 14 [aL l] [] (.bn [.p (.ps (tS l).length 1 (bt (tS l))),sI .i64 (gF nN l)]) []:=by
 have dK:cE=70368744177664:=rfl
 have Sz:=lF l
 have hn:=qe l
 have h1:=Cl Ea l (by omega)
 by_cases he:gF nN l=0
 · have e1:tS l=gw l++[11]:=if_pos he
   rw[e1,he]
   rw[he] at h1
   refine aO.NQ (tok:=some 0) (m':=[.tok]) (az dy (Dy l 0 (gw l).length (bt (gw l))) ?_)
   simp only[Cy,cJ,aP.ok,dK,TF,Bool.and_eq_true,and_true,show((0:Int) != 0)=false from rfl,pC,false_implies,true_implies,true_and]
   exact⟨h1,I4 hw hc,⟨by omega,by omega⟩,PY (by simp[bt]) (by simp[bt]) (by simp[bt])⟩
 · have e1:tS l=[]:=if_neg he
   rw[e1]
   have hne:(gF nN l != 0)=true:=by simpa using he
   refine aO.NR (m':=[]) (az dy (Dy l (gF nN l) (gw l).length (bt (gw l))) ?_)
   simp only[Cy,cJ,aP.ok,hne,TJ,false_implies,true_implies,and_true]
   exact h1
def Sd (l:List Ins) (left c e:Int) (n k:Nat) (X:List PV) (f:FuncId) (_:List AV) (m:Mem):Option (AV×Mem):=cond (a6 f 13) (some (sI .i64 c,m)) (cond (a6 f 14) (some (.bn [.p (.ps k 1 X),sI .i64 e],m)) (cond (a6 f 8) (some (sI .i64 n,m)) (cond (a6 f 9) (some (.bn [.os none 0 0 [],sI .i64 0,.agg [sI .i64 4,sI .i64 n]],m)) (cond (a6 f 12) (some (sB true,m)) none))))
def NS:hJ:=gk eK cK [] [(8,0,0),(8,0,1)] [(8,4,2)]
def PZ:Sc:= .fin
def Cz (a n:Int):aP:=
 (.test (decide (n<1))
 (.out (.ret (sI .i64 0) []))
 (.must (!n==0&&true)
 (.test (decide (a.tmod n<0))
 (.out (.ret (sI .i64 (tl.wrap (a.tmod n+n))) []))
 (.out (.ret (sI .i64 (a.tmod n)) [])))))
theorem Dz (a n:Int):dJ ae env NS 1000000 8 ([sI tl a,sI tl n]) ([]) PZ=Cz a n:=by kernel_rfl
def NT (l:List Ins) (left c e:Int) (n:Nat) (k:Nat) (X:List PV):hJ:=gk (Sd l left c e n k X) cK [] [(4,0,0),(4,6,3),(4,0,1)] [(4,9,2)]
def P0:Sc:=(.fork .fin (.fork (.lit .fin) .fin))
def G8 (l:List Ins) (left c e:Int) (n:Nat) (k:Nat) (X:List PV):aP:=
 (.call ⟨12,[],[],sB true,[]⟩
 (.call ⟨13,[.p (.ps l.length 8 (aa l)),sI .i64 2000],[],sI .i64 c,[]⟩
 (.test (decide (c>2000))
 Jx
 (.call ⟨14,[.p (.ps l.length 8 (aa l))],[],.bn [.p (.ps k 1 X),sI .i64 e],[]⟩
 (.test (e != 0)
 Jx
 (.test ((↑k:Int)==0)
 Jx
 (.call ⟨8,[sI .i64 left,sI .i64 (↑k:Int)],[],sI .i64 (↑n:Int),[]⟩
 (.must ((eu n).ble k&&true&&true)
 (.call ⟨9,[.p (.ps (eu n-0) 1 (cut X (times none 0 1) (times (some (Operand.tmp 36)) (eu n) 1))),sI .i64 0],[],.bn [ct,sI .i64 0,.agg [sI .i64 4,sI .i64 (↑n:Int)]],[]⟩
 (.out (.ret (.p (.sc (.bool ((fun r=>4==4&&r) ((fun r=>(↑n:Int)==(↑n:Int)&&r) true))))) [])))))))))))
theorem Ja (l:List Ins) (left c e:Int) (n:Nat) (k:Nat) (X:List PV):dJ ae env (NT l left c e n k X) 1000000 4 ([aL l,sI tl left]) ([]) P0=G8 l left c e n k X:=by kernel_rfl
theorem m8 : ∀(f n:Nat),∀x∈pU f n,x<256
 |0,n,x,h=>by
  simp only[pU,Ts] at h
  omega
 |f+1,n,x,h=>by
  unfold pU at h
  split at h
  · simp only[Ts] at h;omega
  · rcases oT.1 h with h | h
    · omega
    · exact m8 f _ x h
theorem G9 : ∀(f:Nat) (n:Int),∀x∈pS f n,x<256
 |0,n,x,h=>by
  simp only[pS,Ts] at h
  omega
 |f+1,n,x,h=>by
  unfold pS at h
  split at h
  · simp only[Ts] at h;omega
  · rcases oT.1 h with h | h
    · omega
    · exact G9 f _ x h
theorem jY {u v:List Nat} (h1 : ∀x∈u,x<256) (h2 : ∀x∈v,x<256) : ∀x∈u++v,x<256:=fun x h=>(List.mem_append.1 h).elim (h1 x) (h2 x)
theorem iG {c:Nat} {v:List Nat} (h1:c<256) (h2 : ∀x∈v,x<256) : ∀x∈c::v,x<256:=fun x h=>(oT.1 h).elim (fun e=>by rw[e];exact h1) (h2 x)
theorem jZ : ∀x∈([]:List Nat),x<256:=fun x h=>by cases h
theorem Jb (op a b nn:Int) (tg:List Int) : ∀x∈IX op a b nn tg,x<256:=by
 have ht : ∀x∈tg.flatMap (fun t=>pU 4 t.toNat),x<256:=fun x h=>by
  obtain⟨t,_,h⟩:=List.mem_flatMap.1 h
  exact m8 _ _ x h
 unfold IX
 repeat' split
 · exact jY (m8 _ _) (iG (by decide) jZ)
 · exact m8 _ _
 · exact jY (m8 _ _) (jY ht (m8 _ _))
 · exact iG (by decide) jZ
 · exact G9 _ _
 · exact jY (m8 _ _) (m8 _ _)
 · exact jZ
mutual
theorem Jc : ∀x:Ins,∀c∈iE x,c<256
 |.mk op r a b nn tg ll le=>by
  by_cases dj:dW op=true
  · rw[iE,if_pos dj]
    refine iG (by omega) (iG (by split<;>decide) (jY (tT ll) (jY ?_ (iG (by decide) jZ))))
    split
    · exact jZ
    · exact iG (by decide) (tT le)
  · rw[Dt (by simpa using dj)]
    exact iG (by omega) (Jb op a b nn tg)
theorem tT : ∀l:List Ins,∀c∈gw l,c<256
 |[]=>jZ
 |x::r=>by
  rw[gw]
  exact jY (Jc x) (tT r)
end
theorem Jd (l:List Ins) : ∀c∈tS l,c<256:=by
 unfold tS
 split
 · exact jY (tT l) (iG (by decide) jZ)
 · exact jZ
theorem Et (a:Int) {n:Nat} (hn:0<n) (hm:n≤1000000000) : ∃k:Nat,k<n∧aO ae env 8 [sI .i64 a,sI .i64 n] [] (sI .i64 k) []:=by
 have hr : -(n:Int)<a.tmod n∧a.tmod n<n:=⟨by have:=Int.lt_tmod_of_pos a (b:=(n:Int)) (by omega);omega,Int.tmod_lt_of_pos a (by omega)⟩
 have d1:decide ((n:Int)<1)=false:=decide_eq_false (by omega)
 have d2:((n:Int)==0)=false:=by simp;omega
 by_cases h:a.tmod n<0
 · refine⟨(a.tmod n+n).toNat,by omega,az dy (Dz a n) ?_⟩
   have e:tl.wrap (a.tmod n+n)=(((a.tmod n+n).toNat:Nat):Int):=by rw[aY (by omega) (by omega)];omega
   simp only[Cz,aP.ok,d1,d2,h,decide_true,pC,TJ,false_implies,true_implies,true_and,and_true,qf,TR,e]
 · refine⟨(a.tmod n).toNat,by omega,az dy (Dz a n) ?_⟩
   have e:(((a.tmod n).toNat:Nat):Int)=a.tmod n:=by omega
   simp only[Cz,aP.ok,d1,d2,h,decide_false,pC,TJ,false_implies,true_implies,true_and,and_true,qf,TR,e]
theorem Je (l:List Nat) (n:Nat):(bt l).take n=bt (l.take n):=by simp[bt,List.map_take]
theorem Hs (l:List Ins) (hl:l.length≤maxLen) (hw:zH l) (left:Int):aO ae env 4 [aL l,sI .i64 left] [] (sB true) []:=by
 have Bw:=m7 (eT l) l 2000 (ch _) hl hw (by decide) (by decide)
 have ex : ∃n:Nat,(0<(tS l).length→(tS l).length≤1000000000→n<(tS l).length∧aO ae env 8 [sI .i64 left,sI .i64 (tS l).length] [] (sI .i64 n) []):=by
  by_cases h:0<(tS l).length∧(tS l).length≤1000000000
  · obtain⟨k,k1,k2⟩:=Et left h.1 h.2
    exact⟨k,fun _ _=>⟨k1,k2⟩⟩
  · exact⟨0,fun a b=>absurd ⟨a,b⟩ h⟩
 obtain⟨n,hn⟩:=ex
 refine az dy (Ja l left (fE l 2000 0) (gF nN l) n (tS l).length (bt (tS l))) ?_
 simp only[G8,cJ,aP.ok]
 refine⟨Cx,Bw,fun _=>True.intro,fun h1=> ?_⟩
 have h1:fE l 2000 0≤2000:=by simp only[decide_eq_false_iff_not] at h1;omega
 have c1:=qd l 2000 0 (by decide) (by decide) h1
 have hc:eT l≤1000000:=by omega
 have hlen:=Lu (l:=l) hc
 refine⟨I9 hw hc,fun _=>True.intro,fun h2=>⟨fun _=>True.intro,fun h3=> ?_⟩⟩
 have he:gF nN l=0:=by simpa using h2
 have hk:0<(tS l).length:=by
  apply Nat.pos_of_ne_zero
  intro q
  rw[q] at h3
  cases h3
 obtain⟨n1,n2⟩:=hn hk (by omega)
 have eb:tS l=gw l++[11]:=if_pos he
 obtain⟨q,hq⟩:=Lg (l:=l) (n:=n) he hw (by rw[←eb];exact n1)
 have Fc:((tS l).take n).length=n:=by rw[List.length_take];omega
 have hfit:dX ((tS l).take n) ⟨0,0,0⟩:=⟨fun x hx=>Jd l x (List.mem_of_mem_take hx),by omega,S3 _⟩
 have hs:Cv ((tS l).take n) 0=⟨q,4,n⟩:=by unfold Cv;rw[eb,hq]
 have hg:=Ek (p:=0) hfit (by rw[hs];exact(by decide:(4:Nat)≠0))
 rw[hs,Fc] at hg
 have ec:cut (bt (tS l)) (times none 0 1) (times (some (Operand.tmp 36)) ((n:Int)).toNat 1)=bt ((tS l).take n):=by
  show(bt (tS l)).take (((n:Int)).toNat*1)=_
  rw[TE,Nat.mul_one,Je]
 refine⟨n2,?_,?_,?_⟩
 · simp only[TE,TR,TF];omega
 · rw[ec,TE]
   exact hg
 · simp
def ng:List (String×DataW Unit):=Rows.bodyCutRow.laid
theorem wY {W:World} (h:laidMetH ae ng W):jz tabs W:=by
 rw[MakeChecks.laidMetH_plain _ _ _ (by kernel_rfl)] at h
 exact wQ (A0 (n:=256) (t:=125) (e:=5) (k:= .u8) (zs:=FT) (Lib.laidMet.reads h (n:= "strings.asciiSpace") (d:=Rows.laid_strings_asciiSpace) (.tail _ (.head _))) (by kernel_rfl) (by kernel_rfl) (by kernel_rfl) (by kernel_rfl) (by kernel_rfl) (by kernel_rfl) (Nat.le_of_ble_eq_true (by kernel_rfl)))
  (zm)
end Go.Proofs.YtddfgnmjecogdaaDoor.N
end
section
namespace Go.Am
open Go.RowKit
section
variable {H:Type} {enc:TypeId×Value→H} {P:Program} {w:World} {base:Nat} {spare:Nat→Bool} {held:Bool} {tL tI ti tu tn tt:TypeId} {fs:Array Field}
end
section
variable {H:Type} {enc:TypeId×Value→H} {P:Program} {w:World} {base:Nat} {spare:Nat→Bool} {held:Bool}
end
end Go.Am
end
