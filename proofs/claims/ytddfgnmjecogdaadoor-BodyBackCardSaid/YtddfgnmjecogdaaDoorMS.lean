import Derived.Test.YtddfgnmjecogdaaDoorMR
import Derived.Test.YtddfgnmjecogdaaDoorMH
import Derived.Test.YtddfgnmjecogdaaDoorMP
import Derived.Test.YtddfgnmjecogdaaDoorMQ
import Derived.Test.YtddfgnmjecogdaaDoorRows
import Derived.MakeChecks
open Go.Proofs.Tryd renaming prog→ae
open Go.IntKind renaming i64→vj,u32→VO,i32→V9
open List renaming length_append→ei,length_cons→pa,length_nil→VS,length_singleton→WM,mem_singleton→VT,getElem?_eq_some_iff→fb,getElem?_eq_getElem→dp,mem_cons→pk,map→VU
open Bool renaming and_eq_true→dv,true_eq_false→Wa,false_eq_true→rh,and_true→Wi
open Int renaming toNat_natCast→V5
open Nat renaming le_refl→df,beq→be,zero_le→Vr,ble_eq→V6,zero_add→sa
open Go.Value renaming int→yb
open Min renaming min→V3
open Max renaming max→V4
noncomputable section
section
set_option linter.unusedSimpArgs false
set_option linter.unusedVariables false
namespace Go.Proofs.YtddfgnmjecogdaaDoor.N
open Go Go.Am
def Ny:gQ:=fy dY cC [(30,1)] [(30,0,0)] []
def P4:Sc:= .fin
def EV (k:Nat) (cs:List PV):aN:=
 (.test ((↑k:Int) != (↑k:Int))
 (.out (.ret (sB false) []))
 (.at (aj ae env 30 1 [.p (.ps k 1 cs),.p (.ps k 1 cs),sI .i64 0] ([]) 0 26)))
theorem I4 (k:Nat) (cs:List PV):dF ae env Ny 1000000 30 ([AV.p (PV.ps k 1 cs),AV.p (PV.ps k 1 cs)]) ([]) P4=EV k cs:=by kernel_rfl
def Nz:gQ:=fy dY cC [(11,1)] [(11,0,0)] []
def P5:Sc:= .fin
def EW (l:List Ins):aN:=
 (.test ((↑l.length:Int) != (↑l.length:Int))
 (.out (.ret (sB false) []))
 (.at (aj ae env 11 1 [.p (.ps l.length 8 (aa l)),.p (.ps l.length 8 (aa l)),sI .i64 0] ([]) 0 84)))
theorem I5 (l:List Ins):dF ae env Nz 1000000 11 ([aL l,aL l]) ([]) P5=EW l:=by kernel_rfl
def KR:gQ:=fy dY cC [(30,1)] [(30,0,2),(30,0,3)] [(30,0,3)]
def NA:Sc:= .fin
def xD (k:Nat) (i:Nat) (cs:List PV):aN:=
 (.test (decide ((↑i:Int)<(↑k:Int)))
 (.must (eW (↑i:Int) k&&true&&(isInt VO (bA cs (cE i*1))&&(eW (↑i:Int) k&&true&&(isInt VO (bA cs (cE i*1))&&true)))&&true)
 (.test (aS (bA cs (cE i*1)) != aS (bA cs (cE i*1)))
 (.out (.ret (sB false) []))
 (.at (aj ae env 30 1 [.p (.ps k 1 cs),.p (.ps k 1 cs),sI .i64 (vj.wrap ((↑i:Int)+1))] ([]) 0 26))))
 Hy)
theorem zJ (k:Nat) (i:Nat) (cs:List PV):grow ae env KR 1000000 true (aj ae env 30 1 ([AV.p (PV.ps k 1 cs),AV.p (PV.ps k 1 cs),sI vj (↑i:Int)]) ([]) 0 26) NA atEnd=xD k i cs:=by kernel_rfl
def KS:gQ:=fy dY cC [(11,1)] [(11,0,2),(11,8,6),(11,8,13),(11,8,20),(11,8,27),(11,8,34)] [(11,0,3)]
def NB (l:List Ins) (i:Nat):Sc:=(.fork (.fork (.lit (.lit (.lit (.lit .fin)))) (.fork (.lit (.lit (.lit .fin))) (.fork (.lit (.lit .fin)) (.fork (.lit .fin) (.fork .fin (.ans 30 (sB true) ([]) (.ans 11 (sB true) ([]) (.ans 11 (sB true) ([]) .fin)))))))) .fin)
def xE (l:List Ins) (i:Nat):aN:=
 (.test (decide ((↑i:Int)<(↑l.length:Int)))
 (.must (eW (↑i:Int) l.length&&true&&true&&(isInt vj (bA (aa l) (cE i*8))&&(isInt vj (bA (aa l) (cE i*8+1))&&(isInt VO (bA (aa l) (cE i*8+1+1))&&(isInt VO (bA (aa l) (cE i*8+1+1+1))&&(isInt V9 (bA (aa l) (cE i*8+1+1+1+1))&&(cW (bA (aa l) (cE i*8+1+1+1+1+1))&&(cW (bA (aa l) (cE i*8+1+1+1+1+1+1))&&(cW (bA (aa l) (cE i*8+1+1+1+1+1+1+1))&&true)))))))&&true&&(eW (↑i:Int) l.length&&true&&true&&(isInt vj (bA (aa l) (cE i*8))&&(isInt vj (bA (aa l) (cE i*8+1))&&(isInt VO (bA (aa l) (cE i*8+1+1))&&(isInt VO (bA (aa l) (cE i*8+1+1+1))&&(isInt V9 (bA (aa l) (cE i*8+1+1+1+1))&&(cW (bA (aa l) (cE i*8+1+1+1+1+1))&&(cW (bA (aa l) (cE i*8+1+1+1+1+1+1))&&(cW (bA (aa l) (cE i*8+1+1+1+1+1+1+1))&&true)))))))&&true&&true)))&&true)
 (.test (aS (bA (aa l) (cE i*8)) != aS (bA (aa l) (cE i*8)))
 (.out (.ret (sB false) []))
 (.test (aS (bA (aa l) (cE i*8+1)) != aS (bA (aa l) (cE i*8+1)))
 (.out (.ret (sB false) []))
 (.test (aS (bA (aa l) (cE i*8+1+1)) != aS (bA (aa l) (cE i*8+1+1)))
 (.out (.ret (sB false) []))
 (.test (aS (bA (aa l) (cE i*8+1+1+1)) != aS (bA (aa l) (cE i*8+1+1+1)))
 (.out (.ret (sB false) []))
 (.test (aS (bA (aa l) (cE i*8+1+1+1+1)) != aS (bA (aa l) (cE i*8+1+1+1+1)))
 (.out (.ret (sB false) []))
 (.call ⟨30,[.p (.ps (aJ (bA (aa l) (cE i*8+1+1+1+1+1))) (cH (bA (aa l) (cE i*8+1+1+1+1+1))) (aF (bA (aa l) (cE i*8+1+1+1+1+1)))),.p (.ps (aJ (bA (aa l) (cE i*8+1+1+1+1+1))) (cH (bA (aa l) (cE i*8+1+1+1+1+1))) (aF (bA (aa l) (cE i*8+1+1+1+1+1))))],[],sB true,[]⟩
 (.call ⟨11,[.p (.ps (aJ (bA (aa l) (cE i*8+1+1+1+1+1+1))) (cH (bA (aa l) (cE i*8+1+1+1+1+1+1))) (aF (bA (aa l) (cE i*8+1+1+1+1+1+1)))),.p (.ps (aJ (bA (aa l) (cE i*8+1+1+1+1+1+1))) (cH (bA (aa l) (cE i*8+1+1+1+1+1+1))) (aF (bA (aa l) (cE i*8+1+1+1+1+1+1))))],[],sB true,[]⟩
 (.call ⟨11,[.p (.ps (aJ (bA (aa l) (cE i*8+1+1+1+1+1+1+1))) (cH (bA (aa l) (cE i*8+1+1+1+1+1+1+1))) (aF (bA (aa l) (cE i*8+1+1+1+1+1+1+1)))),.p (.ps (aJ (bA (aa l) (cE i*8+1+1+1+1+1+1+1))) (cH (bA (aa l) (cE i*8+1+1+1+1+1+1+1))) (aF (bA (aa l) (cE i*8+1+1+1+1+1+1+1))))],[],sB true,[]⟩
 (.at (aj ae env 11 1 [.p (.ps l.length 8 (aa l)),.p (.ps l.length 8 (aa l)),sI .i64 (vj.wrap ((↑i:Int)+1))] ([]) 0 84)))))))))))
 Hy)
theorem zK (l:List Ins) (i:Nat):grow ae env KS 1000000 true (aj ae env 11 1 ([aL l,aL l,sI vj (↑i:Int)]) ([]) 0 84) (NB l i) atEnd=xE l i:=by kernel_rfl
theorem I6 {α:Type} {l:List α} {D:Nat→bB} {o:Out} (step : ∀(i:Nat) (x:α),l[i]? = some x→dK ae env (D (i+1)) o→dK ae env (D i) o)
  (fin:dK ae env (D l.length) o):dK ae env (D 0) o:=by
 have h : ∀r i:Nat,i+r=l.length→dK ae env (D i) o:=by
  intro r
  induction r with
  |zero=>
   intro i hi
   obtain rfl:i=l.length:=by omega
   exact fin
  |succ r ih=>
   intro i hi
   have hl:i<l.length:=by omega
   exact step i l[i] (dp hl) (ih (i+1) (by omega))
 exact h l.length 0 (by omega)
theorem _root_.Go.Am.cm.env {P:Program} {E E':Env} (he:E.cL=E'.cL) {g:Gh} {c:bB} {fr:Frame} {w:World}:cm P E g c fr w→cm P E' g c fr w:=by
 have key : ∀{st:St} {a:Act},bS E g st a w→bS E' g st a w:=fun h=>⟨h.tm,h.nt,h.rel,h.fix,fun i cs hi=>h.cL i cs (by rw[he];exact hi)⟩
 unfold cm
 split
 · exact id
 · exact id
 · rintro ⟨b,a,t,cv,h1,h2,h3,h4,h5,h6⟩
   exact⟨b,a,t,cv,h1,h2,h3,h4,key h5,h6⟩
 · rintro ⟨b,a,t,h1,h2,h3,h4,h5,h6,h7⟩
   exact⟨b,a,t,h1,h2,h3,h4,h5,h6,key h7⟩
 · rintro ⟨b,a,h1,h2,h3,h4,h5,h6⟩
   exact⟨b,a,h1,h2,h3,h4,key h5,h6⟩
theorem _root_.Go.Am.dK.env {P:Program} {E E':Env} (he:E.cL=E'.cL) {c:bB} {o:Out} (h:dK P E c o):dK P E' c o:=
 fun g fr w cs hr=>h g fr w cs (cm.env he.symm hr)
theorem DQ (l:List Int) (hl:l.length≤1000000):aG ae env 30 [.p (.ps l.length 1 (bW .u32 l)),.p (.ps l.length 1 (bW .u32 l))] [] (sB true) []:=by
 refine ak cV (I4 l.length (bW .u32 l)) ?_
 simp only[EV,aN.ok,bne_self_eq_false]
 refine⟨fun q=>(by cases q),fun _=> ?_⟩
 refine I6 (l:=l) (D:=fun i=>aj ae env 30 1 [.p (.ps l.length 1 (bW .u32 l)),.p (.ps l.length 1 (bW .u32 l)),sI .i64 i] [] 0 26) (fun i x hx h=> ?_) ?_
 · have hi:i<l.length:=(fb.1 hx).1
   have c0:(bW .u32 l).getD (i*1) .eJ = .sc (.int .u32 (l.getD i 0)):=by rw[Nat.mul_one];exact sL .u32 l i hi
   have w:vj.wrap ((i:Int)+1)=((i+1:Nat):Int):=by rw[aX (by omega) (by omega)];rfl
   have hd:decide ((i:Int)<(l.length:Int))=true:=decide_eq_true (by omega)
   have hin:eW (i:Int) l.length=true:=by simp only[eW,dv,decide_eq_true_eq];omega
   refine aC cV (zJ l.length i (bW .u32 l)) ?_
   simp only[xD,ct,aN.ok,isInt,aS,V5,c0,hd,hin,w,bne_self_eq_false,Wi]
   exact⟨fun _=>⟨(by first | rfl | trivial),(fun q=>(by cases q)),fun _=>h⟩,fun q=>(by cases q)⟩
 · have hd:decide ((l.length:Int)<(l.length:Int))=false:=decide_eq_false (by omega)
   refine aC cV (zJ l.length l.length (bW .u32 l)) ?_
   simp only[xD,ct,aN.ok,hd]
   exact⟨fun q=>(by cases q),fun _=>trivial⟩
theorem kf : ∀(N:Nat) (l:List Ins),dL l≤N→dL l≤1000000→aG ae env 11 [aL l,aL l] [] (sB true) []
 |N,l,hN,hc=>by
  have IH : ∀y∈l,aG ae env 11 [aL y.l,aL y.l] [] (sB true) []∧aG ae env 11 [aL y.e,aL y.e] [] (sB true) []:=by
   intro y hy
   have Ur:=lK hy
   obtain⟨op,rs,a,b,nn,tags,ll,le⟩:=y
   simp only[jh] at Ur
   match N,hN with
   |0,hN=>omega
   |N+1,hN=>exact⟨kf N ll (by omega) (by omega),kf N le (by omega) (by omega)⟩
  have LK:=nT l
  refine ak cV (I5 l) ?_
  simp only[EW,aN.ok,bne_self_eq_false]
  refine⟨fun q=>(by cases q),fun _=> ?_⟩
  refine I6 (l:=l) (D:=fun i=>aj ae env 11 1 [aL l,aL l,sI .i64 i] [] 0 84) (fun i x hx h=> ?_) ?_
  · have hi:i<l.length:=(fb.1 hx).1
    have hmem:=List.mem_of_getElem? hx
    have KP:=IH x hmem
    have hcx:=lK hmem
    obtain⟨op,rs,a,b,nn,tags,ll,le⟩:=x
    obtain⟨c0,c1,c2,c3,c4,c5,c6,c7⟩:=wX hx
    simp only[jh] at hcx
    have w:vj.wrap ((i:Int)+1)=((i+1:Nat):Int):=by rw[aX (by omega) (by omega)];rfl
    have hd:decide ((i:Int)<(l.length:Int))=true:=decide_eq_true (by omega)
    have hin:eW (i:Int) l.length=true:=by simp only[eW,dv,decide_eq_true_eq];omega
    refine aC cV (zK l i) ?_
    simp only[xE,ct,aN.ok,Nat.add_assoc,Nat.reduceAdd,c0,c1,c2,c3,c4,c5,c6,c7,isInt,cW,aS,aJ,cH,aF,V5,hd,hin,w,bne_self_eq_false,Wi,Bool.true_and]
    exact⟨fun _=>⟨(by first | rfl | trivial),(fun q=>(by cases q)),fun _=>⟨(fun q=>(by cases q)),fun _=>⟨(fun q=>(by cases q)),fun _=>⟨(fun q=>(by cases q)),fun _=>⟨(fun q=>(by cases q)),fun _=>⟨DQ tags (by omega),KP.1,KP.2,h⟩⟩⟩⟩⟩⟩,fun q=>(by cases q)⟩
  · have hd:decide ((l.length:Int)<(l.length:Int))=false:=decide_eq_false (by omega)
    refine aC cV (zK l l.length) ?_
    simp only[xE,ct,aN.ok,hd]
    exact⟨fun q=>(by cases q),fun _=>trivial⟩
def KT (_:List Ins) (_ _ _:Int) (R:List AV→Int) (f:FuncId) (args:List AV) (m:Mem):Option (AV×Mem):=cond (be f 13) (some (sI .i64 (R args),m)) none
def NC:gQ:=fy dY cC [(13,0)] [] []
def P6:Sc:= .fin
def KU (l:List Ins) (most:Int):aN:=
 (.at (aj ae env 13 0 [AV.p (PV.ps l.length 8 (aa l)),AV.p (PV.sc (yb vj most)),AV.p (PV.sc (yb vj 0)),AV.p (PV.sc (yb vj 0))] ([]) 0 58))
theorem I7 (l:List Ins) (most:Int):dF ae env NC 1000000 13 ([aL l,sI vj most]) ([]) P6=KU l most:=by kernel_rfl
def KV (l:List Ins) (most:Int) (n:Int) (i:Int) (R:List AV→Int):gQ:=fy (KT l most n i R) cC [(13,0)] [(13,4,5),(13,0,1),(13,0,2),(13,0,3)] [(13,6,4),(13,6,6),(13,8,3),(13,8,5),(13,10,3),(13,10,5)]
def ND:Sc:=(.fork (.fork (.fork .fin (.no .fin)) .fin) (.lit .fin))
def xF (l:List Ins) (most:Int) (n:Int) (i:Int) (R:List AV→Int):aN:=
 (.test (decide (i<(↑l.length:Int)))
  (.test (decide (n≤most))
   (.must (eW i l.length&&true&&true)
    (.must (cW (bA (aa l) (i.toNat*8+5))&&true)
     (.test (decide (vj.wrap (vj.wrap (n+1)+bif true then V3 (↑(aJ (bA (aa l) (i.toNat*8+5))):Int) most else V4 (↑(aJ (bA (aa l) (i.toNat*8+5))):Int) most)≤most))
      (.must (eW i l.length&&true&&true)
       (.must (cW (bA (aa l) (i.toNat*8+6))&&true)
        (.call ⟨13,[AV.p (PV.ps (aJ (bA (aa l) (i.toNat*8+6))) (cH (bA (aa l) (i.toNat*8+6))) (aF (bA (aa l) (i.toNat*8+6)))),AV.p (PV.sc (yb vj (vj.wrap (most-vj.wrap (vj.wrap (n+1)+bif true then V3 (↑(aJ (bA (aa l) (i.toNat*8+5))):Int) most else V4 (↑(aJ (bA (aa l) (i.toNat*8+5))):Int) most)))))],[],AV.p (PV.sc (yb vj (R [AV.p (PV.ps (aJ (bA (aa l) (i.toNat*8+6))) (cH (bA (aa l) (i.toNat*8+6))) (aF (bA (aa l) (i.toNat*8+6)))),AV.p (PV.sc (yb vj (vj.wrap (most-vj.wrap (vj.wrap (n+1)+bif true then V3 (↑(aJ (bA (aa l) (i.toNat*8+5))):Int) most else V4 (↑(aJ (bA (aa l) (i.toNat*8+5))):Int) most)))))]))),[]⟩
         (.test (decide (vj.wrap (vj.wrap (vj.wrap (n+1)+bif true then V3 (↑(aJ (bA (aa l) (i.toNat*8+5))):Int) most else V4 (↑(aJ (bA (aa l) (i.toNat*8+5))):Int) most)+R [AV.p (PV.ps (aJ (bA (aa l) (i.toNat*8+6))) (cH (bA (aa l) (i.toNat*8+6))) (aF (bA (aa l) (i.toNat*8+6)))),AV.p (PV.sc (yb vj (vj.wrap (most-vj.wrap (vj.wrap (n+1)+bif true then V3 (↑(aJ (bA (aa l) (i.toNat*8+5))):Int) most else V4 (↑(aJ (bA (aa l) (i.toNat*8+5))):Int) most)))))])≤most))
          (.must (eW i l.length&&true&&true)
           (.must (cW (bA (aa l) (i.toNat*8+7))&&true)
            (.call ⟨13,[AV.p (PV.ps (aJ (bA (aa l) (i.toNat*8+7))) (cH (bA (aa l) (i.toNat*8+7))) (aF (bA (aa l) (i.toNat*8+7)))),AV.p (PV.sc (yb vj (vj.wrap (most-vj.wrap (vj.wrap (vj.wrap (n+1)+bif true then V3 (↑(aJ (bA (aa l) (i.toNat*8+5))):Int) most else V4 (↑(aJ (bA (aa l) (i.toNat*8+5))):Int) most)+R [AV.p (PV.ps (aJ (bA (aa l) (i.toNat*8+6))) (cH (bA (aa l) (i.toNat*8+6))) (aF (bA (aa l) (i.toNat*8+6)))),AV.p (PV.sc (yb vj (vj.wrap (most-vj.wrap (vj.wrap (n+1)+bif true then V3 (↑(aJ (bA (aa l) (i.toNat*8+5))):Int) most else V4 (↑(aJ (bA (aa l) (i.toNat*8+5))):Int) most)))))])))))],[],AV.p (PV.sc (yb vj (R [AV.p (PV.ps (aJ (bA (aa l) (i.toNat*8+7))) (cH (bA (aa l) (i.toNat*8+7))) (aF (bA (aa l) (i.toNat*8+7)))),AV.p (PV.sc (yb vj (vj.wrap (most-vj.wrap (vj.wrap (vj.wrap (n+1)+bif true then V3 (↑(aJ (bA (aa l) (i.toNat*8+5))):Int) most else V4 (↑(aJ (bA (aa l) (i.toNat*8+5))):Int) most)+R [AV.p (PV.ps (aJ (bA (aa l) (i.toNat*8+6))) (cH (bA (aa l) (i.toNat*8+6))) (aF (bA (aa l) (i.toNat*8+6)))),AV.p (PV.sc (yb vj (vj.wrap (most-vj.wrap (vj.wrap (n+1)+bif true then V3 (↑(aJ (bA (aa l) (i.toNat*8+5))):Int) most else V4 (↑(aJ (bA (aa l) (i.toNat*8+5))):Int) most)))))])))))]))),[]⟩
             (.at (aj ae env 13 0 [AV.p (PV.ps l.length 8 (aa l)),AV.p (PV.sc (yb vj most)),AV.p (PV.sc (yb vj (vj.wrap (vj.wrap (vj.wrap (vj.wrap (n+1)+bif true then V3 (↑(aJ (bA (aa l) (i.toNat*8+5))):Int) most else V4 (↑(aJ (bA (aa l) (i.toNat*8+5))):Int) most)+R [AV.p (PV.ps (aJ (bA (aa l) (i.toNat*8+6))) (cH (bA (aa l) (i.toNat*8+6))) (aF (bA (aa l) (i.toNat*8+6)))),AV.p (PV.sc (yb vj (vj.wrap (most-vj.wrap (vj.wrap (n+1)+bif true then V3 (↑(aJ (bA (aa l) (i.toNat*8+5))):Int) most else V4 (↑(aJ (bA (aa l) (i.toNat*8+5))):Int) most)))))])+R [AV.p (PV.ps (aJ (bA (aa l) (i.toNat*8+7))) (cH (bA (aa l) (i.toNat*8+7))) (aF (bA (aa l) (i.toNat*8+7)))),AV.p (PV.sc (yb vj (vj.wrap (most-vj.wrap (vj.wrap (vj.wrap (n+1)+bif true then V3 (↑(aJ (bA (aa l) (i.toNat*8+5))):Int) most else V4 (↑(aJ (bA (aa l) (i.toNat*8+5))):Int) most)+R [AV.p (PV.ps (aJ (bA (aa l) (i.toNat*8+6))) (cH (bA (aa l) (i.toNat*8+6))) (aF (bA (aa l) (i.toNat*8+6)))),AV.p (PV.sc (yb vj (vj.wrap (most-vj.wrap (vj.wrap (n+1)+bif true then V3 (↑(aJ (bA (aa l) (i.toNat*8+5))):Int) most else V4 (↑(aJ (bA (aa l) (i.toNat*8+5))):Int) most)))))])))))])))),AV.p (PV.sc (yb vj (vj.wrap (i+1))))] ([]) 0 58)))))
          (.at (aj ae env 13 0 [AV.p (PV.ps l.length 8 (aa l)),AV.p (PV.sc (yb vj most)),AV.p (PV.sc (yb vj (vj.wrap (vj.wrap (vj.wrap (n+1)+bif true then V3 (↑(aJ (bA (aa l) (i.toNat*8+5))):Int) most else V4 (↑(aJ (bA (aa l) (i.toNat*8+5))):Int) most)+R [AV.p (PV.ps (aJ (bA (aa l) (i.toNat*8+6))) (cH (bA (aa l) (i.toNat*8+6))) (aF (bA (aa l) (i.toNat*8+6)))),AV.p (PV.sc (yb vj (vj.wrap (most-vj.wrap (vj.wrap (n+1)+bif true then V3 (↑(aJ (bA (aa l) (i.toNat*8+5))):Int) most else V4 (↑(aJ (bA (aa l) (i.toNat*8+5))):Int) most)))))])))),AV.p (PV.sc (yb vj (vj.wrap (i+1))))] ([]) 0 58))))))
      (.must (!(decide (vj.wrap (vj.wrap (n+1)+bif true then V3 (↑(aJ (bA (aa l) (i.toNat*8+5))):Int) most else V4 (↑(aJ (bA (aa l) (i.toNat*8+5))):Int) most)≤most)))
       (.at (aj ae env 13 0 [AV.p (PV.ps l.length 8 (aa l)),AV.p (PV.sc (yb vj most)),AV.p (PV.sc (yb vj (vj.wrap (vj.wrap (n+1)+bif true then V3 (↑(aJ (bA (aa l) (i.toNat*8+5))):Int) most else V4 (↑(aJ (bA (aa l) (i.toNat*8+5))):Int) most)))),AV.p (PV.sc (yb vj (vj.wrap (i+1))))] ([]) 0 58))))))
   (.out (Out.ret (AV.p (PV.sc (yb vj n))) [])))
  (.out (Out.ret (AV.p (PV.sc (yb vj n))) [])))
theorem zL (l:List Ins) (most:Int) (n:Int) (i:Int) (R:List AV→Int):grow ae env (KV l most n i R) 1000000 true (aj ae env 13 0 ([aL l,sI vj most,sI vj n,sI vj i]) ([]) 0 58) ND atEnd=xF l most n i R:=by kernel_rfl
theorem CF (R:List AV→Int) (hR : ∀l most,R [aL l,sI .i64 most]=fQ l most 0) (l:List Ins) (most:Int) (h0:0≤most) (hm:most≤1000000000000) (hl:l.length≤maxLen)
  (IH : ∀x∈l,∀m':Int,0≤m'→m'≤most→aG ae env 13 [aL x.l,sI .i64 m'] [] (sI .i64 (fQ x.l m' 0)) []∧aG ae env 13 [aL x.e,sI .i64 m'] [] (sI .i64 (fQ x.e m' 0)) []) :
  ∀(r k:Nat) (n:Int),k+r=l.length→0≤n→n≤2*most+1→dK ae env (aj ae env 13 0 [aL l,sI .i64 most,sI .i64 n,sI .i64 k] [] 0 58) (.ret (sI .i64 (fQ (l.drop k) most n)) []):=by
 intro r
 induction r with
 |zero=>
  intro k n hk hn0 hn
  refine aC cV (zL l most n k R) ?_
  have h1:l.drop k=[]:=List.drop_eq_nil_of_le (by omega)
  have h2 : ¬((k:Int)<l.length):=by omega
  simp[xF,ct,aN.ok,h1,h2,fQ]
 |succ r ih=>
  intro k n hk hn0 hn
  refine aC cV (zL l most n k R) ?_
  have BC:k<l.length:=by omega
  have O3:l[k]? = some l[k]:=dp BC
  have hmem:l[k]∈l:=List.getElem_mem BC
  have hd:l.drop k=l[k]::l.drop (k+1):=List.drop_eq_getElem_cons BC
  rw[hd]
  generalize l[k]=x at *
  obtain⟨op,rs,a,b,nn,tags,ll,le⟩:=x
  have hc:=sM O3
  have c5:(aa l).getD (k*8+5) .eJ = .ps tags.length 1 (bW .u32 tags):=hc 5 (by omega)
  have c6:(aa l).getD (k*8+6) .eJ = .ps ll.length 8 (aa ll):=hc 6 (by omega)
  have c7:(aa l).getD (k*8+7) .eJ = .ps le.length 8 (aa le):=hc 7 (by omega)
  have UR:maxLen=9223372036854775807:=rfl
  have hw:vj.wrap ((k:Int)+1)=((k+1:Nat):Int):=by rw[aX (by omega) (by omega)];rfl
  have hw1:vj.wrap (n+1)=n+1:=aX (by omega) (by omega)
  have Qr:(k:Int)<(l.length:Int):=by omega
  simp only[xF,ct,aN.ok,c5,c6,c7,aJ,cH,aF,cW,V5,eW,cond_true,hw,hw1]
  refine⟨fun _=>⟨fun hnm=>⟨by simp[Qr],rfl,?_⟩,fun hnm=> ?_⟩,fun h=>absurd Qr (by simpa using h)⟩
  · have hnm:n≤most:=by simpa using hnm
    have KP:=IH _ hmem
    simp only[fQ,if_pos hnm,wQ,Ins.l,Ins.e] at KP ⊢
    generalize hn1:n+1+min (tags.length:Int) most=n1
    have L5:0≤n1∧n1≤2*most+1:=by omega
    have F5:vj.wrap n1=n1:=aX (by omega) (by omega)
    simp only[F5]
    have Us:vj.wrap (most-n1)=most-n1:=aX (by omega) (by omega)
    simp only[Us,hR]
    refine⟨fun h1=> ?_,fun h1=> ?_⟩
    · have h1:n1≤most:=by simpa using h1
      rw[if_pos h1]
      have hb:=fA ll (most-n1) 0 (by omega) (by omega) (by omega)
      have Ut:vj.wrap (n1+fQ ll (most-n1) 0)=n1+fQ ll (most-n1) 0:=aX (by omega) (by omega)
      refine⟨by simp[Qr],rfl,(KP (most-n1) (by omega) (by omega)).1,?_⟩
      simp only[Ut]
      generalize hn2:n1+fQ ll (most-n1) 0=n2
      have NQ:0≤n2∧n2≤2*most+1:=by omega
      have Uu:vj.wrap (most-n2)=most-n2:=aX (by omega) (by omega)
      simp only[Uu]
      refine⟨fun h2=> ?_,fun h2=> ?_⟩
      · have h2:n2≤most:=by simpa using h2
        rw[if_pos h2]
        have Sx:=fA le (most-n2) 0 (by omega) (by omega) (by omega)
        have Uv:vj.wrap (n2+fQ le (most-n2) 0)=n2+fQ le (most-n2) 0:=aX (by omega) (by omega)
        refine⟨by simp[Qr],rfl,(KP (most-n2) (by omega) (by omega)).2,?_⟩
        simp only[Uv]
        exact ih (k+1) _ (by omega) (by omega) (by omega)
      · have h2 : ¬n2≤most:=by simpa using h2
        rw[if_neg h2]
        exact ih (k+1) n2 (by omega) (by omega) (by omega)
    · have h1 : ¬n1≤most:=by simpa using h1
      rw[if_neg h1,if_neg h1]
      refine⟨by simpa using h1,?_⟩
      exact ih (k+1) n1 (by omega) (by omega) (by omega)
  · have hnm : ¬n≤most:=by simpa using hnm
    simp only[fQ,if_neg hnm]
theorem HD {l m:List Ins} (h:aL l=aL m):l=m:=by
 simp only[AV.p.injEq,PV.ps.injEq] at h
 exact lJ h.2.2
open Classical in
def NG (args:List AV):Int:=if h : ∃l most,args=[aL l,sI .i64 most] then fQ h.choose h.choose_spec.choose 0 else 0
theorem KW (l:List Ins) (most:Int):NG [aL l,sI .i64 most]=fQ l most 0:=by
 have h : ∃l' most',[aL l,sI .i64 most]=[aL l',sI .i64 most']:=⟨l,most,rfl⟩
 have e:=h.choose_spec.choose_spec
 unfold NG
 rw[dif_pos h]
 have e1:=HD (List.cons.inj e).1
 have e2:most=h.choose_spec.choose:=by
  have:=(List.cons.inj (List.cons.inj e).2).1
  simpa only[AV.p.injEq,PV.sc.injEq,Value.int.injEq,true_and] using this
 have e:(h.choose,h.choose_spec.choose)=(l,most):=by rw[Prod.mk.injEq];exact⟨e1.symm,e2.symm⟩
 exact congrArg (fun q:List Ins×Int=>fQ q.1 q.2 0) e
theorem og : ∀(N:Nat) (l:List Ins) (most:Int),dL l≤N→l.length≤maxLen→tA l→0≤most→most≤1000000000000→aG ae env 13 [aL l,sI .i64 most] [] (sI .i64 (fQ l most 0)) []
 |N,l,most,hN,hl,hw,h0,hm=>by
  have IH : ∀x∈l,∀m':Int,0≤m'→m'≤most→aG ae env 13 [aL x.l,sI .i64 m'] [] (sI .i64 (fQ x.l m' 0)) []∧aG ae env 13 [aL x.e,sI .i64 m'] [] (sI .i64 (fQ x.e m' 0)) []:=by
   intro x hx m' h0' hm'
   have hc:=lK hx
   have Nr:=Go.Am.oL hw hx
   obtain⟨op,rs,a,b,nn,tags,ll,le⟩:=x
   simp only[jh] at hc
   simp only[AQ] at Nr
   match N,hN with
   |0,hN=>omega
   |N+1,hN=>exact⟨og N ll m' (by omega) Nr.2.2.2.2.2.2.1.1 Nr.2.2.2.2.2.2.1.2 h0' (by omega),og N le m' (by omega) Nr.2.2.2.2.2.2.2.1 Nr.2.2.2.2.2.2.2.2 h0' (by omega)⟩
  refine ak cV (I7 l most) ?_
  have h:=CF NG KW l most h0 hm hl IH l.length 0 0 (by omega) (by omega) (by omega)
  rw[List.drop_zero] at h
  exact h
def Uw (l:List Ins) (e:Int) (n:Nat) (X:List PV) (f:FuncId) (_:List AV) (m:Mem):Option (AV×Mem):=cond (be f 31||be f 33) (some (sI .i64 e,m)) (cond (be f 32) (some (.os (some 1) n 1 X,[.dead,.tok])) (cond (be f 34) (some (.os (some 0) n 1 X,[.tok])) none))
def SW (lo:Int) (l:List Ins) (e:Int) (n k:Nat) (X Y:List PV) (f:FuncId) (_:List AV) (m:Mem):Option (AV×Mem):=cond (be f 14||be f 16) (some (.bk [.p (.ps n 1 X),sI .i64 e],m)) (cond (be f 35||be f 36) (some (.p (.ps k 1 Y),m)) none)
def P7 (l:List Ins) (e:Int) (n:Nat) (X:List PV):gQ:=fy (Uw l e n X) cC [] [(14,0,0)] [(14,5,3)]
def Se:Sc:= .fin
def DR (l:List Ins) (e:Int) (n:Nat) (X:List PV):aN:=
 (.call ⟨31,[.p (.ps l.length 8 (aa l))],[],sI .i64 e,[]⟩
 (.test (e != 0)
 (.out (.ret (.bk [cD,sI .i64 e]) []))
 (.call ⟨32,[cD,.p (.ps l.length 8 (aa l))],[],.os (some 1) n 1 X,[.dead,.tok]⟩
 (.must (((n+1)*1).ble b7&&(n+1).ble b7&&true)
 (.out (.ret (.bk [.os (some 0) (n+1) 1 (X++[.sc (.int .u8 11)]),sI .i64 0]) [.tok]))))))
theorem EX (l:List Ins) (e:Int) (n:Nat) (X:List PV):dF ae env (P7 l e n X) 1000000 14 ([aL l]) ([]) Se=DR l e n X:=by kernel_rfl
def P8 (lo:Int) (l:List Ins) (e:Int) (n:Nat) (k:Nat) (X:List PV) (Y:List PV):gQ:=fy (SW lo l e n k X Y) (SW lo l e n k X Y) [] [(17,2,4),(17,0,0),(17,0,1),(17,0,2)] [(17,9,5),(17,9,7),(17,10,2)]
def Sf:Sc:=(.fork (.lit .fin) .fin)
def tv (lo:Int) (l:List Ins) (e:Int) (n:Nat) (k:Nat) (X:List PV) (Y:List PV):aN:=
 (.test (decide (lo<0))
 (.out (.ret (.bk [cD,sI .i64 2]) []))
 (.test (decide (lo>50000))
 (.out (.ret (.bk [cD,sI .i64 2]) []))
 (.call ⟨14,[.p (.ps l.length 8 (aa l))],[],.bk [.p (.ps n 1 X),sI .i64 e],[]⟩
 (.test (e != 0)
 (.out (.ret (.bk [cD,sI .i64 e]) []))
 (.test (decide (lo>0))
 (.call ⟨35,[sI .u32 (VO.wrap lo)],[],.p (.ps k 1 Y),[]⟩
 (.must (((1+k)*1).ble b7&&(1+k).ble b7&&true)
 (.must (((1+k+1)*1).ble b7&&(1+k+1).ble b7&&true)
 (.must (((1+k+1+n)*1).ble b7&&(1+k+1+n).ble b7&&true)
 (.out (.ret (.bk [.os (some 0) (1+k+1+n) 1 (.sc (.int .u8 1)::(([].append Y).append [.sc (.int .u8 127)]).append X),sI .i64 0]) [.tok]))))))
 (.must (((1+n)*1).ble b7&&(1+n).ble b7&&true)
 (.out (.ret (.bk [.os (some 0) (1+n) 1 (.sc (.int .u8 0)::[].append X),sI .i64 0]) [.tok]))))))))
theorem KX (lo:Int) (l:List Ins) (e:Int) (n:Nat) (k:Nat) (X:List PV) (Y:List PV):dF ae env (P8 lo l e n k X Y) 1000000 17 ([AV.agg [sI vj lo,aL l]]) ([]) Sf=tv lo l e n k X Y:=by kernel_rfl
theorem aG.I8 {f:FuncId} {args:List AV} {tok:Option Nat} {n sz:Nat} {X:List PV} {u:PV} {m':Mem} (h:aG ae env f args [] (.bk [.os tok n sz X,.p u]) m'):aG ae env f args [] (.bk [.p (.ps n sz X),.p u]) []:=
 aG.weak h fun g w cv hv=>by
  have mono : ∀{v:PV} {c:Value},VP g w v c→VP {g with aP:=fun _=>none} w v c:=fun k=>VP.mono (g:=g) (g':={g with aP:=fun _=>none}) (w:=w) (w':=w) (fun _ _ q=>⟨q,rfl⟩) k
  cases hv with
  |bk _ cs hl hc=>
   obtain⟨cs⟩:=cs
   match cs,aW.cS hl hc with
   |[a,b],⟨h1,h2,_⟩=>
    refine VA.je.2 ⟨?_,?_,trivial⟩
    · cases h1 with
      |os _ _ _ _ a cap h _=>exact .p _ _ (mono h)
    · cases h2 with
      |p _ _ h=>exact .p _ _ (mono h)
theorem aG.LB {f:FuncId} {args:List AV} {u:PV} {m':Mem} (h:aG ae env f args [] (.bk [.os none 0 0 [],.p u]) m'):aG ae env f args [] (.bk [.p (.ps 0 1 []),.p u]) []:=
 aG.weak h fun g w cv hv=>by
  have mono : ∀{v:PV} {c:Value},VP g w v c→VP {g with aP:=fun _=>none} w v c:=fun k=>VP.mono (g:=g) (g':={g with aP:=fun _=>none}) (w:=w) (w':=w) (fun _ _ q=>⟨q,rfl⟩) k
  cases hv with
  |bk _ cs hl hc=>
   obtain⟨cs⟩:=cs
   match cs,aW.cS hl hc with
   |[a,b],⟨h1,h2,_⟩=>
    refine VA.je.2 ⟨?_,?_,trivial⟩
    · cases h1 with
      |os _ _ _ _ a cap h _=>
       cases h with
       |mT _ _ _ hz=>exact .p _ _ (.mT _ _ _ (.inl (df 1)))
       |ps _ _ _ b o cap f hl hc hz hp hv=>exact .p _ _ (.ps _ _ _ b o cap f (by simp) (Vr _) (df 1) (fun k hk=>absurd hk (by simp)) (fun k hk=>absurd hk (by simp)))
    · cases h2 with
      |p _ _ h=>exact .p _ _ (mono h)
def EY (l:List Ins):List Nat:=if eG fK l=0 then fc l++[11] else[]
def CM (lo:Int) (l:List Ins):Int:=if lo<0∨lo>50000 then 2 else eG fK l
def kR (lo:Int) (l:List Ins):List Nat:=if CM lo l=0 then(if lo=0 then[0] else(1::pU 4 lo.toNat)++[127])++EY l else[]
theorem NH {t:Option Nat} {n m:Nat} {X Y:List PV} {u:AV} {mm:Mem} (h:X=Y) (h':n=Y.length) (e:m=Y.length):Out.ret (.bk [.os t n 1 X,u]) mm = .ret (.bk [.os t m 1 Y,u]) mm:=by subst h;rw[h',e]
theorem DS {l:List Ins} (hc:dL l≤1000000):(EY l).length≤20000001:=by
 have:=mC l
 unfold EY
 split
 · simp;omega
 · simp
theorem KY {l:List Ins} (hw:tA l) (hc:dL l≤1000000):aG ae env 14 [aL l] [] (.bk [.p (.ps (EY l).length 1 (bt (EY l))),sI .i64 (eG fK l)]) []:=by
 have cY:b7=70368744177664:=rfl
 have US:=mC l
 have hn:=rq l
 have h1:=DC FI l (by omega)
 by_cases he:eG fK l=0
 · have e1:EY l=fc l++[11]:=if_pos he
   rw[e1,he]
   rw[he] at h1
   refine aG.I8 (tok:=some 0) (m':=[.tok]) (ak cV (EX l 0 (fc l).length (bt (fc l))) ?_)
   simp only[DR,ct,aN.ok,cY,V6,dv,and_true,show((0:Int) != 0)=false from rfl,rh,false_implies,true_implies,true_and]
   exact⟨h1,KQ hw hc,⟨by omega,by omega⟩,NH (by simp[bt]) (by simp[bt]) (by simp[bt])⟩
 · have e1:EY l=[]:=if_neg he
   rw[e1]
   have hne:(eG fK l != 0)=true:=by simpa using he
   refine aG.LB (m':=[]) (ak cV (EX l (eG fK l) (fc l).length (bt (fc l))) ?_)
   simp only[DR,ct,aN.ok,hne,Wa,false_implies,true_implies,and_true]
   exact h1
theorem A9 {l:List Ins} (lo:Int) (hw:tA l) (hc:dL l≤1000000):aG ae env 17 [.agg [sI .i64 lo,aL l]] [] (.bk [.p (.ps (kR lo l).length 1 (bt (kR lo l))),sI .i64 (CM lo l)]) []:=by
 have cY:b7=70368744177664:=rfl
 have hl:=DS (l:=l) hc
 have h1:=KY hw hc
 have hu:=nX 4 lo.toNat
 have t1:=KX lo l (eG fK l) (EY l).length (pU 4 lo.toNat).length (bt (EY l)) (bt (pU 4 lo.toNat))
 have I9 : ∀e:Int,CM lo l=e→e≠0→aG ae env 17 [.agg [sI .i64 lo,aL l]] [] (.bk [.os none 0 0 [],sI .i64 e]) []→aG ae env 17 [.agg [sI .i64 lo,aL l]] [] (.bk [.p (.ps (kR lo l).length 1 (bt (kR lo l))),sI .i64 (CM lo l)]) []:=fun e h h0 k=>by
  have:kR lo l=[]:=if_neg (by rw[h];exact h0)
  rw[this,h];exact aG.LB k
 by_cases c1:lo<0
 · refine I9 2 (if_pos (.inl c1)) (by decide) (ak cV t1 ?_)
   simp only[tv,ct,aN.ok,c1,decide_true,Wa,false_implies,true_implies,and_true]
 · by_cases c2:lo>50000
   · refine I9 2 (if_pos (.inr c2)) (by decide) (ak cV t1 ?_)
     simp only[tv,ct,aN.ok,c1,c2,decide_true,decide_false,Wa,rh,false_implies,true_implies,and_true,true_and]
   · have e0:CM lo l=eG fK l:=if_neg (by omega)
     by_cases he:eG fK l=0
     · have e1:kR lo l=(if lo=0 then[0] else(1::pU 4 lo.toNat)++[127])++EY l:=if_pos (by rw[e0,he])
       rw[e0,he,e1]
       rw[he] at h1 t1
       by_cases c3:lo=0
       · have d3:decide (lo>0)=false:=decide_eq_false (by omega)
         refine aG.I8 (tok:=some 0) (m':=[.tok]) (ak cV t1 ?_)
         simp only[tv,ct,aN.ok,c1,c2,d3,decide_true,decide_false,cY,V6,dv,and_true,show((0:Int) != 0)=false from rfl,Wa,rh,false_implies,true_implies,true_and]
         refine⟨h1,⟨by omega,by omega⟩,NH ?_ ?_ ?_⟩
         · simp[bt,c3]
         · simp[bt,c3];omega
         · simp[bt,c3]
       · have d3:decide (lo>0)=true:=decide_eq_true (by omega)
         have Sg:VO.wrap lo=((lo.toNat:Nat):Int):=by rw[zm (by omega) (by omega)];omega
         refine aG.I8 (tok:=some 0) (m':=[.tok]) (ak cV t1 ?_)
         simp only[tv,ct,aN.ok,c1,c2,d3,decide_true,decide_false,cY,Sg,V6,dv,and_true,show((0:Int) != 0)=false from rfl,Wa,rh,false_implies,true_implies,true_and]
         refine⟨h1,zy lo.toNat (by omega),⟨by omega,by omega⟩,⟨by omega,by omega⟩,⟨by omega,by omega⟩,NH ?_ ?_ ?_⟩
         · simp[bt,c3]
         · simp[bt,c3];omega
         · simp[bt,c3]
     · have hne:(eG fK l != 0)=true:=by simpa using he
       refine I9 _ e0 he (ak cV t1 ?_)
       simp only[tv,ct,aN.ok,c1,c2,hne,decide_false,Wa,rh,false_implies,true_implies,and_true,true_and]
       exact h1
theorem mM : ∀(f n:Nat),∀x∈pU f n,x<256
 |0,n,x,h=>by
  simp only[pU,VT] at h
  omega
 |f+1,n,x,h=>by
  unfold pU at h
  split at h
  · simp only[VT] at h;omega
  · rcases pk.1 h with h | h
    · omega
    · exact mM f _ x h
theorem Ja : ∀(f:Nat) (n:Int),∀x∈pS f n,x<256
 |0,n,x,h=>by
  simp only[pS,VT] at h
  omega
 |f+1,n,x,h=>by
  unfold pS at h
  split at h
  · simp only[VT] at h;omega
  · rcases pk.1 h with h | h
    · omega
    · exact Ja f _ x h
theorem ir {u v:List Nat} (h1 : ∀x∈u,x<256) (h2 : ∀x∈v,x<256) : ∀x∈u++v,x<256:=fun x h=>(List.mem_append.1 h).elim (h1 x) (h2 x)
theorem eN {c:Nat} {v:List Nat} (h1:c<256) (h2 : ∀x∈v,x<256) : ∀x∈c::v,x<256:=fun x h=>(pk.1 h).elim (fun e=>by rw[e];exact h1) (h2 x)
theorem iw : ∀x∈([]:List Nat),x<256:=fun x h=>by cases h
theorem KZ (op a b nn:Int) (tg:List Int) : ∀x∈A0 op a b nn tg,x<256:=by
 have ht : ∀x∈tg.flatMap (fun t=>pU 4 t.toNat),x<256:=fun x h=>by
  obtain⟨t,_,h⟩:=List.mem_flatMap.1 h
  exact mM _ _ x h
 unfold A0
 repeat' split
 · exact ir (mM _ _) (eN (by decide) iw)
 · exact mM _ _
 · exact ir (mM _ _) (ir ht (mM _ _))
 · exact eN (by decide) iw
 · exact Ja _ _
 · exact ir (mM _ _) (mM _ _)
 · exact iw
mutual
theorem K0 : ∀x:Ins,∀c∈gK x,c<256
 |.mk op r a b nn tg ll le=>by
  by_cases cR:dx op=true
  · rw[gK,if_pos cR]
    refine eN (by omega) (eN (by split<;>decide) (ir (uY ll) (ir ?_ (eN (by decide) iw))))
    split
    · exact iw
    · exact eN (by decide) (uY le)
  · rw[uX (by simpa using cR)]
    exact eN (by omega) (KZ op a b nn tg)
theorem uY : ∀l:List Ins,∀c∈fc l,c<256
 |[]=>iw
 |x::r=>by
  rw[fc]
  exact ir (K0 x) (uY r)
end
theorem K1 (l:List Ins) : ∀c∈EY l,c<256:=by
 unfold EY
 split
 · exact ir (uY l) (eN (by decide) iw)
 · exact iw
theorem Ba (f n:Nat):1≤(pU f n).length:=by
 cases f with
 |zero=>simp[pU]
 |succ f=>unfold pU;split<;>simp
theorem Bb {lo:Int} {l:List Ins} (h:CM lo l=0):(0≤lo∧lo≤50000)∧eG fK l=0∧kR lo l=(if lo=0 then[0] else(1::pU 4 lo.toNat)++[127])++(fc l++[11]):=by
 have h0:=h
 unfold CM at h
 split at h
 · cases h
 · rename_i q
   refine⟨by omega,h,?_⟩
   unfold kR
   rw[if_pos h0]
   unfold EY
   rw[if_pos h]
theorem K2 {lo:Int} {l:List Ins} {b:List Nat} {p:Nat} (h:CM lo l=0) (hw:tA l) (hd:Hd b p (kR lo l)) : ∃q,ju b p=(lo.toNat,⟨q,0,0⟩)∧ID b q=(some l,⟨p+(kR lo l).length,0,0⟩):=by
 obtain⟨h1,h2,h3⟩:=Bb h
 rw[h3] at hd ⊢
 obtain⟨d1,d2⟩:=hd.app
 have k:=KG h2 hw d2
 by_cases h0:lo=0
 · rw[if_pos h0] at d1 k ⊢
   have d1:Hd b p (pU 4 0):=d1
   have e:=n8 (by decide) d1
   refine⟨p+1,?_,?_⟩
   · unfold ju
     rw[e,h0]
     rfl
   · rw[show p+1=p+([0]:List Nat).length from rfl,k]
     simp only[ei,WM]
     congr 2
     omega
 · rw[if_neg h0] at d1 k ⊢
   have d1:Hd b p (pU 4 1++(pU 4 lo.toNat++[127])):=d1
   obtain⟨a1,a2⟩:=d1.app
   obtain⟨a2,a3⟩:=a2.app
   have e1:=n8 (by decide) a1
   have e2:=n8 (by omega) a2
   have e3:=n9 (ok:=rG) (by decide) a3
   refine⟨p+(pU 4 1).length+(pU 4 lo.toNat).length+1,?_,?_⟩
   · unfold ju
     rw[e1]
     dsimp only[jc]
     rw[if_neg (by simp),e2]
     dsimp only
     rw[if_neg (by omega),e3,sa]
   · rw[show p+(pU 4 1).length+(pU 4 lo.toNat).length+1=p+((1::pU 4 lo.toNat)++[127]).length by simp only[pa,ei,VS,show(pU 4 1).length=1 from rfl];omega,k]
     simp only[ei,WM]
     congr 2
     omega
def gB (s:Nat):Nat:=if s=0 then 0 else(pU 4 s).length+1
theorem NI {s v:Nat} (h:s+v≤50000):gB (s+v)≤gB s+(pU 4 v).length+1:=by
 have h1:=Ba 4 s
 have h2:=Ba 4 v
 have h3:=IK 4 2 (s+v) (by omega)
 unfold gB
 by_cases q:s=0
 · subst q
   rw[sa,if_pos rfl]
   split<;>omega
 · rw[if_neg q,if_neg (by omega)]
   omega
theorem qh {b:List Nat} : ∀(f s:Nat) (r:RS),cP b r→(r.e=0→s≤50000)→(jc b f s r).2.e=0→r.e=0∧(jc b f s r).1≤50000∧r.p+gB (jc b f s r).1≤(jc b f s r).2.p+gB s∧cP b (jc b f s r).2
 |0,s,r,hf,hs,h=>⟨h,hs h,df _,hf⟩
 |f+1,s,r,hf,hs,h=>by
  by_cases h0:r.e≠0
  · rw[jc,if_pos h0] at h
    exact absurd h h0
  · rw[jc,if_neg h0] at h ⊢
    have h0:r.e=0:=by simpa using h0
    have Dd:=dy hf
    have tb : ∀{s:RS},(cO rG b s).2.e=0→s.e=0:=fun q=>(ke (B:=b) (n:=0) (ok:=rG) (Vr _)).back q
    by_cases q:50000<s+(aA b r).1∧(aA b r).2.e=0
    · rw[if_pos q] at h ⊢
      have GY:cP b ⟨(aA b r).2.p,141,r.p⟩:=⟨hf.gi,hf.len,Dd.p⟩
      have eJ : ∀{x:RS},x=(cO rG b ⟨(aA b r).2.p,141,r.p⟩).2→x.e≠0:=fun e q2=>by
       rw[e] at q2
       have:=tb q2
       simp at this
      obtain⟨k1,_⟩:=qh f _ _ (j5 GY) (fun q2=>absurd q2 (eJ rfl)) h
      exact absurd k1 (eJ rfl)
    · rw[if_neg q] at h ⊢
      obtain⟨k1,k2,k3,k4⟩:=qh f (s+(aA b r).1) (cO rG b (aA b r).2).2 (j5 Dd) (fun q2=>by have:=tb q2;omega) h
      have k5:=tb k1
      obtain⟨t1,_⟩:=rF k1
      obtain⟨n1,n2⟩:=iq k5
      have:=NI (s:=s) (v:=(aA b r).1) (by omega)
      exact⟨h0,k2,by omega,k4⟩
theorem K3 {b:List Nat} {p:Nat} (hb:cP b ⟨p,0,0⟩) (h1:(ju b p).2.e=0) (h2:(mK b (ju b p).2.p).e=0) :
  cP b ⟨(ju b p).2.p,0,0⟩∧Dk (xy b (ju b p).2.p) ((mK b (ju b p).2.p).p-(ju b p).2.p)∧CM (ju b p).1 (xy b (ju b p).2.p)=0∧p+(kR (ju b p).1 (xy b (ju b p).2.p)).length≤(mK b (ju b p).2.p).p:=by
 obtain⟨k1,k2,k3,k4⟩:=qh _ 0 _ (dy hb) (fun _=>Vr _) h1
 have hf:cP b ⟨(ju b p).2.p,0,0⟩:=⟨hb.gi,hb.len,k4.p⟩
 obtain⟨r1,r2⟩:=KK hf h2
 have k2:(ju b p).1≤50000:=k2
 have k3:(aA b ⟨p,0,0⟩).2.p+gB (ju b p).1≤(ju b p).2.p+gB 0:=k3
 obtain⟨n1,n2⟩:=iq k1
 have n3:=Ba 4 (aA b ⟨p,0,0⟩).1
 have n2:p+(pU 4 (aA b ⟨p,0,0⟩).1).length≤(aA b ⟨p,0,0⟩).2.p:=n2
 have e:CM (ju b p).1 (xy b (ju b p).2.p)=0:=by
  unfold CM
  rw[if_neg (by omega)]
  exact r2.check
 refine⟨hf,r2,e,?_⟩
 rw[(Bb e).2.2]
 have hy:=r2.y
 have g0:gB 0=0:=rfl
 have hg:((if(((ju b p).1:Nat):Int)=0 then[0] else(1::pU 4 (((ju b p).1:Nat):Int).toNat)++[127]):List Nat).length=gB (ju b p).1+1:=by
  unfold gB
  rw[V5]
  by_cases q:(ju b p).1=0
  · rw[if_pos (by omega),if_pos q];rfl
  · rw[if_neg (by omega),if_neg q]
    simp only[pa,ei,VS]
 rw[ei,hg,ei,WM]
 omega
def EZ (b:List Nat) (p:Nat):Bool:=decide ((ju b p).2.e=0)&&decide ((mK b (ju b p).2.p).e=0)
def kq (b:List Nat) (p:Nat):Int:=if EZ b p=true then(ju b p).1 else 0
def iy (b:List Nat) (p:Nat):List Ins:=if EZ b p=true then xy b (ju b p).2.p else[]
def xG (b:List Nat) (p:Nat):Int:=if EZ b p=true then(mK b (ju b p).2.p).p else 0
def tw (b:List Nat) (p:Nat):Int:=if(ju b p).2.e=0 then(mK b (ju b p).2.p).e else(ju b p).2.e
def Jb (b:List Nat) (p:Nat):Int:=if(ju b p).2.e=0 then(mK b (ju b p).2.p).fa else(ju b p).2.fa
def F4 (b:List Nat) (p:Nat):AV:= .bk [.agg [sI .i64 (kq b p),.p (.ps (iy b p).length 8 (aa (iy b p)))],sI .i64 (xG b p),.agg [sI .i64 (tw b p),sI .i64 (Jb b p)]]
theorem CG {b:List Nat} {p:Nat}:tw b p=0↔EZ b p=true:=by
 unfold tw EZ
 by_cases h:(ju b p).2.e=0
 · rw[if_pos h];simp[h]
 · rw[if_neg h];simp[h]
theorem E0 {g g':Gh} {w:World} {a b a' b':AV} {v:Value} (h:VA g w (.agg [a,b]) v) (ha : ∀x,VA g w a x→VA g' w a' x) (hb : ∀x,VA g w b x→VA g' w b' x):VA g' w (.agg [a',b']) v:=by
 cases h with
 |agg _ cs hl hc=>
  have h:=VA.vr.1 (VA.agg _ cs hl hc)
  obtain⟨cs⟩:=cs
  match cs,h with
  |[x,y],⟨i1,i2,_⟩=>exact VA.vr.2 ⟨ha x i1,hb y i2,trivial⟩
theorem aG.LC {f:FuncId} {args:List AV} {e fa:PV} (h:aG ae env f args [] (.bk [.agg [sI .i64 0,.os none 0 0 []],sI .i64 0,.agg [.p e,.p fa]]) []):aG ae env f args [] (.bk [.agg [sI .i64 0,.p (.ps 0 8 [])],sI .i64 0,.agg [.p e,.p fa]]) []:=
 aG.weak h fun g w cv hv=>by
  have mono : ∀{v:PV} {c:Value},VP g w v c→VP {g with aP:=fun _=>none} w v c:=fun k=>VP.mono (g:=g) (g':={g with aP:=fun _=>none}) (w:=w) (w':=w) (fun _ _ q=>⟨q,rfl⟩) k
  have mp : ∀{v:PV} {c:Value},VA g w (.p v) c→VA {g with aP:=fun _=>none} w (.p v) c:=fun k=>VA.pv.2 (mono (VA.pv.1 k))
  cases hv with
  |bk _ cs hl hc=>
   obtain⟨cs⟩:=cs
   match cs,aW.cS hl hc with
   |[a,b,c],⟨h1,h2,h3,_⟩=>
    refine VA.je.2 ⟨?_,mp h2,?_,trivial⟩
    · exact E0 h1 (fun x=>mp) fun x k=>mp (VA.Lu (by decide) k)
    · exact E0 h3 (fun x=>mp) fun x=>mp
theorem jv {b:List Nat} {p:Nat} (hb:cP b ⟨p,0,0⟩):aG ae env 21 [.p (.ps b.length 1 (bt b)),sI .i64 p] [] (F4 b p) []:=by
 by_cases h1:(ju b p).2.e=0
 · by_cases h2:(mK b (ju b p).2.p).e=0
   · have g:EZ b p=true:=by simp[EZ,h1,h2]
     have k:=A6 hb (ET (s:=(ju b p).1) (r:=(ju b p).2) h1 h2)
     unfold F4 kq iy xG tw Jb
     rw[g]
     simp only[if_true,if_pos h1]
     exact k
   · have g:EZ b p=false:=by simp[EZ,h1,h2]
     have k:=aG.LC (A6 hb (zI (s:=(ju b p).1) (r:=(ju b p).2) h1 h2))
     unfold F4 kq iy xG tw Jb
     rw[g]
     simp only[rh,if_false,if_pos h1]
     exact k
 · have g:EZ b p=false:=by simp[EZ,h1]
   have k:=aG.LC (A6 hb (xC (s:=(ju b p).1) (r:=(ju b p).2) h1))
   unfold F4 kq iy xG tw Jb
   rw[g]
   simp only[rh,if_false,if_neg h1]
   exact k
def SX (lo:Int) (l:List Ins) (k:Nat) (B:List PV) (c:Int) (pN:Int→Nat→List PV→Nat) (pX:Int→Nat→List PV→List PV) (pE:Int→Nat→List PV→Int) (gL gP gE gF:Nat→List PV→Int→Int) (gN:Nat→List PV→Int→Nat) (gX:Nat→List PV→Int→List PV) (f:FuncId) (args:List AV) (m:Mem):Option (AV×Mem):=
 cond (be f 13) (some (sI .i64 c,m)) (cond (be f 12||be f 11) (some (sB true,m))
 (cond (be f 17) (match args with
   |[.agg [.p (.sc (.int _ lo)),.p (.ps n _ X)]]=>some (.bk [.p (.ps (pN lo n X) 1 (pX lo n X)),sI .i64 (pE lo n X)],m)
   |_=>none)
 (cond (be f 21) (match args with
   |[.p (.ps n _ X),.p (.sc (.int _ a))]=>some (.bk [.agg [sI .i64 (gL n X a),.p (.ps (gN n X a) 8 (gX n X a))],sI .i64 (gP n X a),.agg [sI .i64 (gE n X a),sI .i64 (gF n X a)]],m)
   |[.os _ n _ X,.p (.sc (.int _ a))]=>some (.bk [.agg [sI .i64 (gL n X a),.p (.ps (gN n X a) 8 (gX n X a))],sI .i64 (gP n X a),.agg [sI .i64 (gE n X a),sI .i64 (gF n X a)]],m)
   |_=>none) none)))
def P9 (lo:Int) (l:List Ins) (k:Nat) (B:List PV) (c:Int) (pN:Int→Nat→List PV→Nat) (pX:Int→Nat→List PV→List PV) (pE:Int→Nat→List PV→Int) (gL:Nat→List PV→Int→Int) (gP:Nat→List PV→Int→Int) (gE:Nat→List PV→Int→Int) (gF:Nat→List PV→Int→Int) (gN:Nat→List PV→Int→Nat) (gX:Nat→List PV→Int→List PV):gQ:=fy (SX lo l k B c pN pX pE gL gP gE gF gN gX) (SX lo l k B c pN pX pE gL gP gE gF gN gX) [] [(7,3,5),(7,0,0),(7,0,1),(7,8,4),(7,8,11),(7,8,18),(7,0,3),(7,15,6),(7,15,12),(7,15,17),(7,15,23),(7,15,30)] [(7,7,2),(7,7,4)]
def Sh:Sc:=(.fork (.lit .fin) (.fork .fin (.fork (.fork (.lit (.lit .fin)) (.fork (.lit .fin) (.fork .fin (.fork .fin (.fork (.fork (.fork (.fork .fin (.lit .fin)) (.lit (.lit .fin))) (.lit (.lit (.lit .fin)))) (.lit (.lit (.lit (.lit .fin))))))))) (.fork .fin (.fork (.fork (.fork (.fork .fin (.lit .fin)) (.lit (.lit .fin))) (.lit (.lit (.lit .fin)))) (.lit (.lit (.lit (.lit .fin)))))))))
def xH (k:Nat) (B:List PV) (pN:Int→Nat→List PV→Nat) (pX:Int→Nat→List PV→List PV) (pE:Int→Nat→List PV→Int) (gL:Nat→List PV→Int→Int) (gP:Nat→List PV→Int→Int) (gE:Nat→List PV→Int→Int) (gF:Nat→List PV→Int→Int) (gN:Nat→List PV→Int→Nat) (gX:Nat→List PV→Int→List PV):aN:=
 (.call ⟨21,[.p (.ps k 1 B),sI .i64 0],[],.bk [.agg [sI .i64 (gL k B 0),.p (.ps (gN k B 0) 8 (gX k B 0))],sI .i64 (gP k B 0),.agg [sI .i64 (gE k B 0),sI .i64 (gF k B 0)]],[]⟩ (.test (gE k B 0 != 0) Hy (.call ⟨17,[.agg [sI .i64 (gL k B 0),.p (.ps (gN k B 0) 8 (gX k B 0))]],[],.bk [.p (.ps (pN (gL k B 0) (gN k B 0) (gX k B 0)) 1 (pX (gL k B 0) (gN k B 0) (gX k B 0))),sI .i64 (pE (gL k B 0) (gN k B 0) (gX k B 0))],[]⟩ (.call ⟨21,[.p (.ps (pN (gL k B 0) (gN k B 0) (gX k B 0)) 1 (pX (gL k B 0) (gN k B 0) (gX k B 0))),sI .i64 0],[],.bk [.agg [sI .i64 (gL (pN (gL k B 0) (gN k B 0) (gX k B 0)) (pX (gL k B 0) (gN k B 0) (gX k B 0)) 0),.p (.ps (gN (pN (gL k B 0) (gN k B 0) (gX k B 0)) (pX (gL k B 0) (gN k B 0) (gX k B 0)) 0) 8 (gX (pN (gL k B 0) (gN k B 0) (gX k B 0)) (pX (gL k B 0) (gN k B 0) (gX k B 0)) 0))],sI .i64 (gP (pN (gL k B 0) (gN k B 0) (gX k B 0)) (pX (gL k B 0) (gN k B 0) (gX k B 0)) 0),.agg [sI .i64 (gE (pN (gL k B 0) (gN k B 0) (gX k B 0)) (pX (gL k B 0) (gN k B 0) (gX k B 0)) 0),sI .i64 (gF (pN (gL k B 0) (gN k B 0) (gX k B 0)) (pX (gL k B 0) (gN k B 0) (gX k B 0)) 0)]],[]⟩ (.test (pE (gL k B 0) (gN k B 0) (gX k B 0)==0) (.test (decide ((↑(pN (gL k B 0) (gN k B 0) (gX k B 0)):Int)≤gP k B 0)) (.test (gE (pN (gL k B 0) (gN k B 0) (gX k B 0)) (pX (gL k B 0) (gN k B 0) (gX k B 0)) 0==0) (.test (gP (pN (gL k B 0) (gN k B 0) (gX k B 0)) (pX (gL k B 0) (gN k B 0) (gX k B 0)) 0==(↑(pN (gL k B 0) (gN k B 0) (gX k B 0)):Int)) (.test (gL (pN (gL k B 0) (gN k B 0) (gX k B 0)) (pX (gL k B 0) (gN k B 0) (gX k B 0)) 0==gL k B 0) (.call ⟨11,[.p (.ps (gN (pN (gL k B 0) (gN k B 0) (gX k B 0)) (pX (gL k B 0) (gN k B 0) (gX k B 0)) 0) 8 (gX (pN (gL k B 0) (gN k B 0) (gX k B 0)) (pX (gL k B 0) (gN k B 0) (gX k B 0)) 0)),.p (.ps (gN k B 0) 8 (gX k B 0))],[],sB true,[]⟩ Hy) (.out (.ret (sB false) []))) (.out (.ret (sB false) []))) (.out (.ret (sB false) []))) (.out (.ret (sB false) []))) (.out (.ret (sB false) [])))))))
def Jc (lo:Int) (l:List Ins) (k:Nat) (B:List PV) (c:Int) (pN:Int→Nat→List PV→Nat) (pX:Int→Nat→List PV→List PV) (pE:Int→Nat→List PV→Int) (gL:Nat→List PV→Int→Int) (gP:Nat→List PV→Int→Int) (gE:Nat→List PV→Int→Int) (gF:Nat→List PV→Int→Int) (gN:Nat→List PV→Int→Nat) (gX:Nat→List PV→Int→List PV):aN:=
 (.call ⟨12,[],[],sB true,[]⟩
 (.call ⟨13,[.p (.ps l.length 8 (aa l)),sI .i64 2000],[],sI .i64 c,[]⟩
 (.test (decide (c>2000))
 Hy
 (.test (decide ((↑k:Int)>3000))
 Hy
 (.call ⟨17,[.agg [sI .i64 lo,.p (.ps l.length 8 (aa l))]],[],.bk [.p (.ps (pN lo l.length (aa l)) 1 (pX lo l.length (aa l))),sI .i64 (pE lo l.length (aa l))],[]⟩
 (.test (pE lo l.length (aa l)==0)
 (.must (((1+pN lo l.length (aa l))*1).ble b7&&(1+pN lo l.length (aa l)).ble b7&&true)
 (.must (((1+pN lo l.length (aa l)+k)*1).ble b7&&(1+pN lo l.length (aa l)+k).ble b7&&true)
 (.call ⟨21,[.os (some 0) (1+pN lo l.length (aa l)+k) 1 (.sc (.int .u8 9)::([].append (pX lo l.length (aa l))).append B),sI .i64 1],[.tok],.bk [.agg [sI .i64 (gL (1+pN lo l.length (aa l)+k) (.sc (.int .u8 9)::([].append (pX lo l.length (aa l))).append B) 1),.p (.ps (gN (1+pN lo l.length (aa l)+k) (.sc (.int .u8 9)::([].append (pX lo l.length (aa l))).append B) 1) 8 (gX (1+pN lo l.length (aa l)+k) (.sc (.int .u8 9)::([].append (pX lo l.length (aa l))).append B) 1))],sI .i64 (gP (1+pN lo l.length (aa l)+k) (.sc (.int .u8 9)::([].append (pX lo l.length (aa l))).append B) 1),.agg [sI .i64 (gE (1+pN lo l.length (aa l)+k) (.sc (.int .u8 9)::([].append (pX lo l.length (aa l))).append B) 1),sI .i64 (gF (1+pN lo l.length (aa l)+k) (.sc (.int .u8 9)::([].append (pX lo l.length (aa l))).append B) 1)]],[.tok]⟩
 (.test (gE (1+pN lo l.length (aa l)+k) (.sc (.int .u8 9)::([].append (pX lo l.length (aa l))).append B) 1 != 0)
 (.out (.ret (sB false) []))
 (.test (gP (1+pN lo l.length (aa l)+k) (.sc (.int .u8 9)::([].append (pX lo l.length (aa l))).append B) 1 != vj.wrap (1+(↑(pN lo l.length (aa l)):Int)))
 (.out (.ret (sB false) []))
 (.test (gL (1+pN lo l.length (aa l)+k) (.sc (.int .u8 9)::([].append (pX lo l.length (aa l))).append B) 1 != lo)
 (.out (.ret (sB false) []))
 (.call ⟨11,[.p (.ps (gN (1+pN lo l.length (aa l)+k) (.sc (.int .u8 9)::([].append (pX lo l.length (aa l))).append B) 1) 8 (gX (1+pN lo l.length (aa l)+k) (.sc (.int .u8 9)::([].append (pX lo l.length (aa l))).append B) 1)),.p (.ps l.length 8 (aa l))],[],sB true,[]⟩
 (xH k B pN pX pE gL gP gE gF gN gX))))))))
 (xH k B pN pX pE gL gP gE gF gN gX)))))))
theorem K4 (lo:Int) (l:List Ins) (k:Nat) (B:List PV) (c:Int) (pN:Int→Nat→List PV→Nat) (pX:Int→Nat→List PV→List PV) (pE:Int→Nat→List PV→Int) (gL:Nat→List PV→Int→Int) (gP:Nat→List PV→Int→Int) (gE:Nat→List PV→Int→Int) (gF:Nat→List PV→Int→Int) (gN:Nat→List PV→Int→Nat) (gX:Nat→List PV→Int→List PV):dF ae env (P9 lo l k B c pN pX pE gL gP gE gF gN gX) 1000000 7 ([AV.agg [sI vj lo,aL l],AV.p (PV.ps k 1 B)]) ([]) Sh=Jc lo l k B c pN pX pE gL gP gE gF gN gX:=by kernel_rfl
def LD (X:List PV):List Nat:=X.map fun x=>match x with | .sc (.int _ v)=>v.toNat | _=>0
theorem NJ (b:List Nat):LD (bt b)=b:=by
 unfold LD bt
 rw[List.map_map]
 have:(fun x:PV=>match x with | .sc (.int _ v)=>v.toNat | _=>0) ∘ (fun n:Nat=>PV.sc (.int .u8 (n:Int)))=id:=by funext n;simp
 rw[show(VU ((fun x:PV=>match x with | .sc (.int _ v)=>v.toNat | _=>0) ∘ fun(n:Nat)=>PV.sc (.int .u8 (n:Int))) b)=VU id b by rw[this],List.map_id]
def fN (lo:Int) (n:Nat) (X:List PV):Nat:=fD 0 (fun l=>(kR lo l).length) X
def fX (lo:Int) (n:Nat) (X:List PV):List PV:=fD [] (fun l=>bt (kR lo l)) X
def fE (lo:Int) (n:Nat) (X:List PV):Int:=fD 0 (fun l=>CM lo l) X
theorem Qa (lo:Int) (n:Nat) (l:List Ins):fN lo n (aa l)=(kR lo l).length:=jZ _ _ l
theorem Qb (lo:Int) (n:Nat) (l:List Ins):fX lo n (aa l)=bt (kR lo l):=jZ _ _ l
theorem Qc (lo:Int) (n:Nat) (l:List Ins):fE lo n (aa l)=CM lo l:=jZ _ _ l
def yL (n:Nat) (X:List PV) (a:Int):Int:=kq (LD X) a.toNat
def yP (n:Nat) (X:List PV) (a:Int):Int:=xG (LD X) a.toNat
def yE (n:Nat) (X:List PV) (a:Int):Int:=tw (LD X) a.toNat
def yF (n:Nat) (X:List PV) (a:Int):Int:=Jb (LD X) a.toNat
def yN (n:Nat) (X:List PV) (a:Int):Nat:=(iy (LD X) a.toNat).length
def yX (n:Nat) (X:List PV) (a:Int):List PV:=aa (iy (LD X) a.toNat)
mutual
theorem K5 : ∀x:Ins,F6 fK x=true→jh x≤(gK x).length
 |.mk op r a b nn tg ll le,h=>by
  simp only[F6,dv] at h
  have f:=tr h.1
  have h1:=uZ ll h.2.1
  have h2:=uZ le h.2.2
  by_cases cR:dx op=true
  · have hop:=dV.1 cR
    have e:=f.2.2.2.2.2.2.2 (by omega)
    subst e
    rw[gK,if_pos cR]
    simp only[jh,pa,ei,VS]
    split
    · rename_i q
      have q:=List.length_eq_zero_iff.1 q
      subst q
      simp only[dL,VS] at h2 ⊢
      omega
    · simp only[pa];omega
  · have cR:dx op=false:=by simpa using cR
    have e1:=(f.2.2.1 cR).2
    have e2:=f.2.2.2.1 (fun q=>by rw[dV.2 (by omega)] at cR;cases cR)
    subst e1 e2
    rw[uX cR]
    by_cases j7:op=14
    · subst j7
      have : ∀tg:List Int,tg.length≤(tg.flatMap fun t=>pU 4 t.toNat).length:=fun tg=>by
       induction tg with
       |nil=>exact df _
       |cons t r ih=>
        have:=Ba 4 t.toNat
        simp only[List.flatMap_cons,ei,pa];omega
      have:=this tg
      unfold A0
      rw[if_neg (by decide),if_neg (by decide),if_pos rfl]
      simp only[jh,dL,pa,ei]
      omega
    · have e:=f.2.2.2.2.2.2.2 j7
      subst e
      simp only[jh,dL,pa,VS]
      omega
theorem uZ : ∀l:List Ins,qi fK l=true→dL l≤(fc l).length
 |[],_=>Vr _
 |x::r,h=>by
  simp only[qi,dv] at h
  have h1:=K5 x h.1
  have h2:=uZ r h.2
  simp only[dL,fc,ei]
  omega
end
theorem E1 (lo:Int) (l:List Ins) : ∀c∈kR lo l,c<256:=by
 unfold kR
 split
 · refine ir ?_ (K1 l)
   split
   · exact eN (by decide) iw
   · exact ir (eN (by decide) (mM _ _)) (eN (by decide) iw)
 · exact iw
theorem zM {lo:Int} {l:List Ins} {b:List Nat} {p:Nat} (h:CM lo l=0) (hw:tA l) (hd:Hd b p (kR lo l)):tw b p=0∧kq b p=lo∧iy b p=l∧xG b p=((p+(kR lo l).length:Nat):Int):=by
 obtain⟨q,k1,k2⟩:=K2 h hw hd
 have hlo:=(Bb h).1
 have hs:mK b q=⟨p+(kR lo l).length,0,0⟩:=by unfold mK;rw[k2]
 have hl:xy b q=l:=by unfold xy;rw[k2];rfl
 have g:EZ b p=true:=by unfold EZ;rw[k1];simp[hs]
 refine⟨CG.2 g,?_,?_,?_⟩
 · unfold kq;rw[g,if_pos rfl,k1];simp only;omega
 · unfold iy;rw[g,if_pos rfl,k1];exact hl
 · unfold xG;rw[g,if_pos rfl,k1];simp only[hs]
theorem K6 {c p:Nat} {b:List Nat} {x:Ins×RS} {go:List Fr→Fr→Nat→Nat→Option (List Ins)×RS} {fs:List Fr} {t:Fr} {many:Nat} (hr:x.2.p≤b.length) (hp:p<b.length) (ih : ∀fs t p' many,p'≤b.length→(go fs t p' many).2.p≤b.length) :
  (oa c x go fs t p many).2.p≤b.length:=by
 unfold oa
 split
 · split
   · exact hp
   · exact ih _ _ _ _ hp
 split
 · exact ih _ _ _ _ hp
 split
 · exact hp
 split
 · exact hp
 split
 · exact hr
 split
 · exact ih _ _ _ _ hr
 · exact ih _ _ _ _ hr
theorem Jd {b:List Nat} (hb : ∀x∈b,x<256) (hl:b.length≤1000000000) : ∀(m:Nat) (fs:List Fr) (t:Fr) (p many:Nat),p≤b.length→(cG b m fs t p many).2.p≤b.length
 |0,_,_,p,_,h=>by unfold cG;exact h
 |m+1,fs,t,p,many,h=>by
  by_cases hlt:p<b.length
  · rw[xz hlt]
    exact K6 (xw _ ⟨hb,hl,hlt⟩) hlt fun fs t p' many q=>Jd hb hl m fs t p' many q
  · unfold cG
    rw[if_pos (by omega)]
    exact h
theorem K7 {b:List Nat} {p:Nat} (h:cP b ⟨p,0,0⟩):cP b (mK b p):=⟨h.gi,h.len,Jd h.gi h.len _ _ _ _ _ h.p⟩
theorem E2 (lo:Int) (l:List Ins):(kR lo l).length≤10+(EY l).length:=by
 have:=nX 4 lo.toNat
 unfold kR
 split
 · rw[ei]
   split
   · simp only[WM];omega
   · simp only[pa,ei,VS];omega
 · simp
theorem DT {b:List Nat} (hb:cP b ⟨0,0,0⟩) (h3:b.length≤3000) (h:tw b 0=0) :
  tA (iy b 0)∧dL (iy b 0)≤1000000∧CM (kq b 0) (iy b 0)=0∧((kR (kq b 0) (iy b 0)).length:Int)≤xG b 0∧cP (kR (kq b 0) (iy b 0)) ⟨0,0,0⟩ ∧
  tw (kR (kq b 0) (iy b 0)) 0=0∧kq (kR (kq b 0) (iy b 0)) 0=kq b 0∧iy (kR (kq b 0) (iy b 0)) 0=iy b 0∧xG (kR (kq b 0) (iy b 0)) 0=((kR (kq b 0) (iy b 0)).length:Int):=by
 have g:=CG.1 h
 have g2:=g
 unfold EZ at g2
 simp only[dv,decide_eq_true_eq] at g2
 obtain⟨k1,k2,k3,k4⟩:=K3 hb g2.1 g2.2
 have e1:kq b 0=(ju b 0).1:=by unfold kq;rw[g,if_pos rfl]
 have e2:iy b 0=xy b (ju b 0).2.p:=by unfold iy;rw[g,if_pos rfl]
 have e3:xG b 0=((mK b (ju b 0).2.p).p:Int):=by unfold xG;rw[g,if_pos rfl]
 rw[←e1,←e2] at k3 k4
 rw[←e2] at k2
 have hlen:=E2 (kq b 0) (iy b 0)
 have hc:dL (iy b 0)≤1000000:=by
  have h1:=uZ _ k2.ok
  have h2:=(Bb k3).2.2
  have h4:(mK b (ju b 0).2.p).p≤b.length:=(K7 k1).p
  have h5:(fc (iy b 0)).length≤(kR (kq b 0) (iy b 0)).length:=by rw[h2];simp only[ei];omega
  omega
 have Fa:=DS hc
 obtain⟨r1,r2,r3,r4⟩:=zM (b:=kR (kq b 0) (iy b 0)) (p:=0) k3 k2.w ⟨[],by simp⟩
 refine⟨k2.w,hc,k3,by omega,⟨E1 _ _,by omega,Vr _⟩,r1,r2,r3,by rw[r4,sa]⟩
theorem Jp (lo:Int) (l:List Ins) (hl:l.length≤maxLen) (hw:tA l) (b:List Nat) (hb : ∀x∈b,x<256):aG ae env 7 [.agg [sI .i64 lo,aL l],.p (.ps b.length 1 (bt b))] [] (sB true) []:=by
 have CH:=og (dL l) l 2000 (df _) hl hw (by decide) (by decide)
 have cY:b7=70368744177664:=rfl
 refine ak cV (K4 lo l b.length (bt b) (fQ l 2000 0) fN fX fE yL yP yE yF yN yX) ?_
 have e9:PV.sc (yb IntKind.u8 9)::(List.append [] (bt (kR lo l))).append (bt b)=bt (9::(kR lo l++b)):=by simp[bt]
 simp only[Jc,xH,ct,aN.ok,implies_true,true_and,and_true,Qa,Qb,Qc,e9,yL,yP,yE,yF,yN,yX,NJ,Int.toNat_one,Int.toNat_zero]
 refine⟨DP,CH,fun h1 h2=> ?_⟩
 have h1:fQ l 2000 0≤2000:=by simp only[decide_eq_false_iff_not] at h1;omega
 have h2:b.length≤3000:=by simp only[decide_eq_false_iff_not] at h2;omega
 have c1:=rj l 2000 0 (by decide) (by decide) h1
 have hc:dL l≤1000000:=by omega
 have SY:=DS (l:=l) hc
 have hlen:=E2 lo l
 have sk:cP b ⟨0,0,0⟩:=⟨hb,by omega,Vr _⟩
 have tail:tw b 0=0→_:=DT sk h2
 have g0:aG ae env 21 [AV.p (PV.ps b.length 1 (bt b)),sI .i64 0] [] (F4 b 0) []:=jv sk
 have nf : ∀{p:Prop},(0:Int)≠0→p:=fun q=>absurd rfl q
 refine⟨A9 lo hw hc,fun h3=> ?_,fun _=>⟨g0,fun h5=> ?_⟩⟩
 · have he:CM lo l=0:=by simpa using h3
   have Ux:cP (9::(kR lo l++b)) ⟨1,0,0⟩:=⟨eN (by decide) (ir (E1 lo l) hb),by simp only[pa,ei];omega,by simp⟩
   obtain⟨r1,r2,r3,r4⟩:=zM (b:=9::(kR lo l++b)) (p:=1) he hw ⟨b,rfl⟩
   have g9:=aG.Rn (m:=[.tok]) (args:=[.os (some 0) (9::(kR lo l++b)).length 1 (bt (9::(kR lo l++b))),sI .i64 1]) (jv Ux) ⟨Ls.os (.refl _),Ls.p (.refl _),trivial⟩
   have w:vj.wrap (1+((kR lo l).length:Int))=((1+(kR lo l).length:Nat):Int):=by rw[aX (by omega) (by omega)];rfl
   have g9:aG ae env 21 [.os (some 0) (1+(kR lo l).length+b.length) 1 (bt (9::(kR lo l++b))),sI .i64 1] [.tok] (F4 (9::(kR lo l++b)) 1) [.tok]:=by
    have e:(9::(kR lo l++b)).length=1+(kR lo l).length+b.length:=by simp only[pa,ei];omega
    rw[e] at g9
    exact g9
   refine⟨by simp only[cY,V6,dv,and_true];omega,by simp only[cY,V6,dv,and_true];omega,g9,fun q=> ?_,fun _=>⟨fun q=> ?_,fun _=>⟨fun q=> ?_,fun _=>⟨?_,g0,fun h5=> ?_⟩⟩⟩⟩
   · rw[r1] at q;cases q
   · rw[r4,w] at q;simp at q
   · rw[r2] at q;simp at q
   · rw[r3];exact kf _ l (df _) hc
   · have Si:tw b 0=0:=by simpa using h5
     obtain⟨t1,t2,t3,t4,t5,t6,t7,t8,t9⟩:=tail Si
     refine⟨A9 _ t1 t2,jv t5,?_⟩
     rw[t3,t6,t7,t8,t9,decide_eq_true t4]
     simp only[beq_self_eq_true,true_implies,Wa,false_implies,and_true]
     exact kf _ _ (df _) t2
 · have Si:tw b 0=0:=by simpa using h5
   obtain⟨t1,t2,t3,t4,t5,t6,t7,t8,t9⟩:=tail Si
   refine⟨A9 _ t1 t2,jv t5,?_⟩
   rw[t3,t6,t7,t8,t9,decide_eq_true t4]
   simp only[beq_self_eq_true,true_implies,Wa,false_implies,and_true]
   exact kf _ _ (df _) t2
def oh:List (String×DataW Unit):=Rows.bodyBackRow.laid
theorem yy {W:World} (h:laidMetH ae oh W):jY tabs W:=by
 rw[MakeChecks.laidMetH_plain _ _ _ (by kernel_rfl)] at h
 exact yq (Cd (n:=256) (t:=125) (e:=5) (k:= .u8) (zs:=Hz) (Lib.laidMet.reads h (n:= "strings.asciiSpace") (d:=Rows.laid_strings_asciiSpace) (.tail _ (.head _))) (by kernel_rfl) (by kernel_rfl) (by kernel_rfl) (by kernel_rfl) (by kernel_rfl) (by kernel_rfl) (Nat.le_of_ble_eq_true (by kernel_rfl)))
  (AN)
end Go.Proofs.YtddfgnmjecogdaaDoor.N
end
section
namespace Go.Am
open Go.RowKit
section
variable {H:Type} {enc:TypeId×Value→H} {P:Program} {w:World} {base:Nat} {spare:Nat→Bool} {held:Bool} {tL tI ti tu tn tt:TypeId} {fs:Array Field}
theorem xI {g:Gh} {w:World} : ∀{l:List PV} {cs:List Value},rI g w l cs→bN g w (l.map .p) cs
 |[],[],_=>trivial
 |_::_,_::_,h=>⟨.p _ _ h.1,xI h.2⟩
 |[],_::_,h=>h.elim
 |_::_,[],h=>h.elim
end
section
variable {H:Type} {enc:TypeId×Value→H} {P:Program} {w:World} {base:Nat} {spare:Nat→Bool} {held:Bool}
theorem xN {t t1 t2:TypeId} {fs:Array Field} (ht:P.underlying t=some (.struct fs)) (hz:P.cellsOf t=2) (hf:(fs.toList.map fun f=>(f.offset,f.type))=[(0,t1),(1,t2)]) (h1:P.cellsOf t1=1) (h2:P.cellsOf t2=1)
  {fuel:Nat} {cs:List Value} {x:DataW H×List MemPlace} (h:DataW.trod enc P w base spare held fuel t cs=some x) :
  ∃u0 u1 m y0 y1,cs=[u0,u1]∧DataW.trod enc P w base spare held m t1 [u0]=some y0∧DataW.trod enc P w base spare held m t2 [u1]=some y1:=by
 obtain⟨m,rfl,hlen,hg⟩:=mQ ht h
 rw[hz] at hlen
 have get : ∀(i:Nat) (o t:Nat),[(0,t1),(1,t2)][i]? = some (o,t)→P.cellsOf t=1 → ∃y,DataW.trod enc P w base spare held m t ((cs.drop o).take 1)=some y:=by
  intro i o t hi hc
  obtain⟨f,q1,q2,q3⟩:=SK (fs:=fs) (i:=i) (by rw[hf];exact hi)
  obtain⟨y,hy⟩:=hg i f q1
  rw[q2,q3,hc] at hy
  exact⟨y,hy⟩
 obtain⟨y0,e0⟩:=get 0 0 t1 rfl h1
 obtain⟨y1,e1⟩:=get 1 1 t2 rfl h2
 match cs,hlen with
 |[u0,u1],_=>exact⟨u0,u1,m,y0,y1,rfl,e0,e1⟩
theorem LF {g:Gh} {w:World} {l:List PV} {cs:Array Value} (h:rI g w l cs.toList):VA g w (.agg (l.map .p)) (.agg cs):=by
 rw[VA.vr]
 exact xI h
end
end Go.Am
end
