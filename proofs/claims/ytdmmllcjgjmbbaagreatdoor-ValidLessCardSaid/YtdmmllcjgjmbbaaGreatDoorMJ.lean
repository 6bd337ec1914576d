import Derived.Test.YtdmmllcjgjmbbaaGreatDoorMH
import Derived.Test.YtdmmllcjgjmbbaaGreatDoorMI
open Go.Proofs.Tryz renaming prog→acb
open List renaming length_append→di,getElem?_eq_getElem→cb,flatMap→aem,getElem?_eq_some_iff→dp,nil_append→QP,drop_zero→ab1,getD_eq_getElem?_getD→ch,length_nil→ab4,map→ab6
open Go.IntKind renaming i64→sb,u32→abY
open Option renaming none→acg,some→aci,getD_some→ic
open Int renaming toNat_natCast→acy
open Bool renaming and_eq_true→c8,and_true→aeq,eq_iff_iff→aet,or_eq_true→il,true_and→aeM
open Nat renaming ble_eq→aeN,beq→ae
open ByteArray renaming mk→aeO
noncomputable section
section
set_option linter.unusedSimpArgs false
set_option linter.unusedVariables false
namespace Go.Proofs.YtdmmllcjgjmbbaaGreatDoor.N
open Go Go.Am
def Vg:bH:=aT aH aA [(56,0)] [] []
def Zz:Sc:= .fin
def Q4 (M:Mo):az:=
 (.at (ak acb env 56 0 [.mp 0 0,xQ,.p (.ps M.aQ.length 3 (aem bK M.aQ)),sI .i64 (↑M.aQ.length:Int),sI .i64 0] ([.pc M.aI]) 0 37))
theorem Mp (M:Mo):aG acb env Vg 1000000 56 ([AV.agg (ab6 AV.p M.aI)]) ([]) Zz=Q4 M:=by kernel_rfl
def Vh:bH:=aT aH aA [(34,0)] [] []
def ZA:Sc:= .fin
def Q5 (M:Mo):az:=
 (.at (ak acb env 34 0 [.mp 0 0,xQ,.p (.ps M.fns.length 3 (aem bG M.fns)),sI .i64 (↑M.fns.length:Int),sI .i64 0] ([.pc M.aI]) 0 66))
theorem Mq (M:Mo):aG acb env Vh 1000000 34 ([AV.agg (ab6 AV.p M.aI)]) ([]) ZA=Q5 M:=by kernel_rfl
def Q6:bH:=aT aH aA [(56,0),(56,2)] [(56,0,1)] [(56,5,0),(56,5,1)]
def Vi:Sc:= .fin
def x7 (M:Mo) (n:Nat) (k:Nat) (i:Nat) (cs:List PV) (a:List PV):az:=
 (.test (decide ((↑i:Int)<(↑k:Int)))
 (.must (aW (↑i:Int) k&&true&&true)
 (.must (isStr (aF cs (aJ i*3))&&(isStr (aF cs (aJ i*3+1))&&(isInt sb (aF cs (aJ i*3+1+1))&&true))&&true)
 (.at (ak acb env 56 0 [.mp 0 0,.os (some 1) 2 1 [.sc (.string (br (aF cs (aJ i*3)))),.sc (.string (br (aF cs (aJ i*3+1))))],.p (.ps k 3 cs),sI .i64 (↑k:Int),sI .i64 (sb.wrap ((↑i:Int)+1))] ([.pc M.aI,.tok]) 0 37))))
 (.at (ak acb env 56 2 [xQ,.p (.ps M.exs.length 3 (aem aS M.exs)),sI .i64 (↑M.exs.length:Int),sI .i64 0] ([]) 0 37)))
theorem AN (M:Mo) (n:Nat) (k:Nat) (i:Nat) (cs:List PV) (a:List PV):grow acb env Q6 1000000 true (ak acb env 56 0 ([AV.mp 0 0,AV.os acg 0 0 [],AV.p (PV.ps k 3 cs),sI sb (↑k:Int),sI sb (↑i:Int)]) ([aU.pc M.aI]) 0 37) Vi atEnd=x7 M n k i cs a:=by kernel_rfl
def Q7:bH:=aT aH aA [(56,0),(56,2)] [(56,0,1)] [(56,5,0),(56,5,1),(56,6,6)]
def Vj:Sc:= .fin
def x8 (M:Mo) (n:Nat) (k:Nat) (i:Nat) (cs:List PV) (a:List PV):az:=
 (.test (decide ((↑i:Int)<(↑k:Int)))
 (.must (aW (↑i:Int) k&&true&&true)
 (.must (isStr (aF cs (aJ i*3))&&(isStr (aF cs (aJ i*3+1))&&(isInt sb (aF cs (aJ i*3+1+1))&&true))&&true)
 (.must (((n+2)*16).ble gi&&(n+2).ble gi&&true)
 (.at (ak acb env 56 0 [.mp 0 0,.os (some 1) (n+2) 1 (a++[.sc (.string (br (aF cs (aJ i*3)))),.sc (.string (br (aF cs (aJ i*3+1))))]),.p (.ps k 3 cs),sI .i64 (↑k:Int),sI .i64 (sb.wrap ((↑i:Int)+1))] ([.pc M.aI,.tok]) 0 37)))))
 (.at (ak acb env 56 2 [.os (some 0) n 1 a,.p (.ps M.exs.length 3 (aem aS M.exs)),sI .i64 (↑M.exs.length:Int),sI .i64 0] ([.tok]) 0 37)))
theorem AO (M:Mo) (n:Nat) (k:Nat) (i:Nat) (cs:List PV) (a:List PV):grow acb env Q7 1000000 true (ak acb env 56 0 ([AV.mp 0 0,AV.os (aci 1) n 1 a,AV.p (PV.ps k 3 cs),sI sb (↑k:Int),sI sb (↑i:Int)]) ([aU.pc M.aI,aU.tok]) 0 37) Vj atEnd=x8 M n k i cs a:=by kernel_rfl
def Q8:bH:=aT aH aA [(56,0),(56,2)] [(56,0,3)] [(56,10,0),(56,10,1)]
def Vk:Sc:= .fin
def x9 (n:Nat) (k:Nat) (i:Nat) (cs:List PV) (a:List PV):az:=
 (.test (decide ((↑i:Int)<(↑k:Int)))
 (.must (aW (↑i:Int) k&&true&&true)
 (.must (isStr (aF cs (aJ i*3))&&(isInt sb (aF cs (aJ i*3+1))&&(isInt abY (aF cs (aJ i*3+1+1))&&true))&&true)
 (.at (ak acb env 56 2 [.os (some 0) 1 1 [.sc (.string (br (aF cs (aJ i*3))))],.p (.ps k 3 cs),sI .i64 (↑k:Int),sI .i64 (sb.wrap ((↑i:Int)+1))] ([.tok]) 0 37))))
 (.out (.ret (xQ) [])))
theorem AP (n:Nat) (k:Nat) (i:Nat) (cs:List PV) (a:List PV):grow acb env Q8 1000000 true (ak acb env 56 2 ([AV.os acg 0 0 [],AV.p (PV.ps k 3 cs),sI sb (↑k:Int),sI sb (↑i:Int)]) ([]) 0 37) Vk atEnd=x9 n k i cs a:=by kernel_rfl
def Q9:bH:=aT aH aA [(56,0),(56,2)] [(56,0,3)] [(56,10,0),(56,10,1),(56,11,4)]
def Vl:Sc:= .fin
def ya (n:Nat) (k:Nat) (i:Nat) (cs:List PV) (a:List PV):az:=
 (.test (decide ((↑i:Int)<(↑k:Int)))
 (.must (aW (↑i:Int) k&&true&&true)
 (.must (isStr (aF cs (aJ i*3))&&(isInt sb (aF cs (aJ i*3+1))&&(isInt abY (aF cs (aJ i*3+1+1))&&true))&&true)
 (.must (((n+1)*16).ble gi&&(n+1).ble gi&&true)
 (.at (ak acb env 56 2 [.os (some 0) (n+1) 1 (a++[.sc (.string (br (aF cs (aJ i*3))))]),.p (.ps k 3 cs),sI .i64 (↑k:Int),sI .i64 (sb.wrap ((↑i:Int)+1))] ([.tok]) 0 37)))))
 (.out (.ret (.os (some 0) n 1 a) [.tok])))
theorem AQ (n:Nat) (k:Nat) (i:Nat) (cs:List PV) (a:List PV):grow acb env Q9 1000000 true (ak acb env 56 2 ([AV.os (aci 0) n 1 a,AV.p (PV.ps k 3 cs),sI sb (↑k:Int),sI sb (↑i:Int)]) ([aU.tok]) 0 37) Vl atEnd=ya n k i cs a:=by kernel_rfl
def Ra:bH:=aT aH aA [(34,0),(34,2)] [(34,0,1)] [(34,5,0),(34,5,1)]
def Vm:Sc:= .fin
def yc (M:Mo) (n:Nat) (k:Nat) (i:Nat) (cs:List PV) (a:List PV):az:=
 (.test (decide ((↑i:Int)<(↑k:Int)))
 (.must (aW (↑i:Int) k&&true&&true)
 (.must (isInt sb (aF cs (aJ i*3))&&(isInt sb (aF cs (aJ i*3+1))&&(bB (aF cs (aJ i*3+1+1))&&true))&&true)
 (.at (ak acb env 34 0 [.mp 0 0,.os (some 1) 1 1 [.ps (aE (aF cs (aJ i*3+1+1))) (bC (aF cs (aJ i*3+1+1))) (aB (aF cs (aJ i*3+1+1)))],.p (.ps k 3 cs),sI .i64 (↑k:Int),sI .i64 (sb.wrap ((↑i:Int)+1))] ([.pc M.aI,.tok]) 0 66))))
 (.at (ak acb env 34 2 [.mp 0 0,xQ,.p (.ps M.gls.length 2 (aem dD M.gls)),sI .i64 (↑M.gls.length:Int),sI .i64 0] ([.pc M.aI]) 0 66)))
theorem AR (M:Mo) (n:Nat) (k:Nat) (i:Nat) (cs:List PV) (a:List PV):grow acb env Ra 1000000 true (ak acb env 34 0 ([AV.mp 0 0,AV.os acg 0 0 [],AV.p (PV.ps k 3 cs),sI sb (↑k:Int),sI sb (↑i:Int)]) ([aU.pc M.aI]) 0 66) Vm atEnd=yc M n k i cs a:=by kernel_rfl
def Rb:bH:=aT aH aA [(34,0),(34,2)] [(34,0,1)] [(34,5,0),(34,5,1),(34,6,5)]
def Vn:Sc:= .fin
def yd (M:Mo) (n:Nat) (k:Nat) (i:Nat) (cs:List PV) (a:List PV):az:=
 (.test (decide ((↑i:Int)<(↑k:Int)))
 (.must (aW (↑i:Int) k&&true&&true)
 (.must (isInt sb (aF cs (aJ i*3))&&(isInt sb (aF cs (aJ i*3+1))&&(bB (aF cs (aJ i*3+1+1))&&true))&&true)
 (.must (((n+1)*24).ble gi&&(n+1).ble gi&&true)
 (.at (ak acb env 34 0 [.mp 0 0,.os (some 1) (n+1) 1 (a++[.ps (aE (aF cs (aJ i*3+1+1))) (bC (aF cs (aJ i*3+1+1))) (aB (aF cs (aJ i*3+1+1)))]),.p (.ps k 3 cs),sI .i64 (↑k:Int),sI .i64 (sb.wrap ((↑i:Int)+1))] ([.pc M.aI,.tok]) 0 66)))))
 (.at (ak acb env 34 2 [.mp 0 0,.os (some 1) n 1 a,.p (.ps M.gls.length 2 (aem dD M.gls)),sI .i64 (↑M.gls.length:Int),sI .i64 0] ([.pc M.aI,.tok]) 0 66)))
theorem AS (M:Mo) (n:Nat) (k:Nat) (i:Nat) (cs:List PV) (a:List PV):grow acb env Rb 1000000 true (ak acb env 34 0 ([AV.mp 0 0,AV.os (aci 1) n 1 a,AV.p (PV.ps k 3 cs),sI sb (↑k:Int),sI sb (↑i:Int)]) ([aU.pc M.aI,aU.tok]) 0 66) Vn atEnd=yd M n k i cs a:=by kernel_rfl
def Rc:bH:=aT aH aA [(34,2),(34,4)] [(34,0,3)] [(34,10,0),(34,10,1)]
def Vo:Sc:= .fin
def yf (M:Mo) (n:Nat) (k:Nat) (i:Nat) (cs:List PV) (a:List PV):az:=
 (.test (decide ((↑i:Int)<(↑k:Int)))
 (.must (aW (↑i:Int) k&&true&&true)
 (.must (isBool (aF cs (aJ i*2))&&(bB (aF cs (aJ i*2+1))&&true)&&true)
 (.at (ak acb env 34 2 [.mp 0 0,.os (some 1) 1 1 [.ps (aE (aF cs (aJ i*2+1))) (bC (aF cs (aJ i*2+1))) (aB (aF cs (aJ i*2+1)))],.p (.ps k 2 cs),sI .i64 (↑k:Int),sI .i64 (sb.wrap ((↑i:Int)+1))] ([.pc M.aI,.tok]) 0 66))))
 (.at (ak acb env 34 4 [.mp 0 0,xQ,.p (.ps M.els.length 2 (aem bA M.els)),sI .i64 (↑M.els.length:Int),sI .i64 0] ([.pc M.aI]) 0 66)))
theorem AT (M:Mo) (n:Nat) (k:Nat) (i:Nat) (cs:List PV) (a:List PV):grow acb env Rc 1000000 true (ak acb env 34 2 ([AV.mp 0 0,AV.os acg 0 0 [],AV.p (PV.ps k 2 cs),sI sb (↑k:Int),sI sb (↑i:Int)]) ([aU.pc M.aI]) 0 66) Vo atEnd=yf M n k i cs a:=by kernel_rfl
def Rd:bH:=aT aH aA [(34,2),(34,4)] [(34,0,3)] [(34,10,0),(34,10,1),(34,11,4)]
def Vp:Sc:= .fin
def yg (M:Mo) (n:Nat) (k:Nat) (i:Nat) (cs:List PV) (a:List PV):az:=
 (.test (decide ((↑i:Int)<(↑k:Int)))
 (.must (aW (↑i:Int) k&&true&&true)
 (.must (isBool (aF cs (aJ i*2))&&(bB (aF cs (aJ i*2+1))&&true)&&true)
 (.must (((n+1)*24).ble gi&&(n+1).ble gi&&true)
 (.at (ak acb env 34 2 [.mp 0 0,.os (some 1) (n+1) 1 (a++[.ps (aE (aF cs (aJ i*2+1))) (bC (aF cs (aJ i*2+1))) (aB (aF cs (aJ i*2+1)))]),.p (.ps k 2 cs),sI .i64 (↑k:Int),sI .i64 (sb.wrap ((↑i:Int)+1))] ([.pc M.aI,.tok]) 0 66)))))
 (.at (ak acb env 34 4 [.mp 0 0,.os (some 1) n 1 a,.p (.ps M.els.length 2 (aem bA M.els)),sI .i64 (↑M.els.length:Int),sI .i64 0] ([.pc M.aI,.tok]) 0 66)))
theorem AU (M:Mo) (n:Nat) (k:Nat) (i:Nat) (cs:List PV) (a:List PV):grow acb env Rd 1000000 true (ak acb env 34 2 ([AV.mp 0 0,AV.os (aci 1) n 1 a,AV.p (PV.ps k 2 cs),sI sb (↑k:Int),sI sb (↑i:Int)]) ([aU.pc M.aI,aU.tok]) 0 66) Vp atEnd=yg M n k i cs a:=by kernel_rfl
def Re:bH:=aT aH aA [(34,4),(34,6)] [(34,0,5)] [(34,15,0),(34,15,1)]
def Vq:Sc:= .fin
def yh (M:Mo) (n:Nat) (k:Nat) (i:Nat) (cs:List PV) (a:List PV):az:=
 (.test (decide ((↑i:Int)<(↑k:Int)))
 (.must (aW (↑i:Int) k&&true&&true)
 (.must (bB (aF cs (aJ i*2))&&(bB (aF cs (aJ i*2+1))&&true)&&true)
 (.at (ak acb env 34 4 [.mp 0 0,.os (some 1) 1 1 [.ps (aE (aF cs (aJ i*2))) (bC (aF cs (aJ i*2))) (aB (aF cs (aJ i*2)))],.p (.ps k 2 cs),sI .i64 (↑k:Int),sI .i64 (sb.wrap ((↑i:Int)+1))] ([.pc M.aI,.tok]) 0 66))))
 (.at (ak acb env 34 6 [xQ,.p (.ps M.bk.length 2 (aem bU M.bk)),sI .i64 (↑M.bk.length:Int),sI .i64 0] ([]) 0 66)))
theorem AW (M:Mo) (n:Nat) (k:Nat) (i:Nat) (cs:List PV) (a:List PV):grow acb env Re 1000000 true (ak acb env 34 4 ([AV.mp 0 0,AV.os acg 0 0 [],AV.p (PV.ps k 2 cs),sI sb (↑k:Int),sI sb (↑i:Int)]) ([aU.pc M.aI]) 0 66) Vq atEnd=yh M n k i cs a:=by kernel_rfl
def Rf:bH:=aT aH aA [(34,4),(34,6)] [(34,0,5)] [(34,15,0),(34,15,1),(34,16,4)]
def Vr:Sc:= .fin
def yj (M:Mo) (n:Nat) (k:Nat) (i:Nat) (cs:List PV) (a:List PV):az:=
 (.test (decide ((↑i:Int)<(↑k:Int)))
 (.must (aW (↑i:Int) k&&true&&true)
 (.must (bB (aF cs (aJ i*2))&&(bB (aF cs (aJ i*2+1))&&true)&&true)
 (.must (((n+1)*24).ble gi&&(n+1).ble gi&&true)
 (.at (ak acb env 34 4 [.mp 0 0,.os (some 1) (n+1) 1 (a++[.ps (aE (aF cs (aJ i*2))) (bC (aF cs (aJ i*2))) (aB (aF cs (aJ i*2)))]),.p (.ps k 2 cs),sI .i64 (↑k:Int),sI .i64 (sb.wrap ((↑i:Int)+1))] ([.pc M.aI,.tok]) 0 66)))))
 (.at (ak acb env 34 6 [.os (some 0) n 1 a,.p (.ps M.bk.length 2 (aem bU M.bk)),sI .i64 (↑M.bk.length:Int),sI .i64 0] ([.tok]) 0 66)))
theorem AX (M:Mo) (n:Nat) (k:Nat) (i:Nat) (cs:List PV) (a:List PV):grow acb env Rf 1000000 true (ak acb env 34 4 ([AV.mp 0 0,AV.os (aci 1) n 1 a,AV.p (PV.ps k 2 cs),sI sb (↑k:Int),sI sb (↑i:Int)]) ([aU.pc M.aI,aU.tok]) 0 66) Vr atEnd=yj M n k i cs a:=by kernel_rfl
def Rg:bH:=aT aH aA [(34,6)] [(34,0,7)] [(34,20,0),(34,20,1)]
def Vs:Sc:= .fin
def yl (n:Nat) (k:Nat) (i:Nat) (cs:List PV) (a:List PV):az:=
 (.test (decide ((↑i:Int)<(↑k:Int)))
 (.must (aW (↑i:Int) k&&true&&true)
 (.must (bB (aF cs (aJ i*2))&&(bB (aF cs (aJ i*2+1))&&true)&&true)
 (.at (ak acb env 34 6 [.os (some 0) 1 1 [.ps (aE (aF cs (aJ i*2))) (bC (aF cs (aJ i*2))) (aB (aF cs (aJ i*2)))],.p (.ps k 2 cs),sI .i64 (↑k:Int),sI .i64 (sb.wrap ((↑i:Int)+1))] ([.tok]) 0 66))))
 (.out (.ret (xQ) [])))
theorem AY (n:Nat) (k:Nat) (i:Nat) (cs:List PV) (a:List PV):grow acb env Rg 1000000 true (ak acb env 34 6 ([AV.os acg 0 0 [],AV.p (PV.ps k 2 cs),sI sb (↑k:Int),sI sb (↑i:Int)]) ([]) 0 66) Vs atEnd=yl n k i cs a:=by kernel_rfl
def Rh:bH:=aT aH aA [(34,6)] [(34,0,7)] [(34,20,0),(34,20,1),(34,21,4)]
def Vt:Sc:= .fin
def ym (n:Nat) (k:Nat) (i:Nat) (cs:List PV) (a:List PV):az:=
 (.test (decide ((↑i:Int)<(↑k:Int)))
 (.must (aW (↑i:Int) k&&true&&true)
 (.must (bB (aF cs (aJ i*2))&&(bB (aF cs (aJ i*2+1))&&true)&&true)
 (.must (((n+1)*24).ble gi&&(n+1).ble gi&&true)
 (.at (ak acb env 34 6 [.os (some 0) (n+1) 1 (a++[.ps (aE (aF cs (aJ i*2))) (bC (aF cs (aJ i*2))) (aB (aF cs (aJ i*2)))]),.p (.ps k 2 cs),sI .i64 (↑k:Int),sI .i64 (sb.wrap ((↑i:Int)+1))] ([.tok]) 0 66)))))
 (.out (.ret (.os (some 0) n 1 a) [.tok])))
theorem AZ (n:Nat) (k:Nat) (i:Nat) (cs:List PV) (a:List PV):grow acb env Rh 1000000 true (ak acb env 34 6 ([AV.os (aci 0) n 1 a,AV.p (PV.ps k 2 cs),sI sb (↑k:Int),sI sb (↑i:Int)]) ([aU.tok]) 0 66) Vt atEnd=ym n k i cs a:=by kernel_rfl
structure _root_.Go.Am.Mo.fit (M:Mo):Prop where
 tys:M.tys.length≤1000000
 aQ:M.aQ.length≤1000000
 fns:M.fns.length≤1000000
 fR:M.fR.length≤1000000
 gA:M.gA.length≤1000000
 gls:M.gls.length≤1000000
 exs:M.exs.length≤1000000
 els:M.els.length≤1000000
 bk:M.bk.length≤1000000
theorem JE:(1000000000:Nat)≤gi:=Nat.le_of_ble_eq_true (by kernel_rfl)
theorem oX {α:Type} {l:List α} {f:α→List PV} {D:List PV→Nat→cw} {K:List PV→Prop} {o:Out} {B:Nat}
  (step : ∀(a:List PV) (i:Nat) (x:α),l[i]? = some x→(a++f x).length≤B→cO acb env (D (a++f x) (i+1)) o→cO acb env (D a i) o)
  (fin : ∀a:List PV,K a→cO acb env (D a l.length) o) :
  ∀(r i:Nat) (a:List PV),i+r=l.length→(a++(l.drop i).flatMap f).length≤B→K (a++(l.drop i).flatMap f)→cO acb env (D a i) o:=by
 intro r
 induction r with
 |zero=>
  intro i a hi hB h
  obtain rfl:i=l.length:=by omega
  rw[List.drop_length,List.flatMap_nil,List.append_nil] at h
  exact fin a h
 |succ r ih=>
  intro i a hi hB h
  have hl:i<l.length:=by omega
  rw[List.drop_eq_getElem_cons hl,List.flatMap_cons,←List.append_assoc] at h hB
  refine step a i l[i] (cb hl) ?_ (ih (i+1) _ (by omega) hB h)
  rw[di] at hB
  omega
def Mr (a:List PV):Out:=if a=[] then .ret (.os none 0 0 []) [] else .ret (.os (some 0) a.length 1 a) [.tok]
def TN (x:Im):List PV:=[.sc (.string x.mo),.sc (.string x.nm)]
def Yp (x:Ex):List PV:=[.sc (.string x.nm)]
def TO (x:Fu):List PV:=[pL x.l]
def Vu (x:Gl):List PV:=[pL x.l]
def Yq (x:El):List PV:=[pL x.l]
def ZB (x:Da):List PV:=[pL x.l]
def JF (M:Mo) (a:List PV) (i:Nat):cw:=
 if a=[] then ak acb env 56 0 [.mp 0 0,.os none 0 0 [],.p (.ps M.aQ.length 3 (M.aQ.flatMap bK)),sI .i64 M.aQ.length,sI .i64 i] [.pc M.aI] 0 37
 else ak acb env 56 0 [.mp 0 0,.os (some 1) a.length 1 a,.p (.ps M.aQ.length 3 (M.aQ.flatMap bK)),sI .i64 M.aQ.length,sI .i64 i] [.pc M.aI,.tok] 0 37
def Gg (M:Mo) (a:List PV) (i:Nat):cw:=
 if a=[] then ak acb env 56 2 [.os none 0 0 [],.p (.ps M.exs.length 3 (M.exs.flatMap aS)),sI .i64 M.exs.length,sI .i64 i] [] 0 37
 else ak acb env 56 2 [.os (some 0) a.length 1 a,.p (.ps M.exs.length 3 (M.exs.flatMap aS)),sI .i64 M.exs.length,sI .i64 i] [.tok] 0 37
theorem JG (M:Mo) (hM:M.fit) (o:Out) (a:List PV) (i:Nat) (x:Im) (hx:M.aQ[i]? = some x) (hB:(a++TN x).length≤10000000) (h:cO acb env (JF M (a++TN x) (i+1)) o):cO acb env (JF M a i) o:=by
 have hi:i<M.aQ.length:=(dp.1 hx).1
 have c:=bp (z:=3) (enc:=bK) (fun _=>rfl) hx
 have c0:(M.aQ.flatMap bK).getD (i*3) .bw = .sc (.string x.mo):=c 0 (by decide)
 have c1:(M.aQ.flatMap bK).getD (i*3+1) .bw = .sc (.string x.nm):=c 1 (by decide)
 have c2:(M.aQ.flatMap bK).getD (i*3+1+1) .bw = .sc (.int .i64 x.ty):=c 2 (by decide)
 have hl:=hM.aQ
 have hL:=JE
 have w:sb.wrap ((i:Int)+1)=((i+1:Nat):Int):=by rw[aN (by omega) (by omega)];rfl
 have hd:decide ((i:Int)<(M.aQ.length:Int))=true:=by simp;omega
 unfold JF at h ⊢
 by_cases e:a=[]
 · subst e
   rw[if_neg (by simp[TN]),QP] at h
   rw[if_pos rfl]
   refine aj aM (AN M 0 M.aQ.length i (M.aQ.flatMap bK) []) ?_
   simp only[x7,bF,az.ok,isStr,isInt,bB,isBool,br,av,bD,aE,bC,aB,aW,acy,c0,c1,c2,hd,w]
   exact⟨fun _=>⟨by first | (simp;done) | (simp;omega),rfl,h⟩,fun q=>by cases q⟩
 · rw[if_neg (by simp[e])] at h
   rw[if_neg e]
   refine aj aM (AO M a.length M.aQ.length i (M.aQ.flatMap bK) a) ?_
   rw[di] at h hB
   have hB:a.length+2≤10000000:=hB
   simp only[x8,bF,az.ok,isStr,isInt,bB,isBool,br,av,bD,aE,bC,aB,aW,acy,c0,c1,c2,hd,w]
   exact⟨fun _=>⟨by first | (simp;done) | (simp;omega),rfl,by simp only[aeq,c8,aeN];omega,h⟩,fun q=>by cases q⟩
theorem Ms (M:Mo) (o:Out) (a:List PV) (h:cO acb env (Gg M a 0) o):cO acb env (JF M a M.aQ.length) o:=by
 have hd:decide ((M.aQ.length:Int)<(M.aQ.length:Int))=false:=by simp
 unfold Gg at h
 unfold JF
 by_cases e:a=[]
 · subst e
   rw[if_pos rfl] at h ⊢
   refine aj aM (AN M 0 M.aQ.length M.aQ.length (M.aQ.flatMap bK) []) ?_
   simp only[x7,bF,az.ok,hd]
   exact⟨fun q=>(by cases q),fun _=>h⟩
 · rw[if_neg e] at h ⊢
   refine aj aM (AO M a.length M.aQ.length M.aQ.length (M.aQ.flatMap bK) a) ?_
   simp only[x8,bF,az.ok,hd]
   exact⟨fun q=>(by cases q),fun _=>h⟩
theorem JH (M:Mo) (hM:M.fit) (o:Out) (a:List PV) (i:Nat) (x:Ex) (hx:M.exs[i]? = some x) (hB:(a++Yp x).length≤10000000) (h:cO acb env (Gg M (a++Yp x) (i+1)) o):cO acb env (Gg M a i) o:=by
 have hi:i<M.exs.length:=(dp.1 hx).1
 have c:=bp (z:=3) (enc:=aS) (fun _=>rfl) hx
 have c0:(M.exs.flatMap aS).getD (i*3) .bw = .sc (.string x.nm):=c 0 (by decide)
 have c1:(M.exs.flatMap aS).getD (i*3+1) .bw = .sc (.int .i64 x.kind):=c 1 (by decide)
 have c2:(M.exs.flatMap aS).getD (i*3+1+1) .bw = .sc (.int .u32 x.ix):=c 2 (by decide)
 have hl:=hM.exs
 have hL:=JE
 have w:sb.wrap ((i:Int)+1)=((i+1:Nat):Int):=by rw[aN (by omega) (by omega)];rfl
 have hd:decide ((i:Int)<(M.exs.length:Int))=true:=by simp;omega
 unfold Gg at h ⊢
 by_cases e:a=[]
 · subst e
   rw[if_neg (by simp[Yp]),QP] at h
   rw[if_pos rfl]
   refine aj aM (AP 0 M.exs.length i (M.exs.flatMap aS) []) ?_
   simp only[x9,bF,az.ok,isStr,isInt,bB,isBool,br,av,bD,aE,bC,aB,aW,acy,c0,c1,c2,hd,w]
   exact⟨fun _=>⟨by first | (simp;done) | (simp;omega),rfl,h⟩,fun q=>by cases q⟩
 · rw[if_neg (by simp[e])] at h
   rw[if_neg e]
   refine aj aM (AQ a.length M.exs.length i (M.exs.flatMap aS) a) ?_
   rw[di] at h hB
   have hB:a.length+1≤10000000:=hB
   simp only[ya,bF,az.ok,isStr,isInt,bB,isBool,br,av,bD,aE,bC,aB,aW,acy,c0,c1,c2,hd,w]
   exact⟨fun _=>⟨by first | (simp;done) | (simp;omega),rfl,by simp only[aeq,c8,aeN];omega,h⟩,fun q=>by cases q⟩
theorem Mt (M:Mo) (o:Out) (a:List PV) (h:Mr a=o):cO acb env (Gg M a M.exs.length) o:=by
 have hd:decide ((M.exs.length:Int)<(M.exs.length:Int))=false:=by simp
 unfold Mr at h
 unfold Gg
 by_cases e:a=[]
 · subst e
   rw[if_pos rfl] at h ⊢
   refine aj aM (AP 0 M.exs.length M.exs.length (M.exs.flatMap aS) []) ?_
   simp only[x9,bF,az.ok,hd]
   exact⟨fun q=>(by cases q),fun _=>h⟩
 · rw[if_neg e] at h ⊢
   refine aj aM (AQ a.length M.exs.length M.exs.length (M.exs.flatMap aS) a) ?_
   simp only[ya,bF,az.ok,hd]
   exact⟨fun q=>(by cases q),fun _=>h⟩
def JI (M:Mo) (a:List PV) (i:Nat):cw:=
 if a=[] then ak acb env 34 0 [.mp 0 0,.os none 0 0 [],.p (.ps M.fns.length 3 (M.fns.flatMap bG)),sI .i64 M.fns.length,sI .i64 i] [.pc M.aI] 0 66
 else ak acb env 34 0 [.mp 0 0,.os (some 1) a.length 1 a,.p (.ps M.fns.length 3 (M.fns.flatMap bG)),sI .i64 M.fns.length,sI .i64 i] [.pc M.aI,.tok] 0 66
def Gi (M:Mo) (a:List PV) (i:Nat):cw:=
 if a=[] then ak acb env 34 2 [.mp 0 0,.os none 0 0 [],.p (.ps M.gls.length 2 (M.gls.flatMap dD)),sI .i64 M.gls.length,sI .i64 i] [.pc M.aI] 0 66
 else ak acb env 34 2 [.mp 0 0,.os (some 1) a.length 1 a,.p (.ps M.gls.length 2 (M.gls.flatMap dD)),sI .i64 M.gls.length,sI .i64 i] [.pc M.aI,.tok] 0 66
def Gj (M:Mo) (a:List PV) (i:Nat):cw:=
 if a=[] then ak acb env 34 4 [.mp 0 0,.os none 0 0 [],.p (.ps M.els.length 2 (M.els.flatMap bA)),sI .i64 M.els.length,sI .i64 i] [.pc M.aI] 0 66
 else ak acb env 34 4 [.mp 0 0,.os (some 1) a.length 1 a,.p (.ps M.els.length 2 (M.els.flatMap bA)),sI .i64 M.els.length,sI .i64 i] [.pc M.aI,.tok] 0 66
def Gk (M:Mo) (a:List PV) (i:Nat):cw:=
 if a=[] then ak acb env 34 6 [.os none 0 0 [],.p (.ps M.bk.length 2 (M.bk.flatMap bU)),sI .i64 M.bk.length,sI .i64 i] [] 0 66
 else ak acb env 34 6 [.os (some 0) a.length 1 a,.p (.ps M.bk.length 2 (M.bk.flatMap bU)),sI .i64 M.bk.length,sI .i64 i] [.tok] 0 66
theorem JJ (M:Mo) (hM:M.fit) (o:Out) (a:List PV) (i:Nat) (x:Fu) (hx:M.fns[i]? = some x) (hB:(a++TO x).length≤10000000) (h:cO acb env (JI M (a++TO x) (i+1)) o):cO acb env (JI M a i) o:=by
 have hi:i<M.fns.length:=(dp.1 hx).1
 have c:=bp (z:=3) (enc:=bG) (fun _=>rfl) hx
 have c0:(M.fns.flatMap bG).getD (i*3) .bw = .sc (.int .i64 x.ty):=c 0 (by decide)
 have c1:(M.fns.flatMap bG).getD (i*3+1) .bw = .sc (.int .i64 x.lo):=c 1 (by decide)
 have c2:(M.fns.flatMap bG).getD (i*3+1+1) .bw=pL x.l:=c 2 (by decide)
 have hl:=hM.fns
 have hL:=JE
 have w:sb.wrap ((i:Int)+1)=((i+1:Nat):Int):=by rw[aN (by omega) (by omega)];rfl
 have hd:decide ((i:Int)<(M.fns.length:Int))=true:=by simp;omega
 unfold JI at h ⊢
 by_cases e:a=[]
 · subst e
   rw[if_neg (by simp[TO]),QP] at h
   rw[if_pos rfl]
   refine aj aM (AR M 0 M.fns.length i (M.fns.flatMap bG) []) ?_
   simp only[yc,bF,az.ok,isStr,isInt,bB,isBool,br,av,bD,aE,bC,aB,aW,acy,c0,c1,c2,hd,w]
   exact⟨fun _=>⟨by first | (simp;done) | (simp;omega),rfl,h⟩,fun q=>by cases q⟩
 · rw[if_neg (by simp[e])] at h
   rw[if_neg e]
   refine aj aM (AS M a.length M.fns.length i (M.fns.flatMap bG) a) ?_
   rw[di] at h hB
   have hB:a.length+1≤10000000:=hB
   simp only[yd,bF,az.ok,isStr,isInt,bB,isBool,br,av,bD,aE,bC,aB,aW,acy,c0,c1,c2,hd,w]
   exact⟨fun _=>⟨by first | (simp;done) | (simp;omega),rfl,by simp only[aeq,c8,aeN];omega,h⟩,fun q=>by cases q⟩
theorem Mu (M:Mo) (o:Out) (a:List PV) (h:cO acb env (Gi M a 0) o):cO acb env (JI M a M.fns.length) o:=by
 have hd:decide ((M.fns.length:Int)<(M.fns.length:Int))=false:=by simp
 unfold Gi at h
 unfold JI
 by_cases e:a=[]
 · subst e
   rw[if_pos rfl] at h ⊢
   refine aj aM (AR M 0 M.fns.length M.fns.length (M.fns.flatMap bG) []) ?_
   simp only[yc,bF,az.ok,hd]
   exact⟨fun q=>(by cases q),fun _=>h⟩
 · rw[if_neg e] at h ⊢
   refine aj aM (AS M a.length M.fns.length M.fns.length (M.fns.flatMap bG) a) ?_
   simp only[yd,bF,az.ok,hd]
   exact⟨fun q=>(by cases q),fun _=>h⟩
theorem JK (M:Mo) (hM:M.fit) (o:Out) (a:List PV) (i:Nat) (x:Gl) (hx:M.gls[i]? = some x) (hB:(a++Vu x).length≤10000000) (h:cO acb env (Gi M (a++Vu x) (i+1)) o):cO acb env (Gi M a i) o:=by
 have hi:i<M.gls.length:=(dp.1 hx).1
 have c:=bp (z:=2) (enc:=dD) (fun _=>rfl) hx
 have c0:(M.gls.flatMap dD).getD (i*2) .bw = .sc (.bool x.mu):=c 0 (by decide)
 have c1:(M.gls.flatMap dD).getD (i*2+1) .bw=pL x.l:=c 1 (by decide)
 have hl:=hM.gls
 have hL:=JE
 have w:sb.wrap ((i:Int)+1)=((i+1:Nat):Int):=by rw[aN (by omega) (by omega)];rfl
 have hd:decide ((i:Int)<(M.gls.length:Int))=true:=by simp;omega
 unfold Gi at h ⊢
 by_cases e:a=[]
 · subst e
   rw[if_neg (by simp[Vu]),QP] at h
   rw[if_pos rfl]
   refine aj aM (AT M 0 M.gls.length i (M.gls.flatMap dD) []) ?_
   simp only[yf,bF,az.ok,isStr,isInt,bB,isBool,br,av,bD,aE,bC,aB,aW,acy,c0,c1,hd,w]
   exact⟨fun _=>⟨by first | (simp;done) | (simp;omega),rfl,h⟩,fun q=>by cases q⟩
 · rw[if_neg (by simp[e])] at h
   rw[if_neg e]
   refine aj aM (AU M a.length M.gls.length i (M.gls.flatMap dD) a) ?_
   rw[di] at h hB
   have hB:a.length+1≤10000000:=hB
   simp only[yg,bF,az.ok,isStr,isInt,bB,isBool,br,av,bD,aE,bC,aB,aW,acy,c0,c1,hd,w]
   exact⟨fun _=>⟨by first | (simp;done) | (simp;omega),rfl,by simp only[aeq,c8,aeN];omega,h⟩,fun q=>by cases q⟩
theorem Mv (M:Mo) (o:Out) (a:List PV) (h:cO acb env (Gj M a 0) o):cO acb env (Gi M a M.gls.length) o:=by
 have hd:decide ((M.gls.length:Int)<(M.gls.length:Int))=false:=by simp
 unfold Gj at h
 unfold Gi
 by_cases e:a=[]
 · subst e
   rw[if_pos rfl] at h ⊢
   refine aj aM (AT M 0 M.gls.length M.gls.length (M.gls.flatMap dD) []) ?_
   simp only[yf,bF,az.ok,hd]
   exact⟨fun q=>(by cases q),fun _=>h⟩
 · rw[if_neg e] at h ⊢
   refine aj aM (AU M a.length M.gls.length M.gls.length (M.gls.flatMap dD) a) ?_
   simp only[yg,bF,az.ok,hd]
   exact⟨fun q=>(by cases q),fun _=>h⟩
theorem JL (M:Mo) (hM:M.fit) (o:Out) (a:List PV) (i:Nat) (x:El) (hx:M.els[i]? = some x) (hB:(a++Yq x).length≤10000000) (h:cO acb env (Gj M (a++Yq x) (i+1)) o):cO acb env (Gj M a i) o:=by
 have hi:i<M.els.length:=(dp.1 hx).1
 have c:=bp (z:=2) (enc:=bA) (fun _=>rfl) hx
 have c0:(M.els.flatMap bA).getD (i*2) .bw=pL x.l:=c 0 (by decide)
 have c1:(M.els.flatMap bA).getD (i*2+1) .bw=pT .u32 x.fs:=c 1 (by decide)
 have hl:=hM.els
 have hL:=JE
 have w:sb.wrap ((i:Int)+1)=((i+1:Nat):Int):=by rw[aN (by omega) (by omega)];rfl
 have hd:decide ((i:Int)<(M.els.length:Int))=true:=by simp;omega
 unfold Gj at h ⊢
 by_cases e:a=[]
 · subst e
   rw[if_neg (by simp[Yq]),QP] at h
   rw[if_pos rfl]
   refine aj aM (AW M 0 M.els.length i (M.els.flatMap bA) []) ?_
   simp only[yh,bF,az.ok,isStr,isInt,bB,isBool,br,av,bD,aE,bC,aB,aW,acy,c0,c1,hd,w]
   exact⟨fun _=>⟨by first | (simp;done) | (simp;omega),rfl,h⟩,fun q=>by cases q⟩
 · rw[if_neg (by simp[e])] at h
   rw[if_neg e]
   refine aj aM (AX M a.length M.els.length i (M.els.flatMap bA) a) ?_
   rw[di] at h hB
   have hB:a.length+1≤10000000:=hB
   simp only[yj,bF,az.ok,isStr,isInt,bB,isBool,br,av,bD,aE,bC,aB,aW,acy,c0,c1,hd,w]
   exact⟨fun _=>⟨by first | (simp;done) | (simp;omega),rfl,by simp only[aeq,c8,aeN];omega,h⟩,fun q=>by cases q⟩
theorem Mw (M:Mo) (o:Out) (a:List PV) (h:cO acb env (Gk M a 0) o):cO acb env (Gj M a M.els.length) o:=by
 have hd:decide ((M.els.length:Int)<(M.els.length:Int))=false:=by simp
 unfold Gk at h
 unfold Gj
 by_cases e:a=[]
 · subst e
   rw[if_pos rfl] at h ⊢
   refine aj aM (AW M 0 M.els.length M.els.length (M.els.flatMap bA) []) ?_
   simp only[yh,bF,az.ok,hd]
   exact⟨fun q=>(by cases q),fun _=>h⟩
 · rw[if_neg e] at h ⊢
   refine aj aM (AX M a.length M.els.length M.els.length (M.els.flatMap bA) a) ?_
   simp only[yj,bF,az.ok,hd]
   exact⟨fun q=>(by cases q),fun _=>h⟩
theorem JM (M:Mo) (hM:M.fit) (o:Out) (a:List PV) (i:Nat) (x:Da) (hx:M.bk[i]? = some x) (hB:(a++ZB x).length≤10000000) (h:cO acb env (Gk M (a++ZB x) (i+1)) o):cO acb env (Gk M a i) o:=by
 have hi:i<M.bk.length:=(dp.1 hx).1
 have c:=bp (z:=2) (enc:=bU) (fun _=>rfl) hx
 have c0:(M.bk.flatMap bU).getD (i*2) .bw=pL x.l:=c 0 (by decide)
 have c1:(M.bk.flatMap bU).getD (i*2+1) .bw=pT .u8 x.bs:=c 1 (by decide)
 have hl:=hM.bk
 have hL:=JE
 have w:sb.wrap ((i:Int)+1)=((i+1:Nat):Int):=by rw[aN (by omega) (by omega)];rfl
 have hd:decide ((i:Int)<(M.bk.length:Int))=true:=by simp;omega
 unfold Gk at h ⊢
 by_cases e:a=[]
 · subst e
   rw[if_neg (by simp[ZB]),QP] at h
   rw[if_pos rfl]
   refine aj aM (AY 0 M.bk.length i (M.bk.flatMap bU) []) ?_
   simp only[yl,bF,az.ok,isStr,isInt,bB,isBool,br,av,bD,aE,bC,aB,aW,acy,c0,c1,hd,w]
   exact⟨fun _=>⟨by first | (simp;done) | (simp;omega),rfl,h⟩,fun q=>by cases q⟩
 · rw[if_neg (by simp[e])] at h
   rw[if_neg e]
   refine aj aM (AZ a.length M.bk.length i (M.bk.flatMap bU) a) ?_
   rw[di] at h hB
   have hB:a.length+1≤10000000:=hB
   simp only[ym,bF,az.ok,isStr,isInt,bB,isBool,br,av,bD,aE,bC,aB,aW,acy,c0,c1,hd,w]
   exact⟨fun _=>⟨by first | (simp;done) | (simp;omega),rfl,by simp only[aeq,c8,aeN];omega,h⟩,fun q=>by cases q⟩
theorem Mx (M:Mo) (o:Out) (a:List PV) (h:Mr a=o):cO acb env (Gk M a M.bk.length) o:=by
 have hd:decide ((M.bk.length:Int)<(M.bk.length:Int))=false:=by simp
 unfold Mr at h
 unfold Gk
 by_cases e:a=[]
 · subst e
   rw[if_pos rfl] at h ⊢
   refine aj aM (AY 0 M.bk.length M.bk.length (M.bk.flatMap bU) []) ?_
   simp only[yl,bF,az.ok,hd]
   exact⟨fun q=>(by cases q),fun _=>h⟩
 · rw[if_neg e] at h ⊢
   refine aj aM (AZ a.length M.bk.length M.bk.length (M.bk.flatMap bU) a) ?_
   simp only[ym,bF,az.ok,hd]
   exact⟨fun q=>(by cases q),fun _=>h⟩
theorem gB {α:Type} {f:α→List PV} {n:Nat} (h : ∀x,(f x).length=n) (l:List α):(l.flatMap f).length=l.length*n:=D3 h l
theorem A0 {f:FuncId} {args:List AV} {a:List PV} (h : ∀v m',Mr a = .ret v m'→an acb env f args [] v m'):an acb env f args [] (.p (.ps a.length 1 a)) []:=by
 by_cases e:a=[]
 · subst e
   exact an.nil (h _ _ (if_pos rfl)) (Nat.le_refl 1)
 · exact an.pure (h _ _ (if_neg e))
def My (M:Mo):List PV:=M.aQ.flatMap TN++M.exs.flatMap Yp
def Ri (M:Mo):List PV:=M.fns.flatMap TO++M.gls.flatMap Vu++M.els.flatMap Yq++M.bk.flatMap ZB
theorem Gm (M:Mo) (hM:M.fit):an acb env 56 [.agg (M.aI.map .p)] [] (.p (.ps (My M).length 1 (My M))) []:=by
 have h1:=hM.aQ
 have h2:=hM.exs
 have l1:=gB (f:=TN) (n:=2) (fun _=>rfl) M.aQ
 have l2:=gB (f:=Yp) (n:=1) (fun _=>rfl) M.exs
 refine A0 fun v m' e=> ?_
 refine af aM (Mp M) ?_
 have k2:=oX (B:=10000000) (JH M hM (.ret v m')) (Mt M _) M.exs.length 0 (M.aQ.flatMap TN) (by omega) (by simp only[ab1,di];omega) e
 have k1:=oX (B:=10000000) (JG M hM (.ret v m')) (Ms M _) M.aQ.length 0 [] (by omega) (by simp only[ab1,di,ab4];omega) k2
 unfold JF at k1
 rw[if_pos rfl] at k1
 exact k1
theorem Gn (M:Mo) (hM:M.fit):an acb env 34 [.agg (M.aI.map .p)] [] (.p (.ps (Ri M).length 1 (Ri M))) []:=by
 have h1:=hM.fns
 have h2:=hM.gls
 have h3:=hM.els
 have h4:=hM.bk
 have l1:=gB (f:=TO) (n:=1) (fun _=>rfl) M.fns
 have l2:=gB (f:=Vu) (n:=1) (fun _=>rfl) M.gls
 have l3:=gB (f:=Yq) (n:=1) (fun _=>rfl) M.els
 have l4:=gB (f:=ZB) (n:=1) (fun _=>rfl) M.bk
 refine A0 fun v m' e=> ?_
 refine af aM (Mq M) ?_
 have k4:=oX (B:=10000000) (JM M hM (.ret v m')) (Mx M _) M.bk.length 0 (M.fns.flatMap TO++M.gls.flatMap Vu++M.els.flatMap Yq) (by omega) (by simp only[ab1,di];omega) e
 have k3:=oX (B:=10000000) (JL M hM (.ret v m')) (Mw M _) M.els.length 0 (M.fns.flatMap TO++M.gls.flatMap Vu) (by omega) (by simp only[ab1,di];omega) k4
 have k2:=oX (B:=10000000) (JK M hM (.ret v m')) (Mv M _) M.gls.length 0 (M.fns.flatMap TO) (by omega) (by simp only[ab1,di];omega) k3
 have k1:=oX (B:=10000000) (JJ M hM (.ret v m')) (Mu M _) M.fns.length 0 [] (by omega) (by simp only[ab1,di,ab4];omega) k2
 unfold JI at k1
 rw[if_pos rfl] at k1
 exact k1
end Go.Proofs.YtdmmllcjgjmbbaaGreatDoor.N
end
section
set_option linter.unusedSimpArgs false
set_option linter.unusedVariables false
namespace Go.Proofs.YtdmmllcjgjmbbaaGreatDoor.N
open Go Go.Am
def vcQ (M:Mo) (i:Nat) (b:Bool) (e:Int) (k:Nat) (f:FuncId) (args:List AV) (m:Mem):Option (AV×Mem):=cond (ae f 87) (some (sB b,m)) (cond (ae f 92) (some (.au [sI .i64 e,sI .i64 0],m)) none)
def ZC:bH:=aT aH aA [] [] []
def ac7:Sc:= .fin
def Mz (M:Mo) (n:Int):az:=
 (.out (.ret (.p (.sc (.bool (decide (n<(↑M.tys.length:Int)))))) [.pc M.aI]))
theorem Rj (M:Mo) (n:Int):aG acb env ZC 1000000 87 ([sI sb n,AV.mp 0 0]) ([aU.pc M.aI]) ac7=Mz M n:=by kernel_rfl
def ZD:bH:=aT aH aA [] [(92,0,0)] []
def ac8:Sc:= .fin
def MA (b:Bool) (e:Int):az:=
 (.test (b)
 (.out (.ret (.au [sI .i64 0,sI .i64 0]) []))
 (.out (.ret (.au [sI .i64 e,sI .i64 0]) [])))
theorem Rk (b:Bool) (e:Int):aG acb env ZD 1000000 92 ([sB b,sI sb e]) ([]) ac8=MA b e:=by kernel_rfl
def ZE:bH:=aT aH aA [] [] [(91,0,0)]
def ac9 (M:Mo) (i:Nat) (b:Bool) (e:Int):Sc:=(.C4 91 1 (vcQ M i b e 0) .fin)
def MB (M:Mo) (i:Nat) (b:Bool) (e:Int):az:=
 (.call ⟨87,[sI .i64 (av (aF (aem bK M.aQ) (aJ i*3+2))),.mp 0 0],[.pc M.aI],.p (.sc (.bool b)),[.pc M.aI]⟩
 (.call ⟨92,[.p (.sc (.bool b)),sI .i64 6],[],.au [sI .i64 e,sI .i64 0],[]⟩
 (.must (aW (↑i:Int) M.aQ.length&&true&&true&&(isInt sb (aF (aem bK M.aQ) (aJ i*3+2))&&true&&true)&&true)
 (.must true
 (.out (.ret (.au [sI .i64 e,sI .i64 0]) [.ac [.fn (Fn.func 87) [] [.mp 1 0]],.pc M.aI]))))))
theorem Rl (M:Mo) (i:Nat) (b:Bool) (e:Int):aG acb env ZE 1000000 91 ([sI sb (↑i:Int),AV.mp 0 0,AV.mp 1 0]) ([aU.ac [AV.fn (Fn.func 87) [] [AV.mp 1 0]],aU.pc M.aI]) (ac9 M i b e)=MB M i b e:=by kernel_rfl
def ZF:bH:=aT aH aA [] [] [(93,0,0)]
def ada (M:Mo) (i:Nat) (b:Bool) (e:Int):Sc:=(.C4 93 1 (vcQ M i b e 0) .fin)
def MC (M:Mo) (i:Nat) (b:Bool) (e:Int):az:=
 (.call ⟨87,[sI .i64 (av (aF (aem bG M.fns) (aJ i*3+0))),.mp 0 0],[.pc M.aI],.p (.sc (.bool b)),[.pc M.aI]⟩
 (.call ⟨92,[.p (.sc (.bool b)),sI .i64 6],[],.au [sI .i64 e,sI .i64 0],[]⟩
 (.must (aW (↑i:Int) M.fns.length&&true&&true&&(isInt sb (aF (aem bG M.fns) (aJ i*3+0))&&true&&true)&&true)
 (.must true
 (.out (.ret (.au [sI .i64 e,sI .i64 0]) [.ac [.fn (Fn.func 87) [] [.mp 1 0]],.pc M.aI]))))))
theorem Rm (M:Mo) (i:Nat) (b:Bool) (e:Int):aG acb env ZF 1000000 93 ([sI sb (↑i:Int),AV.mp 0 0,AV.mp 1 0]) ([aU.ac [AV.fn (Fn.func 87) [] [AV.mp 1 0]],aU.pc M.aI]) (ada M i b e)=MC M i b e:=by kernel_rfl
theorem yp (M:Mo) (n:Int):an acb env 87 [sI .i64 n,.mp 0 0] [.pc M.aI] (sB (decide (n<(M.tys.length:Int)))) [.pc M.aI]:=af aM (Rj M n) (by unfold Mz;rfl)
theorem eF (b:Bool) (e:Int):an acb env 92 [sB b,sI .i64 e] [] (.au [sI .i64 (if b=true then 0 else e),sI .i64 0]) []:=by
 refine af aM (Rk b e) ?_
 cases b<;>simp only[MA,az.ok]
 · exact⟨fun q=>(by cases q),fun _=>rfl⟩
 · exact⟨fun _=>rfl,fun q=>(by cases q)⟩
def P2 (M:Mo) (n:Int):Int:=if decide (n<(M.tys.length:Int))=true then 0 else 6
theorem Rn (M:Mo) {i:Nat} (hi:i<M.aQ.length):an acb env 91 [sI .i64 i,.mp 0 0,.mp 1 0] (rT M) (.au [sI .i64 (P2 M M.aQ[i].ty),sI .i64 0]) (rT M):=by
 have hx:M.aQ[i]? = some M.aQ[i]:=cb hi
 have c:=bp (z:=3) (enc:=bK) (fun _=>rfl) hx
 have c0:(M.aQ.flatMap bK).getD (i*3+2) .bw = .sc (.int .i64 M.aQ[i].ty):=c 2 (by decide)
 have hin:aW (i:Int) M.aQ.length=true:=by simp only[aW,c8,decide_eq_true_eq];omega
 refine af aM (Rl M i (decide (M.aQ[i].ty<(M.tys.length:Int))) (P2 M M.aQ[i].ty)) ?_
 simp only[MB,bF,az.ok,isInt,av,acy,c0,hin,aeq,aeM]
 exact⟨yp M _,eF _ 6,(by first | rfl | trivial),(by first | rfl | trivial),(by first | rfl | trivial)⟩
theorem JN (M:Mo) (hN:M.aQ.length≤1000000000):an acb env 90 [sI .i64 2,sI .i64 M.aQ.length,.fn (.func 91) [] [.mp 0 0,.mp 1 0]] (rT M) (jq 2 (fun i=>(M.aQ[i]?).elim 0 fun x=>P2 M x.ty) (fun _=>0) M.aQ.length 0) (rT M):=
 HP hN 2 _ _ fun i hi=>by
  rw[cb hi]
  exact Rn M hi
theorem Ro (M:Mo) {i:Nat} (hi:i<M.fns.length):an acb env 93 [sI .i64 i,.mp 0 0,.mp 1 0] (rT M) (.au [sI .i64 (P2 M M.fns[i].ty),sI .i64 0]) (rT M):=by
 have hx:M.fns[i]? = some M.fns[i]:=cb hi
 have c:=bp (z:=3) (enc:=bG) (fun _=>rfl) hx
 have c0:(M.fns.flatMap bG).getD (i*3+0) .bw = .sc (.int .i64 M.fns[i].ty):=c 0 (by decide)
 have hin:aW (i:Int) M.fns.length=true:=by simp only[aW,c8,decide_eq_true_eq];omega
 refine af aM (Rm M i (decide (M.fns[i].ty<(M.tys.length:Int))) (P2 M M.fns[i].ty)) ?_
 simp only[MC,bF,az.ok,isInt,av,acy,c0,hin,aeq,aeM]
 exact⟨yp M _,eF _ 6,(by first | rfl | trivial),(by first | rfl | trivial),(by first | rfl | trivial)⟩
theorem JO (M:Mo) (hN:M.fns.length≤1000000000):an acb env 90 [sI .i64 3,sI .i64 M.fns.length,.fn (.func 93) [] [.mp 0 0,.mp 1 0]] (rT M) (jq 3 (fun i=>(M.fns[i]?).elim 0 fun x=>P2 M x.ty) (fun _=>0) M.fns.length 0) (rT M):=
 HP hN 3 _ _ fun i hi=>by
  rw[cb hi]
  exact Ro M hi
end Go.Proofs.YtdmmllcjgjmbbaaGreatDoor.N
end
section
namespace Go.Proofs.YtdmmllcjgjmbbaaGreatDoor.N
open Go Go.Am
def JP:bQ:=⟨182,[.p (.sc (.string ⟨#[101,113,122,32,101,113,32,110,101,32,108,116,95,115,32,108,116,95,117,32,103,116,95,115,32,103,116,95,117,32,108,101,95,115,32,108,101,95,117,32,103,101,95,115,32,103,101,95,117]⟩))],[],.p (.ps 11 1 [.sc (.string ⟨#[101,113,122]⟩),.sc (.string ⟨#[101,113]⟩),.sc (.string ⟨#[110,101]⟩),.sc (.string ⟨#[108,116,95,115]⟩),.sc (.string ⟨#[108,116,95,117]⟩),.sc (.string ⟨#[103,116,95,115]⟩),.sc (.string ⟨#[103,116,95,117]⟩),.sc (.string ⟨#[108,101,95,115]⟩),.sc (.string ⟨#[108,101,95,117]⟩),.sc (.string ⟨#[103,101,95,115]⟩),.sc (.string ⟨#[103,101,95,117]⟩)]),[]⟩
theorem adb:an acb env JP.g JP.args JP.m JP.v JP.m':=bT aM (K:=[]) fq (n:=10000000) (by kernel_rfl)
def Vv:List bQ:=JP::[]
theorem MD:dY acb env Vv:=cU adb fq
def JQ:bQ:=⟨182,[.p (.sc (.string ⟨#[99,108,122,32,99,116,122,32,112,111,112,99,110,116,32,97,100,100,32,115,117,98,32,109,117,108,32,100,105,118,95,115,32,100,105,118,95,117,32,114,101,109,95,115,32,114,101,109,95,117,32,97,110,100,32,111,114,32,120,111,114,32,115,104,108,32,115,104,114,95,115,32,115,104,114,95,117,32,114,111,116,108,32,114,111,116,114]⟩))],[],.p (.ps 18 1 [.sc (.string ⟨#[99,108,122]⟩),.sc (.string ⟨#[99,116,122]⟩),.sc (.string ⟨#[112,111,112,99,110,116]⟩),.sc (.string ⟨#[97,100,100]⟩),.sc (.string ⟨#[115,117,98]⟩),.sc (.string ⟨#[109,117,108]⟩),.sc (.string ⟨#[100,105,118,95,115]⟩),.sc (.string ⟨#[100,105,118,95,117]⟩),.sc (.string ⟨#[114,101,109,95,115]⟩),.sc (.string ⟨#[114,101,109,95,117]⟩),.sc (.string ⟨#[97,110,100]⟩),.sc (.string ⟨#[111,114]⟩),.sc (.string ⟨#[120,111,114]⟩),.sc (.string ⟨#[115,104,108]⟩),.sc (.string ⟨#[115,104,114,95,115]⟩),.sc (.string ⟨#[115,104,114,95,117]⟩),.sc (.string ⟨#[114,111,116,108]⟩),.sc (.string ⟨#[114,111,116,114]⟩)]),[]⟩
theorem ade:an acb env JQ.g JQ.args JQ.m JQ.v JQ.m':=bT aM (K:=Vv) MD (n:=10000000) (by kernel_rfl)
def ZG:List bQ:=JQ::Vv
theorem Vw:dY acb env ZG:=cU ade MD
def P3:List ByteArray:=[⟨#[117,110,114,101,97,99,104,97,98,108,101]⟩,⟨#[110,111,112]⟩,⟨#[98,108,111,99,107]⟩,⟨#[108,111,111,112]⟩,⟨#[105,102]⟩,⟨#[]⟩,⟨#[]⟩,⟨#[]⟩,⟨#[]⟩,⟨#[]⟩,⟨#[]⟩,⟨#[]⟩,⟨#[98,114]⟩,⟨#[98,114,95,105,102]⟩,⟨#[98,114,95,116,97,98,108,101]⟩,⟨#[114,101,116,117,114,110]⟩,⟨#[99,97,108,108]⟩,⟨#[99,97,108,108,95,105,110,100,105,114,101,99,116]⟩,⟨#[]⟩,⟨#[]⟩,⟨#[]⟩,⟨#[]⟩,⟨#[]⟩,⟨#[]⟩,⟨#[]⟩,⟨#[]⟩,⟨#[100,114,111,112]⟩,⟨#[115,101,108,101,99,116]⟩,⟨#[]⟩,⟨#[]⟩,⟨#[]⟩,⟨#[]⟩,⟨#[108,111,99,97,108,46,103,101,116]⟩,⟨#[108,111,99,97,108,46,115,101,116]⟩,⟨#[108,111,99,97,108,46,116,101,101]⟩,⟨#[103,108,111,98,97,108,46,103,101,116]⟩,⟨#[103,108,111,98,97,108,46,115,101,116]⟩,⟨#[]⟩,⟨#[]⟩,⟨#[]⟩,⟨#[105,51,50,46,108,111,97,100]⟩,⟨#[]⟩,⟨#[]⟩,⟨#[]⟩,⟨#[105,51,50,46,108,111,97,100,56,95,115]⟩,⟨#[105,51,50,46,108,111,97,100,56,95,117]⟩,⟨#[105,51,50,46,108,111,97,100,49,54,95,115]⟩,⟨#[105,51,50,46,108,111,97,100,49,54,95,117]⟩,⟨#[]⟩,⟨#[]⟩,⟨#[]⟩,⟨#[]⟩,⟨#[]⟩,⟨#[]⟩,⟨#[105,51,50,46,115,116,111,114,101]⟩,⟨#[]⟩,⟨#[]⟩,⟨#[]⟩,⟨#[105,51,50,46,115,116,111,114,101,56]⟩,⟨#[105,51,50,46,115,116,111,114,101,49,54]⟩,⟨#[]⟩,⟨#[]⟩,⟨#[]⟩,⟨#[109,101,109,111,114,121,46,115,105,122,101]⟩,⟨#[109,101,109,111,114,121,46,103,114,111,119]⟩,⟨#[105,51,50,46,99,111,110,115,116]⟩,⟨#[]⟩,⟨#[]⟩,⟨#[]⟩,⟨#[105,51,50,46,101,113,122]⟩,⟨#[105,51,50,46,101,113]⟩,⟨#[105,51,50,46,110,101]⟩,⟨#[105,51,50,46,108,116,95,115]⟩,⟨#[105,51,50,46,108,116,95,117]⟩,⟨#[105,51,50,46,103,116,95,115]⟩,⟨#[105,51,50,46,103,116,95,117]⟩,⟨#[105,51,50,46,108,101,95,115]⟩,⟨#[105,51,50,46,108,101,95,117]⟩,⟨#[105,51,50,46,103,101,95,115]⟩,⟨#[105,51,50,46,103,101,95,117]⟩,⟨#[]⟩,⟨#[]⟩,⟨#[]⟩,⟨#[]⟩,⟨#[]⟩,⟨#[]⟩,⟨#[]⟩,⟨#[]⟩,⟨#[]⟩,⟨#[]⟩,⟨#[]⟩,⟨#[]⟩,⟨#[]⟩,⟨#[]⟩,⟨#[]⟩,⟨#[]⟩,⟨#[]⟩,⟨#[]⟩,⟨#[]⟩,⟨#[]⟩,⟨#[]⟩,⟨#[]⟩,⟨#[]⟩,⟨#[105,51,50,46,99,108,122]⟩,⟨#[105,51,50,46,99,116,122]⟩,⟨#[105,51,50,46,112,111,112,99,110,116]⟩,⟨#[105,51,50,46,97,100,100]⟩,⟨#[105,51,50,46,115,117,98]⟩,⟨#[105,51,50,46,109,117,108]⟩,⟨#[105,51,50,46,100,105,118,95,115]⟩,⟨#[105,51,50,46,100,105,118,95,117]⟩,⟨#[105,51,50,46,114,101,109,95,115]⟩,⟨#[105,51,50,46,114,101,109,95,117]⟩,⟨#[105,51,50,46,97,110,100]⟩,⟨#[105,51,50,46,111,114]⟩,⟨#[105,51,50,46,120,111,114]⟩,⟨#[105,51,50,46,115,104,108]⟩,⟨#[105,51,50,46,115,104,114,95,115]⟩,⟨#[105,51,50,46,115,104,114,95,117]⟩,⟨#[105,51,50,46,114,111,116,108]⟩,⟨#[105,51,50,46,114,111,116,114]⟩,⟨#[]⟩,⟨#[]⟩,⟨#[]⟩,⟨#[]⟩,⟨#[]⟩,⟨#[]⟩,⟨#[]⟩,⟨#[]⟩,⟨#[]⟩,⟨#[]⟩,⟨#[]⟩,⟨#[]⟩,⟨#[]⟩,⟨#[]⟩,⟨#[]⟩,⟨#[]⟩,⟨#[]⟩,⟨#[]⟩,⟨#[]⟩,⟨#[]⟩,⟨#[]⟩,⟨#[]⟩,⟨#[]⟩,⟨#[]⟩,⟨#[]⟩,⟨#[]⟩,⟨#[]⟩,⟨#[]⟩,⟨#[]⟩,⟨#[]⟩,⟨#[]⟩,⟨#[]⟩,⟨#[]⟩,⟨#[]⟩,⟨#[]⟩,⟨#[]⟩,⟨#[]⟩,⟨#[]⟩,⟨#[]⟩,⟨#[]⟩,⟨#[]⟩,⟨#[]⟩,⟨#[]⟩,⟨#[]⟩,⟨#[]⟩,⟨#[]⟩,⟨#[]⟩,⟨#[]⟩,⟨#[]⟩,⟨#[]⟩,⟨#[]⟩,⟨#[]⟩,⟨#[]⟩,⟨#[]⟩,⟨#[]⟩,⟨#[]⟩,⟨#[]⟩,⟨#[]⟩,⟨#[]⟩,⟨#[]⟩,⟨#[]⟩,⟨#[]⟩,⟨#[]⟩,⟨#[]⟩,⟨#[]⟩,⟨#[]⟩,⟨#[]⟩,⟨#[]⟩,⟨#[]⟩,⟨#[]⟩,⟨#[]⟩,⟨#[]⟩,⟨#[]⟩,⟨#[]⟩,⟨#[]⟩,⟨#[]⟩,⟨#[]⟩,⟨#[]⟩,⟨#[]⟩,⟨#[]⟩,⟨#[]⟩,⟨#[]⟩,⟨#[]⟩,⟨#[]⟩,⟨#[]⟩,⟨#[]⟩,⟨#[]⟩,⟨#[]⟩,⟨#[]⟩,⟨#[]⟩,⟨#[]⟩,⟨#[]⟩,⟨#[]⟩,⟨#[]⟩,⟨#[]⟩,⟨#[]⟩,⟨#[]⟩,⟨#[]⟩,⟨#[]⟩,⟨#[]⟩,⟨#[]⟩,⟨#[]⟩,⟨#[]⟩,⟨#[]⟩,⟨#[]⟩,⟨#[]⟩,⟨#[]⟩,⟨#[]⟩,⟨#[]⟩,⟨#[]⟩,⟨#[]⟩,⟨#[]⟩,⟨#[]⟩,⟨#[]⟩,⟨#[]⟩,⟨#[]⟩,⟨#[]⟩,⟨#[]⟩,⟨#[]⟩,⟨#[]⟩,⟨#[]⟩,⟨#[]⟩,⟨#[]⟩,⟨#[]⟩,⟨#[]⟩,⟨#[]⟩,⟨#[]⟩,⟨#[]⟩,⟨#[]⟩,⟨#[]⟩,⟨#[]⟩,⟨#[]⟩,⟨#[]⟩,⟨#[]⟩,⟨#[]⟩]
theorem Vx:an acb env 170 [] [] (.agg (P3.map fun s=> .p (.sc (.string s)))) []:=bT aM (K:=ZG) Vw (n:=10000000) (by kernel_rfl)
end Go.Proofs.YtdmmllcjgjmbbaaGreatDoor.N
end
section
namespace Go.Proofs.YtdmmllcjgjmbbaaGreatDoor.N
open Go Go.Am
def adf (f:FuncId) (_:List AV) (_:Mem):Option (AV×Mem):=cond (ae f 170) (some (.agg (P3.map fun s=> .p (.sc (.string s))),[])) none
def adg (op:Int):FuncId→Nat→Nat→Option (AV→AV):=cM [(149,4,2,.p (.sc (.string (P3.getD op.toNat ⟨#[]⟩))))]
def adh (_op:Int) (n:Int) (st:Bool) (f:FuncId) (_:List AV) (_:Mem):Option (AV×Mem):=cond (ae f 162) (some (.au [sI .u32 n,sB st],[])) none
def adi (_op _r _a _b _nn:Int) (_tg:List Int) (_ll _le:List Ins) (s:ByteArray) (u1 u2 u3 u4 u5 u6:Bool) (f:FuncId) (_:List AV) (_:Mem):Option (AV×Mem):=cond (ae f 149) (some (.p (.sc (.string s)),[])) (cond (ae f 148) (some (.agg [sB u1,sB u2,sB u3,sB u4,sB u5,sB u6],[])) none)
def Vy (op:Int):bH:=gx adf aA [] [(149,2,3),(149,0,0)] [(149,4,2)] (adg op)
def ZH:Sc:=(.fork (.lit .fin) .fin)
def HS (op:Int):az:=
 (.test (decide (op<0))
 (.out (.ret (.p (.sc (.string (aeO #[])))) []))
 (.test (decide (op≥256))
 (.out (.ret (.p (.sc (.string (aeO #[])))) []))
 (.call ⟨170,[],[],.agg (P3.map fun s=> .p (.sc (.string s))),[]⟩
 (.must (aW op 256&&(op.toNat*1).blt 256&&true)
 (.need ((P3.map fun s=>AV.p (PV.sc (.string s))).getD (op.toNat*1) AV.ah=AV.p (PV.sc (Value.string (P3.getD op.toNat (aeO #[])))))
 (.out (.ret (.p (.sc (.string (P3.getD op.toNat (aeO #[]))))) [])))))))
theorem ME (op:Int):aG acb env (Vy op) 1000000 149 ([sI sb op]) ([]) ZH=HS op:=by kernel_rfl
def Vz:bH:=aT aH aA [] [(162,0,0),(162,0,1),(162,0,2),(162,0,4),(162,0,3),(162,0,5),(162,0,7),(162,0,6)] []
def ZI:Sc:=(.fork (.yes .fin) (.fork .fin (.fork (.yes .fin) (.fork (.yes .fin) (.fork .fin (.fork (.yes .fin) (.fork (.yes .fin) .fin)))))))
def HT (op:Int):az:=
 (.test (op==40)
 (.must (op==40)
 (.out (.ret (.au [sI .u32 2,sB true]) [])))
 (.test (op==54)
 (.out (.ret (.au [sI .u32 2,sB true]) []))
 (.test (op==46)
 (.must (op==46)
 (.out (.ret (.au [sI .u32 1,sB true]) [])))
 (.test (op==47)
 (.must (op==47)
 (.out (.ret (.au [sI .u32 1,sB true]) [])))
 (.test (op==59)
 (.out (.ret (.au [sI .u32 1,sB true]) []))
 (.test (op==44)
 (.must (op==44)
 (.out (.ret (.au [sI .u32 0,sB true]) [])))
 (.test (op==45)
 (.must (op==45)
 (.out (.ret (.au [sI .u32 0,sB true]) [])))
 (.test (op==58)
 (.out (.ret (.au [sI .u32 0,sB true]) []))
 (.out (.ret (.au [sI .u32 0,sB false]) []))))))))))
theorem MF (op:Int):aG acb env Vz 1000000 162 ([sI sb op]) ([]) ZI=HT op:=by kernel_rfl
def VB (op n:Int) (st:Bool):bH:=aT (adh op n st) aA [] [(148,0,0),(148,0,1),(148,0,2),(148,0,3),(148,0,4),(148,0,12),(148,0,5),(148,0,6),(148,0,7),(148,0,8),(148,0,9),(148,0,10),(148,0,11),(148,0,13),(148,0,14)] []
def ZJ:Sc:=(.fork .fin (.fork (.yes .fin) (.fork .fin (.fork .fin (.fork (.yes .fin) (.fork (.yes .fin) (.fork (.yes .fin) (.fork (.yes .fin) (.fork (.yes .fin) (.fork (.yes .fin) (.fork (.yes .fin) (.fork (.yes .fin) .fin))))))))))))
def fy:az:=
 (.out (.ret (.agg [sB false,sB false,sB true,sB false,sB false,sB false]) []))
def HU (op n:Int) (st:Bool):az:=
 (.call ⟨162,[sI .i64 op],[],.au [sI .u32 n,.p (.sc (.bool st))],[]⟩
 (.test (st)
 (.out (.ret (.agg [sB false,sB false,sB true,sB true,sB false,sB false]) []))
 (.test (op==2)
 (.must (op==2)
 (.out (.ret (.agg [sB true,sB false,sB false,sB false,sB false,sB false]) [])))
 (.test (op==3)
 (.out (.ret (.agg [sB true,sB false,sB false,sB false,sB false,sB false]) []))
 (.test (op==4)
 (.out (.ret (.agg [sB true,sB true,sB false,sB false,sB false,sB false]) []))
 (.test (op==12)
 (.must (op==12)
 (fy))
 (.test (op==13)
 (.must (op==13)
 (fy))
 (.test (op==16)
 (.must (op==16)
 (fy))
 (.test (op==17)
 (.must (op==17)
 (fy))
 (.test (op==32)
 (.must (op==32)
 (fy))
 (.test (op==33)
 (.must (op==33)
 (fy))
 (.test (op==34)
 (.must (op==34)
 (fy))
 (.test (op==35)
 (.must (op==35)
 (fy))
 (.test (op==36)
 (fy)
 (.test (op==14)
 (.out (.ret (.agg [sB false,sB false,sB true,sB false,sB false,sB true]) []))
 (.test (op==65)
 (.out (.ret (.agg [sB false,sB false,sB false,sB false,sB true,sB false]) []))
 (.out (.ret (.agg [sB false,sB false,sB false,sB false,sB false,sB false]) []))))))))))))))))))
theorem MG (op n:Int) (st:Bool):aG acb env (VB op n st) 1000000 148 ([sI sb op]) ([]) ZJ=HU op n st:=by kernel_rfl
def VC (op r a b nn:Int) (tg:List Int) (ll:List Ins) (le:List Ins) (s:ByteArray) (u1:Bool) (u2:Bool) (u3:Bool) (u4:Bool) (u5:Bool) (u6:Bool):bH:=aT (adi op r a b nn tg ll le s u1 u2 u3 u4 u5 u6) aA [] [(125,0,0),(125,0,3),(125,4,4),(125,0,1),(125,5,4),(125,5,8),(125,0,2),(125,6,4),(125,8,3),(125,8,11),(125,8,20),(125,8,29),(125,8,26),(125,8,17),(125,8,8)] []
def ZK:Sc:=(.fork (.yes .fin) (.fork (.lit (.lit .fin)) (.fork (.yes .fin) (.fork (.fork (.lit (.lit .fin)) (.fork (.yes .fin) (.fork (.fork .fin (.fork (.lit (.fork (.lit (.fork (.lit .fin) .fin)) (.fork (.fork (.lit .fin) .fin) (.lit .fin)))) (.fork (.fork (.lit (.fork (.lit .fin) .fin)) (.fork (.fork (.lit .fin) .fin) (.lit .fin))) (.lit (.lit .fin))))) (.lit (.fork (.lit (.fork (.lit (.fork (.lit .fin) .fin)) (.fork (.fork (.lit .fin) .fin) (.lit .fin)))) (.fork (.fork (.lit (.fork (.lit .fin) .fin)) (.fork (.fork (.lit .fin) .fin) (.lit .fin))) (.lit (.lit .fin)))))))) (.lit (.fork (.fork .fin (.fork (.lit (.fork (.lit (.fork (.lit .fin) .fin)) (.fork (.fork (.lit .fin) .fin) (.lit .fin)))) (.fork (.fork (.lit (.fork (.lit .fin) .fin)) (.fork (.fork (.lit .fin) .fin) (.lit .fin))) (.lit (.lit .fin))))) (.lit (.fork (.lit (.fork (.lit (.fork (.lit .fin) .fin)) (.fork (.fork (.lit .fin) .fin) (.lit .fin)))) (.fork (.fork (.lit (.fork (.lit .fin) .fin)) (.fork (.fork (.lit .fin) .fin) (.lit .fin))) (.lit (.lit .fin)))))))))))
def tO (b nn:Int) (tg:List Int) (u4:Bool) (u5:Bool) (u6:Bool):az:=
 (.test (u4) (.test (u5) (.test (u6) F1 (.out (.ret (.p (.sc (.bool ((↑tg.length:Int)==0)))) []))) (.test (nn==0) (.test (u6) F1 (.out (.ret (.p (.sc (.bool ((↑tg.length:Int)==0)))) []))) (.out (.ret (sB false) [])))) (.test (b==0) (.test (u5) (.test (u6) F1 (.out (.ret (.p (.sc (.bool ((↑tg.length:Int)==0)))) []))) (.test (nn==0) (.test (u6) F1 (.out (.ret (.p (.sc (.bool ((↑tg.length:Int)==0)))) []))) (.out (.ret (sB false) [])))) (.out (.ret (sB false) []))))
def fS:az:=
 (.out (.ret (sB false) []))
def lQ (a b nn:Int) (tg:List Int) (u3:Bool) (u4:Bool) (u5:Bool) (u6:Bool):az:=
 (.test (u3) (tO b nn tg u4 u5 u6) (.test (a==0) (tO b nn tg u4 u5 u6) (fS)))
def HV (op r a b nn:Int) (tg:List Int) (ll:List Ins) (le:List Ins) (s:ByteArray) (u1:Bool) (u2:Bool) (u3:Bool) (u4:Bool) (u5:Bool) (u6:Bool):az:=
 (.call ⟨148,[sI .i64 op],[],.agg [.p (.sc (.bool u1)),.p (.sc (.bool u2)),.p (.sc (.bool u3)),.p (.sc (.bool u4)),.p (.sc (.bool u5)),.p (.sc (.bool u6))],[]⟩
 (.call ⟨149,[sI .i64 op],[],.p (.sc (.string s)),[]⟩
 (.test (s.data.toList==(aeO #[]).data.toList)
 (.must (s.data.toList==(aeO #[]).data.toList)
 (fS))
 (.test (decide (r<0))
 (fS)
 (.test (decide (r>1))
 (.must (decide (r>1))
 (fS))
 (.test (!u1)
 (.test (r != 0)
 (fS)
 (.test (decide ((↑ll.length:Int)>0))
 (.must (decide ((↑ll.length:Int)>0))
 (fS))
 (.test (!u2)
 (.test (decide ((↑le.length:Int)>0))
 (fS)
 (lQ a b nn tg u3 u4 u5 u6))
 (lQ a b nn tg u3 u4 u5 u6))))
 (.test (!u2)
 (.test (decide ((↑le.length:Int)>0))
 (fS)
 (lQ a b nn tg u3 u4 u5 u6))
 (lQ a b nn tg u3 u4 u5 u6))))))))
theorem MH (op r a b nn:Int) (tg:List Int) (ll:List Ins) (le:List Ins) (s:ByteArray) (u1:Bool) (u2:Bool) (u3:Bool) (u4:Bool) (u5:Bool) (u6:Bool):aG acb env (VC op r a b nn tg ll le s u1 u2 u3 u4 u5 u6) 1000000 125 ([dO op r a b nn tg ll le]) ([]) ZK=HV op r a b nn tg ll le s u1 u2 u3 u4 u5 u6:=by kernel_rfl
def nm (op:Int):ByteArray:=if op<0∨256≤op then⟨#[]⟩ else P3.getD op.toNat ⟨#[]⟩
theorem JR (op:Int):an acb env 149 [sI .i64 op] [] (.p (.sc (.string (nm op)))) []:=by
 refine af aM (ME op) ?_
 simp only[HS,az.ok,decide_eq_true_eq,decide_eq_false_iff_not]
 have hlen:(P3.map fun s=>(AV.p (PV.sc (.string s)))).length=256:=by kernel_rfl
 refine⟨fun h=> ?_,fun h=>⟨fun h2=> ?_,fun h2=>⟨Vx,?_,?_,?_⟩⟩⟩
 · rw[nm,if_pos (.inl h)]
 · rw[nm,if_pos (.inr h2)]
 · simp[aW];omega
 · have hl:op.toNat<(P3.map fun s=>(AV.p (PV.sc (.string s)))).length:=by rw[hlen];omega
   rw[Nat.mul_one,ch,cb hl,ic,List.getElem_map,ch,cb (by simpa using hl),ic]
 · rw[nm,if_neg (by omega)]
def rV (op:Int):Bool:=decide (op=40∨op=44∨op=45∨op=46∨op=47∨op=54∨op=58∨op=59)
def Gp (op:Int):Int:=if op=40∨op=54 then 2 else if op=46∨op=47∨op=59 then 1 else 0
def MI (op:Int):Bool:=decide (op=2∨op=3∨op=4)
def MJ (op:Int):Bool:=decide (op=12∨op=13∨op=16∨op=17∨(32≤op∧op≤36))
theorem qv (op:Int):an acb env 162 [sI .i64 op] [] (.au [sI .u32 (Gp op),sB (rV op)]) []:=by
 refine af aM (MF op) ?_
 simp only[HT,az.ok,beq_iff_eq,beq_eq_false_iff_ne]
 repeat' first | apply And.intro | (intro h)
 all_goals first | assumption | (simp only[Gp,rV];simp_all;done)
def ZL (op:Int):AV:= .agg [sB (MI op),sB (decide (op=4)),sB (rV op||MJ op||decide (op=14)),sB (rV op),sB (decide (op=65)),sB (decide (op=14))]
theorem VD {op:Int} {x1 x2 x3 x4 x5 x6:Bool} (h1:x1=true↔MI op=true) (h2:x2=true↔op=4) (h3:x3=true↔rV op=true∨MJ op=true∨op=14) (h4:x4=true↔rV op=true) (h5:x5=true↔op=65) (h6:x6=true↔op=14) :
  Out.ret (.agg [.p (.sc (.bool x1)),.p (.sc (.bool x2)),.p (.sc (.bool x3)),.p (.sc (.bool x4)),.p (.sc (.bool x5)),.p (.sc (.bool x6))]) []=Out.ret (ZL op) []:=by
 obtain rfl:x1=MI op:=aet.2 h1
 obtain rfl:x2=decide (op=4):=aet.2 (by rw[h2,decide_eq_true_eq])
 obtain rfl:x3=(rV op||MJ op||decide (op=14)):=aet.2 (by rw[h3,il,il,decide_eq_true_eq,or_assoc])
 obtain rfl:x4=rV op:=aet.2 h4
 obtain rfl:x5=decide (op=65):=aet.2 (by rw[h5,decide_eq_true_eq])
 obtain rfl:x6=decide (op=14):=aet.2 (by rw[h6,decide_eq_true_eq])
 rfl
theorem D6 {op:Int}:rV op=true↔(op=40∨op=44∨op=45∨op=46∨op=47∨op=54∨op=58∨op=59):=decide_eq_true_iff
theorem MK {op:Int}:MI op=true↔(op=2∨op=3∨op=4):=decide_eq_true_iff
theorem ML {op:Int}:MJ op=true↔(op=12∨op=13∨op=16∨op=17∨(32≤op∧op≤36)):=decide_eq_true_iff
set_option maxHeartbeats 2000000 in
theorem JS (op:Int):an acb env 148 [sI .i64 op] [] (ZL op) []:=by
 refine af aM (MG op (Gp op) (rV op)) ?_
 simp only[HU,fy,az.ok,beq_iff_eq,beq_eq_false_iff_ne]
 refine⟨qv op,?_⟩
 rw[←Bool.not_eq_true,D6]
 repeat' first | apply And.intro | (intro h)
 all_goals first | assumption | (refine VD ?_ ?_ ?_ ?_ ?_ ?_<;>simp only[D6,MK,ML,true_iff,Bool.false_eq_true,false_iff]<;>omega)
def vk (e0 u1 u2 u3 u4 u5 u6 e1 e2 e3 e4 e5 e6 e7 e8 e9:Bool):Bool:= !e0&&(!e1&&(!e2&&((u1 || !(e3||e4))&&((u2 || !e5)&&((u3||e6)&&((u4||e7)&&((u5||e8)&&(u6||e9))))))))
set_option maxHeartbeats 4000000 in
theorem VE (op r a b nn:Int) (tg:List Int) (ll le:List Ins) (s:ByteArray) (u1 u2 u3 u4 u5 u6:Bool) (h1:an acb env 148 [sI .i64 op] [] (.agg [sB u1,sB u2,sB u3,sB u4,sB u5,sB u6]) []) (h2:an acb env 149 [sI .i64 op] [] (.p (.sc (.string s))) []) :
  an acb env 125 [dO op r a b nn tg ll le] [] (sB (vk (s.data.toList==(aeO #[]).data.toList) u1 u2 u3 u4 u5 u6 (decide (r<0)) (decide (r>1)) (r != 0) (decide ((ll.length:Int)>0)) (decide ((le.length:Int)>0)) (a==0) (b==0) (nn==0) ((tg.length:Int)==0))) []:=by
 refine af aM (MH op r a b nn tg ll le s u1 u2 u3 u4 u5 u6) ?_
 simp only[HV,tO,fS,lQ,bF,az.ok]
 refine⟨h1,h2,?_⟩
 generalize (s.data.toList==(aeO #[]).data.toList)=e0
 generalize decide (r<0)=e1
 generalize decide (r>1)=e2
 generalize (r != 0)=e3
 generalize decide ((ll.length:Int)>0)=e4
 generalize decide ((le.length:Int)>0)=e5
 generalize (a==0)=e6
 generalize (b==0)=e7
 generalize (nn==0)=e8
 generalize ((tg.length:Int)==0)=e9
 cases e0
 case true=>simp[vk]
 cases e1
 case true=>simp[vk]
 cases e2
 case true=>simp[vk]
 cases u1<;>cases e3<;>cases e4<;>(try (simp[vk];done))<;>cases u2<;>cases e5<;>(try (simp[vk];done))<;>cases u3<;>cases e6<;>(try (simp[vk];done))<;>cases u4<;>cases e7<;>(try (simp[vk];done))<;>cases u5<;>cases e8<;>(try (simp[vk];done))<;>cases u6<;>simp[vk]
end Go.Proofs.YtdmmllcjgjmbbaaGreatDoor.N
end
section
namespace Go.Proofs.YtdmmllcjgjmbbaaGreatDoor.N
open Go Go.Am
end Go.Proofs.YtdmmllcjgjmbbaaGreatDoor.N
end
section
namespace Go.Proofs.YtdmmllcjgjmbbaaGreatDoor.N
open Go Go.Am
def tQ:Ins→Bool
 |.mk op r a b nn tg ll le=>vk ((nm op).data.toList==(aeO #[]).data.toList) (MI op) (decide (op=4)) (rV op||MJ op||decide (op=14)) (rV op) (decide (op=65)) (decide (op=14)) (decide (r<0)) (decide (r>1)) (r != 0) (decide ((ll.length:Int)>0)) (decide ((le.length:Int)>0)) (a==0) (b==0) (nn==0) ((tg.length:Int)==0)
theorem A1 (x:Ins):an acb env 125 [QL x] [] (sB (tQ x)) []:=by
 obtain⟨op,r,a,b,nn,tg,ll,le⟩:=x
 exact VE op r a b nn tg ll le (nm op) _ _ _ _ _ _ (JS op) (JR op)
end Go.Proofs.YtdmmllcjgjmbbaaGreatDoor.N
end
