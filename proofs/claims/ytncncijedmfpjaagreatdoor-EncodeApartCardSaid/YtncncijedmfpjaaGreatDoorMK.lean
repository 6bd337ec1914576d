import Derived.Test.YtncncijedmfpjaaGreatDoorMH
import Derived.Test.YtncncijedmfpjaaGreatDoorMJ
open Go.Proofs.Tryz renaming prog→ae
open List renaming length_append→dT,getElem?_eq_some_iff→ee,flatMap→ac6,nil_append→Ps,drop_zero→acw,length_nil→acA,map→acC
open Go.IntKind renaming i64→sa,u32→acu
open Option renaming none→acH,some→acI
open Int renaming toNat_natCast→acN
open Bool renaming and_eq_true→dp,and_true→ac7
open Nat renaming ble_eq→acO
noncomputable section
section
set_option linter.unusedSimpArgs false
set_option linter.unusedVariables false
namespace Go.Proofs.YtncncijedmfpjaaGreatDoor.N
open Go Go.Am
def Tm:bN:=aP aF aC [(63,0)] [] []
def XX:Sc:= .fin
def O1 (M:Mo):aA:=
 (.at (af ae env 63 0 [.mp 0 0,fE,.p (.ps M.aZ.length 3 (ac6 bp M.aZ)),sI .i64 (↑M.aZ.length:Int),sI .i64 0] ([.pc M.aJ]) 0 37))
theorem Ls (M:Mo):aG ae env Tm 1000000 63 ([AV.agg (acC AV.p M.aJ)]) ([]) XX=O1 M:=by kernel_rfl
def Tn:bN:=aP aF aC [(108,0)] [] []
def XY:Sc:= .fin
def O2 (M:Mo):aA:=
 (.at (af ae env 108 0 [.mp 0 0,fE,.p (.ps M.fns.length 3 (ac6 aO M.fns)),sI .i64 (↑M.fns.length:Int),sI .i64 0] ([.pc M.aJ]) 0 66))
theorem Lt (M:Mo):aG ae env Tn 1000000 108 ([AV.agg (acC AV.p M.aJ)]) ([]) XY=O2 M:=by kernel_rfl
def O3:bN:=aP aF aC [(63,0),(63,2)] [(63,0,1)] [(63,5,0),(63,5,1)]
def To:Sc:= .fin
def wk (M:Mo) (n:Nat) (k:Nat) (i:Nat) (cs:List PV) (a:List PV):aA:=
 (.test (decide ((↑i:Int)<(↑k:Int)))
 (.must (aM (↑i:Int) k&&true&&true)
 (.must (isStr (av cs (aB i*3))&&(isStr (av cs (aB i*3+1))&&(isInt sa (av cs (aB i*3+1+1))&&true))&&true)
 (.at (af ae env 63 0 [.mp 0 0,.os (some 1) 2 1 [.sc (.string (bh (av cs (aB i*3)))),.sc (.string (bh (av cs (aB i*3+1))))],.p (.ps k 3 cs),sI .i64 (↑k:Int),sI .i64 (sa.wrap ((↑i:Int)+1))] ([.pc M.aJ,.tok]) 0 37))))
 (.at (af ae env 63 2 [fE,.p (.ps M.exs.length 3 (ac6 bB M.exs)),sI .i64 (↑M.exs.length:Int),sI .i64 0] ([]) 0 37)))
theorem zw (M:Mo) (n:Nat) (k:Nat) (i:Nat) (cs:List PV) (a:List PV):grow ae env O3 1000000 true (af ae env 63 0 ([AV.mp 0 0,AV.os acH 0 0 [],AV.p (PV.ps k 3 cs),sI sa (↑k:Int),sI sa (↑i:Int)]) ([aN.pc M.aJ]) 0 37) To atEnd=wk M n k i cs a:=by kernel_rfl
def O4:bN:=aP aF aC [(63,0),(63,2)] [(63,0,1)] [(63,5,0),(63,5,1),(63,6,6)]
def Tp:Sc:= .fin
def wo (M:Mo) (n:Nat) (k:Nat) (i:Nat) (cs:List PV) (a:List PV):aA:=
 (.test (decide ((↑i:Int)<(↑k:Int)))
 (.must (aM (↑i:Int) k&&true&&true)
 (.must (isStr (av cs (aB i*3))&&(isStr (av cs (aB i*3+1))&&(isInt sa (av cs (aB i*3+1+1))&&true))&&true)
 (.must (((n+2)*16).ble bH&&(n+2).ble bH&&true)
 (.at (af ae env 63 0 [.mp 0 0,.os (some 1) (n+2) 1 (a++[.sc (.string (bh (av cs (aB i*3)))),.sc (.string (bh (av cs (aB i*3+1))))]),.p (.ps k 3 cs),sI .i64 (↑k:Int),sI .i64 (sa.wrap ((↑i:Int)+1))] ([.pc M.aJ,.tok]) 0 37)))))
 (.at (af ae env 63 2 [.os (some 0) n 1 a,.p (.ps M.exs.length 3 (ac6 bB M.exs)),sI .i64 (↑M.exs.length:Int),sI .i64 0] ([.tok]) 0 37)))
theorem zx (M:Mo) (n:Nat) (k:Nat) (i:Nat) (cs:List PV) (a:List PV):grow ae env O4 1000000 true (af ae env 63 0 ([AV.mp 0 0,AV.os (acI 1) n 1 a,AV.p (PV.ps k 3 cs),sI sa (↑k:Int),sI sa (↑i:Int)]) ([aN.pc M.aJ,aN.tok]) 0 37) Tp atEnd=wo M n k i cs a:=by kernel_rfl
def O5:bN:=aP aF aC [(63,0),(63,2)] [(63,0,3)] [(63,10,0),(63,10,1)]
def Tq:Sc:= .fin
def wq (n:Nat) (k:Nat) (i:Nat) (cs:List PV) (a:List PV):aA:=
 (.test (decide ((↑i:Int)<(↑k:Int)))
 (.must (aM (↑i:Int) k&&true&&true)
 (.must (isStr (av cs (aB i*3))&&(isInt sa (av cs (aB i*3+1))&&(isInt acu (av cs (aB i*3+1+1))&&true))&&true)
 (.at (af ae env 63 2 [.os (some 0) 1 1 [.sc (.string (bh (av cs (aB i*3))))],.p (.ps k 3 cs),sI .i64 (↑k:Int),sI .i64 (sa.wrap ((↑i:Int)+1))] ([.tok]) 0 37))))
 (.out (.ret (fE) [])))
theorem zy (n:Nat) (k:Nat) (i:Nat) (cs:List PV) (a:List PV):grow ae env O5 1000000 true (af ae env 63 2 ([AV.os acH 0 0 [],AV.p (PV.ps k 3 cs),sI sa (↑k:Int),sI sa (↑i:Int)]) ([]) 0 37) Tq atEnd=wq n k i cs a:=by kernel_rfl
def O6:bN:=aP aF aC [(63,0),(63,2)] [(63,0,3)] [(63,10,0),(63,10,1),(63,11,4)]
def Tr:Sc:= .fin
def wu (n:Nat) (k:Nat) (i:Nat) (cs:List PV) (a:List PV):aA:=
 (.test (decide ((↑i:Int)<(↑k:Int)))
 (.must (aM (↑i:Int) k&&true&&true)
 (.must (isStr (av cs (aB i*3))&&(isInt sa (av cs (aB i*3+1))&&(isInt acu (av cs (aB i*3+1+1))&&true))&&true)
 (.must (((n+1)*16).ble bH&&(n+1).ble bH&&true)
 (.at (af ae env 63 2 [.os (some 0) (n+1) 1 (a++[.sc (.string (bh (av cs (aB i*3))))]),.p (.ps k 3 cs),sI .i64 (↑k:Int),sI .i64 (sa.wrap ((↑i:Int)+1))] ([.tok]) 0 37)))))
 (.out (.ret (.os (some 0) n 1 a) [.tok])))
theorem zz (n:Nat) (k:Nat) (i:Nat) (cs:List PV) (a:List PV):grow ae env O6 1000000 true (af ae env 63 2 ([AV.os (acI 0) n 1 a,AV.p (PV.ps k 3 cs),sI sa (↑k:Int),sI sa (↑i:Int)]) ([aN.tok]) 0 37) Tr atEnd=wu n k i cs a:=by kernel_rfl
def O7:bN:=aP aF aC [(108,0),(108,2)] [(108,0,1)] [(108,5,0),(108,5,1)]
def Ts:Sc:= .fin
def wv (M:Mo) (n:Nat) (k:Nat) (i:Nat) (cs:List PV) (a:List PV):aA:=
 (.test (decide ((↑i:Int)<(↑k:Int)))
 (.must (aM (↑i:Int) k&&true&&true)
 (.must (isInt sa (av cs (aB i*3))&&(isInt sa (av cs (aB i*3+1))&&(aQ (av cs (aB i*3+1+1))&&true))&&true)
 (.at (af ae env 108 0 [.mp 0 0,.os (some 1) 1 1 [.ps (az (av cs (aB i*3+1+1))) (aR (av cs (aB i*3+1+1))) (an (av cs (aB i*3+1+1)))],.p (.ps k 3 cs),sI .i64 (↑k:Int),sI .i64 (sa.wrap ((↑i:Int)+1))] ([.pc M.aJ,.tok]) 0 66))))
 (.at (af ae env 108 2 [.mp 0 0,fE,.p (.ps M.gls.length 2 (ac6 bP M.gls)),sI .i64 (↑M.gls.length:Int),sI .i64 0] ([.pc M.aJ]) 0 66)))
theorem zA (M:Mo) (n:Nat) (k:Nat) (i:Nat) (cs:List PV) (a:List PV):grow ae env O7 1000000 true (af ae env 108 0 ([AV.mp 0 0,AV.os acH 0 0 [],AV.p (PV.ps k 3 cs),sI sa (↑k:Int),sI sa (↑i:Int)]) ([aN.pc M.aJ]) 0 66) Ts atEnd=wv M n k i cs a:=by kernel_rfl
def O8:bN:=aP aF aC [(108,0),(108,2)] [(108,0,1)] [(108,5,0),(108,5,1),(108,6,5)]
def Tt:Sc:= .fin
def wz (M:Mo) (n:Nat) (k:Nat) (i:Nat) (cs:List PV) (a:List PV):aA:=
 (.test (decide ((↑i:Int)<(↑k:Int)))
 (.must (aM (↑i:Int) k&&true&&true)
 (.must (isInt sa (av cs (aB i*3))&&(isInt sa (av cs (aB i*3+1))&&(aQ (av cs (aB i*3+1+1))&&true))&&true)
 (.must (((n+1)*24).ble bH&&(n+1).ble bH&&true)
 (.at (af ae env 108 0 [.mp 0 0,.os (some 1) (n+1) 1 (a++[.ps (az (av cs (aB i*3+1+1))) (aR (av cs (aB i*3+1+1))) (an (av cs (aB i*3+1+1)))]),.p (.ps k 3 cs),sI .i64 (↑k:Int),sI .i64 (sa.wrap ((↑i:Int)+1))] ([.pc M.aJ,.tok]) 0 66)))))
 (.at (af ae env 108 2 [.mp 0 0,.os (some 1) n 1 a,.p (.ps M.gls.length 2 (ac6 bP M.gls)),sI .i64 (↑M.gls.length:Int),sI .i64 0] ([.pc M.aJ,.tok]) 0 66)))
theorem zB (M:Mo) (n:Nat) (k:Nat) (i:Nat) (cs:List PV) (a:List PV):grow ae env O8 1000000 true (af ae env 108 0 ([AV.mp 0 0,AV.os (acI 1) n 1 a,AV.p (PV.ps k 3 cs),sI sa (↑k:Int),sI sa (↑i:Int)]) ([aN.pc M.aJ,aN.tok]) 0 66) Tt atEnd=wz M n k i cs a:=by kernel_rfl
def O9:bN:=aP aF aC [(108,2),(108,4)] [(108,0,3)] [(108,10,0),(108,10,1)]
def Tu:Sc:= .fin
def wA (M:Mo) (n:Nat) (k:Nat) (i:Nat) (cs:List PV) (a:List PV):aA:=
 (.test (decide ((↑i:Int)<(↑k:Int)))
 (.must (aM (↑i:Int) k&&true&&true)
 (.must (isBool (av cs (aB i*2))&&(aQ (av cs (aB i*2+1))&&true)&&true)
 (.at (af ae env 108 2 [.mp 0 0,.os (some 1) 1 1 [.ps (az (av cs (aB i*2+1))) (aR (av cs (aB i*2+1))) (an (av cs (aB i*2+1)))],.p (.ps k 2 cs),sI .i64 (↑k:Int),sI .i64 (sa.wrap ((↑i:Int)+1))] ([.pc M.aJ,.tok]) 0 66))))
 (.at (af ae env 108 4 [.mp 0 0,fE,.p (.ps M.els.length 2 (ac6 aW M.els)),sI .i64 (↑M.els.length:Int),sI .i64 0] ([.pc M.aJ]) 0 66)))
theorem zC (M:Mo) (n:Nat) (k:Nat) (i:Nat) (cs:List PV) (a:List PV):grow ae env O9 1000000 true (af ae env 108 2 ([AV.mp 0 0,AV.os acH 0 0 [],AV.p (PV.ps k 2 cs),sI sa (↑k:Int),sI sa (↑i:Int)]) ([aN.pc M.aJ]) 0 66) Tu atEnd=wA M n k i cs a:=by kernel_rfl
def Pa:bN:=aP aF aC [(108,2),(108,4)] [(108,0,3)] [(108,10,0),(108,10,1),(108,11,4)]
def Tv:Sc:= .fin
def wC (M:Mo) (n:Nat) (k:Nat) (i:Nat) (cs:List PV) (a:List PV):aA:=
 (.test (decide ((↑i:Int)<(↑k:Int)))
 (.must (aM (↑i:Int) k&&true&&true)
 (.must (isBool (av cs (aB i*2))&&(aQ (av cs (aB i*2+1))&&true)&&true)
 (.must (((n+1)*24).ble bH&&(n+1).ble bH&&true)
 (.at (af ae env 108 2 [.mp 0 0,.os (some 1) (n+1) 1 (a++[.ps (az (av cs (aB i*2+1))) (aR (av cs (aB i*2+1))) (an (av cs (aB i*2+1)))]),.p (.ps k 2 cs),sI .i64 (↑k:Int),sI .i64 (sa.wrap ((↑i:Int)+1))] ([.pc M.aJ,.tok]) 0 66)))))
 (.at (af ae env 108 4 [.mp 0 0,.os (some 1) n 1 a,.p (.ps M.els.length 2 (ac6 aW M.els)),sI .i64 (↑M.els.length:Int),sI .i64 0] ([.pc M.aJ,.tok]) 0 66)))
theorem zD (M:Mo) (n:Nat) (k:Nat) (i:Nat) (cs:List PV) (a:List PV):grow ae env Pa 1000000 true (af ae env 108 2 ([AV.mp 0 0,AV.os (acI 1) n 1 a,AV.p (PV.ps k 2 cs),sI sa (↑k:Int),sI sa (↑i:Int)]) ([aN.pc M.aJ,aN.tok]) 0 66) Tv atEnd=wC M n k i cs a:=by kernel_rfl
def Pb:bN:=aP aF aC [(108,4),(108,6)] [(108,0,5)] [(108,15,0),(108,15,1)]
def Tw:Sc:= .fin
def wD (M:Mo) (n:Nat) (k:Nat) (i:Nat) (cs:List PV) (a:List PV):aA:=
 (.test (decide ((↑i:Int)<(↑k:Int)))
 (.must (aM (↑i:Int) k&&true&&true)
 (.must (aQ (av cs (aB i*2))&&(aQ (av cs (aB i*2+1))&&true)&&true)
 (.at (af ae env 108 4 [.mp 0 0,.os (some 1) 1 1 [.ps (az (av cs (aB i*2))) (aR (av cs (aB i*2))) (an (av cs (aB i*2)))],.p (.ps k 2 cs),sI .i64 (↑k:Int),sI .i64 (sa.wrap ((↑i:Int)+1))] ([.pc M.aJ,.tok]) 0 66))))
 (.at (af ae env 108 6 [fE,.p (.ps M.aY.length 2 (ac6 bq M.aY)),sI .i64 (↑M.aY.length:Int),sI .i64 0] ([]) 0 66)))
theorem zE (M:Mo) (n:Nat) (k:Nat) (i:Nat) (cs:List PV) (a:List PV):grow ae env Pb 1000000 true (af ae env 108 4 ([AV.mp 0 0,AV.os acH 0 0 [],AV.p (PV.ps k 2 cs),sI sa (↑k:Int),sI sa (↑i:Int)]) ([aN.pc M.aJ]) 0 66) Tw atEnd=wD M n k i cs a:=by kernel_rfl
def Pc:bN:=aP aF aC [(108,4),(108,6)] [(108,0,5)] [(108,15,0),(108,15,1),(108,16,4)]
def Tx:Sc:= .fin
def wE (M:Mo) (n:Nat) (k:Nat) (i:Nat) (cs:List PV) (a:List PV):aA:=
 (.test (decide ((↑i:Int)<(↑k:Int)))
 (.must (aM (↑i:Int) k&&true&&true)
 (.must (aQ (av cs (aB i*2))&&(aQ (av cs (aB i*2+1))&&true)&&true)
 (.must (((n+1)*24).ble bH&&(n+1).ble bH&&true)
 (.at (af ae env 108 4 [.mp 0 0,.os (some 1) (n+1) 1 (a++[.ps (az (av cs (aB i*2))) (aR (av cs (aB i*2))) (an (av cs (aB i*2)))]),.p (.ps k 2 cs),sI .i64 (↑k:Int),sI .i64 (sa.wrap ((↑i:Int)+1))] ([.pc M.aJ,.tok]) 0 66)))))
 (.at (af ae env 108 6 [.os (some 0) n 1 a,.p (.ps M.aY.length 2 (ac6 bq M.aY)),sI .i64 (↑M.aY.length:Int),sI .i64 0] ([.tok]) 0 66)))
theorem zF (M:Mo) (n:Nat) (k:Nat) (i:Nat) (cs:List PV) (a:List PV):grow ae env Pc 1000000 true (af ae env 108 4 ([AV.mp 0 0,AV.os (acI 1) n 1 a,AV.p (PV.ps k 2 cs),sI sa (↑k:Int),sI sa (↑i:Int)]) ([aN.pc M.aJ,aN.tok]) 0 66) Tx atEnd=wE M n k i cs a:=by kernel_rfl
def Pd:bN:=aP aF aC [(108,6)] [(108,0,7)] [(108,20,0),(108,20,1)]
def Tz:Sc:= .fin
def wF (n:Nat) (k:Nat) (i:Nat) (cs:List PV) (a:List PV):aA:=
 (.test (decide ((↑i:Int)<(↑k:Int)))
 (.must (aM (↑i:Int) k&&true&&true)
 (.must (aQ (av cs (aB i*2))&&(aQ (av cs (aB i*2+1))&&true)&&true)
 (.at (af ae env 108 6 [.os (some 0) 1 1 [.ps (az (av cs (aB i*2))) (aR (av cs (aB i*2))) (an (av cs (aB i*2)))],.p (.ps k 2 cs),sI .i64 (↑k:Int),sI .i64 (sa.wrap ((↑i:Int)+1))] ([.tok]) 0 66))))
 (.out (.ret (fE) [])))
theorem zG (n:Nat) (k:Nat) (i:Nat) (cs:List PV) (a:List PV):grow ae env Pd 1000000 true (af ae env 108 6 ([AV.os acH 0 0 [],AV.p (PV.ps k 2 cs),sI sa (↑k:Int),sI sa (↑i:Int)]) ([]) 0 66) Tz atEnd=wF n k i cs a:=by kernel_rfl
def Pe:bN:=aP aF aC [(108,6)] [(108,0,7)] [(108,20,0),(108,20,1),(108,21,4)]
def TA:Sc:= .fin
def wG (n:Nat) (k:Nat) (i:Nat) (cs:List PV) (a:List PV):aA:=
 (.test (decide ((↑i:Int)<(↑k:Int)))
 (.must (aM (↑i:Int) k&&true&&true)
 (.must (aQ (av cs (aB i*2))&&(aQ (av cs (aB i*2+1))&&true)&&true)
 (.must (((n+1)*24).ble bH&&(n+1).ble bH&&true)
 (.at (af ae env 108 6 [.os (some 0) (n+1) 1 (a++[.ps (az (av cs (aB i*2))) (aR (av cs (aB i*2))) (an (av cs (aB i*2)))]),.p (.ps k 2 cs),sI .i64 (↑k:Int),sI .i64 (sa.wrap ((↑i:Int)+1))] ([.tok]) 0 66)))))
 (.out (.ret (.os (some 0) n 1 a) [.tok])))
theorem zH (n:Nat) (k:Nat) (i:Nat) (cs:List PV) (a:List PV):grow ae env Pe 1000000 true (af ae env 108 6 ([AV.os (acI 0) n 1 a,AV.p (PV.ps k 2 cs),sI sa (↑k:Int),sI sa (↑i:Int)]) ([aN.tok]) 0 66) TA atEnd=wG n k i cs a:=by kernel_rfl
structure _root_.Go.Am.Mo.fit (M:Mo):Prop where
 tys:M.tys.length≤1000000
 aZ:M.aZ.length≤1000000
 fns:M.fns.length≤1000000
 dh:M.dh.length≤1000000
 dw:M.dw.length≤1000000
 gls:M.gls.length≤1000000
 exs:M.exs.length≤1000000
 els:M.els.length≤1000000
 aY:M.aY.length≤1000000
theorem Ig:(1000000000:Nat)≤bH:=Nat.le_of_ble_eq_true (by kernel_rfl)
theorem nV {α:Type} {l:List α} {f:α→List PV} {D:List PV→Nat→cg} {K:List PV→Prop} {o:Out} {B:Nat}
  (step : ∀(a:List PV) (i:Nat) (x:α),l[i]? = some x→(a++f x).length≤B→bD ae env (D (a++f x) (i+1)) o→bD ae env (D a i) o)
  (fin : ∀a:List PV,K a→bD ae env (D a l.length) o) :
  ∀(r i:Nat) (a:List PV),i+r=l.length→(a++(l.drop i).flatMap f).length≤B→K (a++(l.drop i).flatMap f)→bD ae env (D a i) o:=by
 intro r
 induction r with
 |zero=>
  intro i a hi hB h
  obtain rfl:i=l.length:=by omega
  rw[List.drop_length,List.flatMap_nil,List.append_nil] at h
  exact fin a h
 |succ r ih=>
  intro i a hi hB h
  have hl:i<l.length:=by omega
  rw[List.drop_eq_getElem_cons hl,List.flatMap_cons,←List.append_assoc] at h hB
  refine step a i l[i] (List.getElem?_eq_getElem hl) ?_ (ih (i+1) _ (by omega) hB h)
  rw[dT] at hB
  omega
def Lu (a:List PV):Out:=if a=[] then .ret (.os none 0 0 []) [] else .ret (.os (some 0) a.length 1 a) [.tok]
def RD (x:Im):List PV:=[.sc (.string x.mo),.sc (.string x.nm)]
def NW (x:Ex):List PV:=[.sc (.string x.nm)]
def RE (x:Fu):List PV:=[pL x.l]
def TB (x:Gl):List PV:=[pL x.l]
def Wz (x:El):List PV:=[pL x.l]
def XZ (x:Da):List PV:=[pL x.l]
def Ih (M:Mo) (a:List PV) (i:Nat):cg:=
 if a=[] then af ae env 63 0 [.mp 0 0,.os none 0 0 [],.p (.ps M.aZ.length 3 (M.aZ.flatMap bp)),sI .i64 M.aZ.length,sI .i64 i] [.pc M.aJ] 0 37
 else af ae env 63 0 [.mp 0 0,.os (some 1) a.length 1 a,.p (.ps M.aZ.length 3 (M.aZ.flatMap bp)),sI .i64 M.aZ.length,sI .i64 i] [.pc M.aJ,.tok] 0 37
def Fl (M:Mo) (a:List PV) (i:Nat):cg:=
 if a=[] then af ae env 63 2 [.os none 0 0 [],.p (.ps M.exs.length 3 (M.exs.flatMap bB)),sI .i64 M.exs.length,sI .i64 i] [] 0 37
 else af ae env 63 2 [.os (some 0) a.length 1 a,.p (.ps M.exs.length 3 (M.exs.flatMap bB)),sI .i64 M.exs.length,sI .i64 i] [.tok] 0 37
theorem Ii (M:Mo) (hM:M.fit) (o:Out) (a:List PV) (i:Nat) (x:Im) (hx:M.aZ[i]? = some x) (hB:(a++RD x).length≤10000000) (h:bD ae env (Ih M (a++RD x) (i+1)) o):bD ae env (Ih M a i) o:=by
 have hi:i<M.aZ.length:=(ee.1 hx).1
 have c:=aU (z:=3) (enc:=bp) (fun _=>rfl) hx
 have c0:(M.aZ.flatMap bp).getD (i*3) .bk = .sc (.string x.mo):=c 0 (by decide)
 have c1:(M.aZ.flatMap bp).getD (i*3+1) .bk = .sc (.string x.nm):=c 1 (by decide)
 have c2:(M.aZ.flatMap bp).getD (i*3+1+1) .bk = .sc (.int .i64 x.ty):=c 2 (by decide)
 have hl:=hM.aZ
 have hL:=Ig
 have w:sa.wrap ((i:Int)+1)=((i+1:Nat):Int):=by rw[bA (by omega) (by omega)];rfl
 have hd:decide ((i:Int)<(M.aZ.length:Int))=true:=by simp;omega
 unfold Ih at h ⊢
 by_cases e:a=[]
 · subst e
   rw[if_neg (by simp[RD]),Ps] at h
   rw[if_pos rfl]
   refine ah aI (zw M 0 M.aZ.length i (M.aZ.flatMap bp) []) ?_
   simp only[wk,bu,aA.ok,isStr,isInt,aQ,isBool,bh,aq,bg,az,aR,an,aM,acN,c0,c1,c2,hd,w]
   exact⟨fun _=>⟨by first | (simp;done) | (simp;omega),rfl,h⟩,fun q=>by cases q⟩
 · rw[if_neg (by simp[e])] at h
   rw[if_neg e]
   refine ah aI (zx M a.length M.aZ.length i (M.aZ.flatMap bp) a) ?_
   rw[dT] at h hB
   have hB:a.length+2≤10000000:=hB
   simp only[wo,bu,aA.ok,isStr,isInt,aQ,isBool,bh,aq,bg,az,aR,an,aM,acN,c0,c1,c2,hd,w]
   exact⟨fun _=>⟨by first | (simp;done) | (simp;omega),rfl,by simp only[ac7,dp,acO];omega,h⟩,fun q=>by cases q⟩
theorem Lv (M:Mo) (o:Out) (a:List PV) (h:bD ae env (Fl M a 0) o):bD ae env (Ih M a M.aZ.length) o:=by
 have hd:decide ((M.aZ.length:Int)<(M.aZ.length:Int))=false:=by simp
 unfold Fl at h
 unfold Ih
 by_cases e:a=[]
 · subst e
   rw[if_pos rfl] at h ⊢
   refine ah aI (zw M 0 M.aZ.length M.aZ.length (M.aZ.flatMap bp) []) ?_
   simp only[wk,bu,aA.ok,hd]
   exact⟨fun q=>(by cases q),fun _=>h⟩
 · rw[if_neg e] at h ⊢
   refine ah aI (zx M a.length M.aZ.length M.aZ.length (M.aZ.flatMap bp) a) ?_
   simp only[wo,bu,aA.ok,hd]
   exact⟨fun q=>(by cases q),fun _=>h⟩
theorem Ij (M:Mo) (hM:M.fit) (o:Out) (a:List PV) (i:Nat) (x:Ex) (hx:M.exs[i]? = some x) (hB:(a++NW x).length≤10000000) (h:bD ae env (Fl M (a++NW x) (i+1)) o):bD ae env (Fl M a i) o:=by
 have hi:i<M.exs.length:=(ee.1 hx).1
 have c:=aU (z:=3) (enc:=bB) (fun _=>rfl) hx
 have c0:(M.exs.flatMap bB).getD (i*3) .bk = .sc (.string x.nm):=c 0 (by decide)
 have c1:(M.exs.flatMap bB).getD (i*3+1) .bk = .sc (.int .i64 x.kind):=c 1 (by decide)
 have c2:(M.exs.flatMap bB).getD (i*3+1+1) .bk = .sc (.int .u32 x.ix):=c 2 (by decide)
 have hl:=hM.exs
 have hL:=Ig
 have w:sa.wrap ((i:Int)+1)=((i+1:Nat):Int):=by rw[bA (by omega) (by omega)];rfl
 have hd:decide ((i:Int)<(M.exs.length:Int))=true:=by simp;omega
 unfold Fl at h ⊢
 by_cases e:a=[]
 · subst e
   rw[if_neg (by simp[NW]),Ps] at h
   rw[if_pos rfl]
   refine ah aI (zy 0 M.exs.length i (M.exs.flatMap bB) []) ?_
   simp only[wq,bu,aA.ok,isStr,isInt,aQ,isBool,bh,aq,bg,az,aR,an,aM,acN,c0,c1,c2,hd,w]
   exact⟨fun _=>⟨by first | (simp;done) | (simp;omega),rfl,h⟩,fun q=>by cases q⟩
 · rw[if_neg (by simp[e])] at h
   rw[if_neg e]
   refine ah aI (zz a.length M.exs.length i (M.exs.flatMap bB) a) ?_
   rw[dT] at h hB
   have hB:a.length+1≤10000000:=hB
   simp only[wu,bu,aA.ok,isStr,isInt,aQ,isBool,bh,aq,bg,az,aR,an,aM,acN,c0,c1,c2,hd,w]
   exact⟨fun _=>⟨by first | (simp;done) | (simp;omega),rfl,by simp only[ac7,dp,acO];omega,h⟩,fun q=>by cases q⟩
theorem Lw (M:Mo) (o:Out) (a:List PV) (h:Lu a=o):bD ae env (Fl M a M.exs.length) o:=by
 have hd:decide ((M.exs.length:Int)<(M.exs.length:Int))=false:=by simp
 unfold Lu at h
 unfold Fl
 by_cases e:a=[]
 · subst e
   rw[if_pos rfl] at h ⊢
   refine ah aI (zy 0 M.exs.length M.exs.length (M.exs.flatMap bB) []) ?_
   simp only[wq,bu,aA.ok,hd]
   exact⟨fun q=>(by cases q),fun _=>h⟩
 · rw[if_neg e] at h ⊢
   refine ah aI (zz a.length M.exs.length M.exs.length (M.exs.flatMap bB) a) ?_
   simp only[wu,bu,aA.ok,hd]
   exact⟨fun q=>(by cases q),fun _=>h⟩
def Ik (M:Mo) (a:List PV) (i:Nat):cg:=
 if a=[] then af ae env 108 0 [.mp 0 0,.os none 0 0 [],.p (.ps M.fns.length 3 (M.fns.flatMap aO)),sI .i64 M.fns.length,sI .i64 i] [.pc M.aJ] 0 66
 else af ae env 108 0 [.mp 0 0,.os (some 1) a.length 1 a,.p (.ps M.fns.length 3 (M.fns.flatMap aO)),sI .i64 M.fns.length,sI .i64 i] [.pc M.aJ,.tok] 0 66
def Fm (M:Mo) (a:List PV) (i:Nat):cg:=
 if a=[] then af ae env 108 2 [.mp 0 0,.os none 0 0 [],.p (.ps M.gls.length 2 (M.gls.flatMap bP)),sI .i64 M.gls.length,sI .i64 i] [.pc M.aJ] 0 66
 else af ae env 108 2 [.mp 0 0,.os (some 1) a.length 1 a,.p (.ps M.gls.length 2 (M.gls.flatMap bP)),sI .i64 M.gls.length,sI .i64 i] [.pc M.aJ,.tok] 0 66
def Fo (M:Mo) (a:List PV) (i:Nat):cg:=
 if a=[] then af ae env 108 4 [.mp 0 0,.os none 0 0 [],.p (.ps M.els.length 2 (M.els.flatMap aW)),sI .i64 M.els.length,sI .i64 i] [.pc M.aJ] 0 66
 else af ae env 108 4 [.mp 0 0,.os (some 1) a.length 1 a,.p (.ps M.els.length 2 (M.els.flatMap aW)),sI .i64 M.els.length,sI .i64 i] [.pc M.aJ,.tok] 0 66
def Fp (M:Mo) (a:List PV) (i:Nat):cg:=
 if a=[] then af ae env 108 6 [.os none 0 0 [],.p (.ps M.aY.length 2 (M.aY.flatMap bq)),sI .i64 M.aY.length,sI .i64 i] [] 0 66
 else af ae env 108 6 [.os (some 0) a.length 1 a,.p (.ps M.aY.length 2 (M.aY.flatMap bq)),sI .i64 M.aY.length,sI .i64 i] [.tok] 0 66
theorem Il (M:Mo) (hM:M.fit) (o:Out) (a:List PV) (i:Nat) (x:Fu) (hx:M.fns[i]? = some x) (hB:(a++RE x).length≤10000000) (h:bD ae env (Ik M (a++RE x) (i+1)) o):bD ae env (Ik M a i) o:=by
 have hi:i<M.fns.length:=(ee.1 hx).1
 have c:=aU (z:=3) (enc:=aO) (fun _=>rfl) hx
 have c0:(M.fns.flatMap aO).getD (i*3) .bk = .sc (.int .i64 x.ty):=c 0 (by decide)
 have c1:(M.fns.flatMap aO).getD (i*3+1) .bk = .sc (.int .i64 x.lo):=c 1 (by decide)
 have c2:(M.fns.flatMap aO).getD (i*3+1+1) .bk=pL x.l:=c 2 (by decide)
 have hl:=hM.fns
 have hL:=Ig
 have w:sa.wrap ((i:Int)+1)=((i+1:Nat):Int):=by rw[bA (by omega) (by omega)];rfl
 have hd:decide ((i:Int)<(M.fns.length:Int))=true:=by simp;omega
 unfold Ik at h ⊢
 by_cases e:a=[]
 · subst e
   rw[if_neg (by simp[RE]),Ps] at h
   rw[if_pos rfl]
   refine ah aI (zA M 0 M.fns.length i (M.fns.flatMap aO) []) ?_
   simp only[wv,bu,aA.ok,isStr,isInt,aQ,isBool,bh,aq,bg,az,aR,an,aM,acN,c0,c1,c2,hd,w]
   exact⟨fun _=>⟨by first | (simp;done) | (simp;omega),rfl,h⟩,fun q=>by cases q⟩
 · rw[if_neg (by simp[e])] at h
   rw[if_neg e]
   refine ah aI (zB M a.length M.fns.length i (M.fns.flatMap aO) a) ?_
   rw[dT] at h hB
   have hB:a.length+1≤10000000:=hB
   simp only[wz,bu,aA.ok,isStr,isInt,aQ,isBool,bh,aq,bg,az,aR,an,aM,acN,c0,c1,c2,hd,w]
   exact⟨fun _=>⟨by first | (simp;done) | (simp;omega),rfl,by simp only[ac7,dp,acO];omega,h⟩,fun q=>by cases q⟩
theorem Lx (M:Mo) (o:Out) (a:List PV) (h:bD ae env (Fm M a 0) o):bD ae env (Ik M a M.fns.length) o:=by
 have hd:decide ((M.fns.length:Int)<(M.fns.length:Int))=false:=by simp
 unfold Fm at h
 unfold Ik
 by_cases e:a=[]
 · subst e
   rw[if_pos rfl] at h ⊢
   refine ah aI (zA M 0 M.fns.length M.fns.length (M.fns.flatMap aO) []) ?_
   simp only[wv,bu,aA.ok,hd]
   exact⟨fun q=>(by cases q),fun _=>h⟩
 · rw[if_neg e] at h ⊢
   refine ah aI (zB M a.length M.fns.length M.fns.length (M.fns.flatMap aO) a) ?_
   simp only[wz,bu,aA.ok,hd]
   exact⟨fun q=>(by cases q),fun _=>h⟩
theorem Io (M:Mo) (hM:M.fit) (o:Out) (a:List PV) (i:Nat) (x:Gl) (hx:M.gls[i]? = some x) (hB:(a++TB x).length≤10000000) (h:bD ae env (Fm M (a++TB x) (i+1)) o):bD ae env (Fm M a i) o:=by
 have hi:i<M.gls.length:=(ee.1 hx).1
 have c:=aU (z:=2) (enc:=bP) (fun _=>rfl) hx
 have c0:(M.gls.flatMap bP).getD (i*2) .bk = .sc (.bool x.mu):=c 0 (by decide)
 have c1:(M.gls.flatMap bP).getD (i*2+1) .bk=pL x.l:=c 1 (by decide)
 have hl:=hM.gls
 have hL:=Ig
 have w:sa.wrap ((i:Int)+1)=((i+1:Nat):Int):=by rw[bA (by omega) (by omega)];rfl
 have hd:decide ((i:Int)<(M.gls.length:Int))=true:=by simp;omega
 unfold Fm at h ⊢
 by_cases e:a=[]
 · subst e
   rw[if_neg (by simp[TB]),Ps] at h
   rw[if_pos rfl]
   refine ah aI (zC M 0 M.gls.length i (M.gls.flatMap bP) []) ?_
   simp only[wA,bu,aA.ok,isStr,isInt,aQ,isBool,bh,aq,bg,az,aR,an,aM,acN,c0,c1,hd,w]
   exact⟨fun _=>⟨by first | (simp;done) | (simp;omega),rfl,h⟩,fun q=>by cases q⟩
 · rw[if_neg (by simp[e])] at h
   rw[if_neg e]
   refine ah aI (zD M a.length M.gls.length i (M.gls.flatMap bP) a) ?_
   rw[dT] at h hB
   have hB:a.length+1≤10000000:=hB
   simp only[wC,bu,aA.ok,isStr,isInt,aQ,isBool,bh,aq,bg,az,aR,an,aM,acN,c0,c1,hd,w]
   exact⟨fun _=>⟨by first | (simp;done) | (simp;omega),rfl,by simp only[ac7,dp,acO];omega,h⟩,fun q=>by cases q⟩
theorem Ly (M:Mo) (o:Out) (a:List PV) (h:bD ae env (Fo M a 0) o):bD ae env (Fm M a M.gls.length) o:=by
 have hd:decide ((M.gls.length:Int)<(M.gls.length:Int))=false:=by simp
 unfold Fo at h
 unfold Fm
 by_cases e:a=[]
 · subst e
   rw[if_pos rfl] at h ⊢
   refine ah aI (zC M 0 M.gls.length M.gls.length (M.gls.flatMap bP) []) ?_
   simp only[wA,bu,aA.ok,hd]
   exact⟨fun q=>(by cases q),fun _=>h⟩
 · rw[if_neg e] at h ⊢
   refine ah aI (zD M a.length M.gls.length M.gls.length (M.gls.flatMap bP) a) ?_
   simp only[wC,bu,aA.ok,hd]
   exact⟨fun q=>(by cases q),fun _=>h⟩
theorem Ip (M:Mo) (hM:M.fit) (o:Out) (a:List PV) (i:Nat) (x:El) (hx:M.els[i]? = some x) (hB:(a++Wz x).length≤10000000) (h:bD ae env (Fo M (a++Wz x) (i+1)) o):bD ae env (Fo M a i) o:=by
 have hi:i<M.els.length:=(ee.1 hx).1
 have c:=aU (z:=2) (enc:=aW) (fun _=>rfl) hx
 have c0:(M.els.flatMap aW).getD (i*2) .bk=pL x.l:=c 0 (by decide)
 have c1:(M.els.flatMap aW).getD (i*2+1) .bk=pT .u32 x.fs:=c 1 (by decide)
 have hl:=hM.els
 have hL:=Ig
 have w:sa.wrap ((i:Int)+1)=((i+1:Nat):Int):=by rw[bA (by omega) (by omega)];rfl
 have hd:decide ((i:Int)<(M.els.length:Int))=true:=by simp;omega
 unfold Fo at h ⊢
 by_cases e:a=[]
 · subst e
   rw[if_neg (by simp[Wz]),Ps] at h
   rw[if_pos rfl]
   refine ah aI (zE M 0 M.els.length i (M.els.flatMap aW) []) ?_
   simp only[wD,bu,aA.ok,isStr,isInt,aQ,isBool,bh,aq,bg,az,aR,an,aM,acN,c0,c1,hd,w]
   exact⟨fun _=>⟨by first | (simp;done) | (simp;omega),rfl,h⟩,fun q=>by cases q⟩
 · rw[if_neg (by simp[e])] at h
   rw[if_neg e]
   refine ah aI (zF M a.length M.els.length i (M.els.flatMap aW) a) ?_
   rw[dT] at h hB
   have hB:a.length+1≤10000000:=hB
   simp only[wE,bu,aA.ok,isStr,isInt,aQ,isBool,bh,aq,bg,az,aR,an,aM,acN,c0,c1,hd,w]
   exact⟨fun _=>⟨by first | (simp;done) | (simp;omega),rfl,by simp only[ac7,dp,acO];omega,h⟩,fun q=>by cases q⟩
theorem Lz (M:Mo) (o:Out) (a:List PV) (h:bD ae env (Fp M a 0) o):bD ae env (Fo M a M.els.length) o:=by
 have hd:decide ((M.els.length:Int)<(M.els.length:Int))=false:=by simp
 unfold Fp at h
 unfold Fo
 by_cases e:a=[]
 · subst e
   rw[if_pos rfl] at h ⊢
   refine ah aI (zE M 0 M.els.length M.els.length (M.els.flatMap aW) []) ?_
   simp only[wD,bu,aA.ok,hd]
   exact⟨fun q=>(by cases q),fun _=>h⟩
 · rw[if_neg e] at h ⊢
   refine ah aI (zF M a.length M.els.length M.els.length (M.els.flatMap aW) a) ?_
   simp only[wE,bu,aA.ok,hd]
   exact⟨fun q=>(by cases q),fun _=>h⟩
theorem Iq (M:Mo) (hM:M.fit) (o:Out) (a:List PV) (i:Nat) (x:Da) (hx:M.aY[i]? = some x) (hB:(a++XZ x).length≤10000000) (h:bD ae env (Fp M (a++XZ x) (i+1)) o):bD ae env (Fp M a i) o:=by
 have hi:i<M.aY.length:=(ee.1 hx).1
 have c:=aU (z:=2) (enc:=bq) (fun _=>rfl) hx
 have c0:(M.aY.flatMap bq).getD (i*2) .bk=pL x.l:=c 0 (by decide)
 have c1:(M.aY.flatMap bq).getD (i*2+1) .bk=pT .u8 x.bs:=c 1 (by decide)
 have hl:=hM.aY
 have hL:=Ig
 have w:sa.wrap ((i:Int)+1)=((i+1:Nat):Int):=by rw[bA (by omega) (by omega)];rfl
 have hd:decide ((i:Int)<(M.aY.length:Int))=true:=by simp;omega
 unfold Fp at h ⊢
 by_cases e:a=[]
 · subst e
   rw[if_neg (by simp[XZ]),Ps] at h
   rw[if_pos rfl]
   refine ah aI (zG 0 M.aY.length i (M.aY.flatMap bq) []) ?_
   simp only[wF,bu,aA.ok,isStr,isInt,aQ,isBool,bh,aq,bg,az,aR,an,aM,acN,c0,c1,hd,w]
   exact⟨fun _=>⟨by first | (simp;done) | (simp;omega),rfl,h⟩,fun q=>by cases q⟩
 · rw[if_neg (by simp[e])] at h
   rw[if_neg e]
   refine ah aI (zH a.length M.aY.length i (M.aY.flatMap bq) a) ?_
   rw[dT] at h hB
   have hB:a.length+1≤10000000:=hB
   simp only[wG,bu,aA.ok,isStr,isInt,aQ,isBool,bh,aq,bg,az,aR,an,aM,acN,c0,c1,hd,w]
   exact⟨fun _=>⟨by first | (simp;done) | (simp;omega),rfl,by simp only[ac7,dp,acO];omega,h⟩,fun q=>by cases q⟩
theorem LA (M:Mo) (o:Out) (a:List PV) (h:Lu a=o):bD ae env (Fp M a M.aY.length) o:=by
 have hd:decide ((M.aY.length:Int)<(M.aY.length:Int))=false:=by simp
 unfold Lu at h
 unfold Fp
 by_cases e:a=[]
 · subst e
   rw[if_pos rfl] at h ⊢
   refine ah aI (zG 0 M.aY.length M.aY.length (M.aY.flatMap bq) []) ?_
   simp only[wF,bu,aA.ok,hd]
   exact⟨fun q=>(by cases q),fun _=>h⟩
 · rw[if_neg e] at h ⊢
   refine ah aI (zH a.length M.aY.length M.aY.length (M.aY.flatMap bq) a) ?_
   simp only[wG,bu,aA.ok,hd]
   exact⟨fun q=>(by cases q),fun _=>h⟩
theorem fY {α:Type} {f:α→List PV} {n:Nat} (h : ∀x,(f x).length=n) (l:List α):(l.flatMap f).length=l.length*n:=CV h l
theorem zI {f:FuncId} {args:List AV} {a:List PV} (h : ∀v m',Lu a = .ret v m'→au ae env f args [] v m'):au ae env f args [] (.p (.ps a.length 1 a)) []:=by
 by_cases e:a=[]
 · subst e
   exact au.nil (h _ _ (if_pos rfl)) (Nat.le_refl 1)
 · exact au.pure (h _ _ (if_neg e))
def LB (M:Mo):List PV:=M.aZ.flatMap RD++M.exs.flatMap NW
def Pf (M:Mo):List PV:=M.fns.flatMap RE++M.gls.flatMap TB++M.els.flatMap Wz++M.aY.flatMap XZ
theorem Fq (M:Mo) (hM:M.fit):au ae env 63 [.agg (M.aJ.map .p)] [] (.p (.ps (LB M).length 1 (LB M))) []:=by
 have h1:=hM.aZ
 have h2:=hM.exs
 have l1:=fY (f:=RD) (n:=2) (fun _=>rfl) M.aZ
 have l2:=fY (f:=NW) (n:=1) (fun _=>rfl) M.exs
 refine zI fun v m' e=> ?_
 refine aa aI (Ls M) ?_
 have k2:=nV (B:=10000000) (Ij M hM (.ret v m')) (Lw M _) M.exs.length 0 (M.aZ.flatMap RD) (by omega) (by simp only[acw,dT];omega) e
 have k1:=nV (B:=10000000) (Ii M hM (.ret v m')) (Lv M _) M.aZ.length 0 [] (by omega) (by simp only[acw,dT,acA];omega) k2
 unfold Ih at k1
 rw[if_pos rfl] at k1
 exact k1
theorem Ft (M:Mo) (hM:M.fit):au ae env 108 [.agg (M.aJ.map .p)] [] (.p (.ps (Pf M).length 1 (Pf M))) []:=by
 have h1:=hM.fns
 have h2:=hM.gls
 have h3:=hM.els
 have h4:=hM.aY
 have l1:=fY (f:=RE) (n:=1) (fun _=>rfl) M.fns
 have l2:=fY (f:=TB) (n:=1) (fun _=>rfl) M.gls
 have l3:=fY (f:=Wz) (n:=1) (fun _=>rfl) M.els
 have l4:=fY (f:=XZ) (n:=1) (fun _=>rfl) M.aY
 refine zI fun v m' e=> ?_
 refine aa aI (Lt M) ?_
 have k4:=nV (B:=10000000) (Iq M hM (.ret v m')) (LA M _) M.aY.length 0 (M.fns.flatMap RE++M.gls.flatMap TB++M.els.flatMap Wz) (by omega) (by simp only[acw,dT];omega) e
 have k3:=nV (B:=10000000) (Ip M hM (.ret v m')) (Lz M _) M.els.length 0 (M.fns.flatMap RE++M.gls.flatMap TB) (by omega) (by simp only[acw,dT];omega) k4
 have k2:=nV (B:=10000000) (Io M hM (.ret v m')) (Ly M _) M.gls.length 0 (M.fns.flatMap RE) (by omega) (by simp only[acw,dT];omega) k3
 have k1:=nV (B:=10000000) (Il M hM (.ret v m')) (Lx M _) M.fns.length 0 [] (by omega) (by simp only[acw,dT,acA];omega) k2
 unfold Ik at k1
 rw[if_pos rfl] at k1
 exact k1
end Go.Proofs.YtncncijedmfpjaaGreatDoor.N
end
