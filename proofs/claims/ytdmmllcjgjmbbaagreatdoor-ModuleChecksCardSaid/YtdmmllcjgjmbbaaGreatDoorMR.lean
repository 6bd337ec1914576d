/-
TypeOf, Find, Size: the program's and the document's, of any module.
-/
import Derived.Test.YtdmmllcjgjmbbaaGreatDoorMP
import Derived.Test.YtdmmllcjgjmbbaaGreatDoorMQ
section
set_option linter.unusedSimpArgs false
set_option linter.unusedVariables false
namespace Go.Proofs.YtdmmllcjgjmbbaaGreatDoor.N
open Go Go.Am
def toS (M:Mo) (a:Nat) (T P Q:Int):FuncId→Nat→Nat→Option (AV→AV):=dw [(8,5,5,sI .i64 T),(8,7,5,sI .i64 T),(8,10,4,.agg [sI .i64 P,sI .i64 Q])]
def fxC (k i:Nat) (cs:List PV) (nm:ByteArray) (kd:Int) (ok:Bool) (f:FuncId) (_:List AV) (m:Mem):Option (AV×Mem):=cond (Nat.beq f 26) (some (sB ok,m)) none
noncomputable def UP (M:Mo) (a:Nat) (T P Q:Int):bu:=kM av az [] [(8,0,0),(8,8,3),(8,0,2),(8,0,1)] [(8,5,3),(8,5,5),(8,10,3),(8,10,4),(8,7,3),(8,7,5)] (toS M a T P Q)
def YC:Sc:=(.fork (.fork (.lit .fin) .fin) (.fork (.fork (.lit .fin) .fin) (.lit (.lit .fin))))
noncomputable def ji (M:Mo) (a:Nat) (T P Q:Int):Tree:=
 (.test (decide (IntKind.i64.wrap (IntKind.i64.wrap (↑a:Int)-(↑M.aI.length:Int))<0))
 (.must (aG (IntKind.i64.wrap (↑a:Int)) M.aI.length&&true&&true)
 (.must (isInt IntKind.i64 ((List.flatMap aQ M.aI).getD ((IntKind.i64.wrap (↑a:Int)).toNat*3+2) PV.bad)&&true)
 (.need (sI .i64 (au ((List.flatMap aQ M.aI).getD ((IntKind.i64.wrap (↑a:Int)).toNat*3+2) PV.bad))=sI IntKind.i64 T)
 (.test (decide (T<0))
 (.out (.ret (.aS [.agg [sI .i64 0,sI .i64 0],sB false]) []))
 (.test (decide (T≥(↑M.tys.length:Int)))
 (.out (.ret (.aS [.agg [sI .i64 0,sI .i64 0],sB false]) []))
 (.must (aG T M.tys.length&&true&&true)
 (.must (isInt IntKind.i64 ((List.flatMap aZ M.tys).getD (T.toNat*2) PV.bad)&&(isInt IntKind.i64 ((List.flatMap aZ M.tys).getD (T.toNat*2+1) PV.bad)&&true)&&true)
 (.need (AV.agg [sI .i64 (au ((List.flatMap aZ M.tys).getD (T.toNat*2) PV.bad)),sI .i64 (au ((List.flatMap aZ M.tys).getD (T.toNat*2+1) PV.bad))]=AV.agg [sI IntKind.i64 P,sI IntKind.i64 Q])
 (.out (.ret (.aS [.agg [sI .i64 P,sI .i64 Q],sB true]) []))))))))))
 (.test (decide (IntKind.i64.wrap (IntKind.i64.wrap (↑a:Int)-(↑M.aI.length:Int))<(↑M.fns.length:Int)))
 (.must (aG (IntKind.i64.wrap (IntKind.i64.wrap (↑a:Int)-(↑M.aI.length:Int))) M.fns.length&&true&&true)
 (.must (isInt IntKind.i64 ((List.flatMap aB M.fns).getD ((IntKind.i64.wrap (IntKind.i64.wrap (↑a:Int)-(↑M.aI.length:Int))).toNat*3+0) PV.bad)&&true)
 (.need (sI .i64 (au ((List.flatMap aB M.fns).getD ((IntKind.i64.wrap (IntKind.i64.wrap (↑a:Int)-(↑M.aI.length:Int))).toNat*3+0) PV.bad))=sI IntKind.i64 T)
 (.test (decide (T<0))
 (.out (.ret (.aS [.agg [sI .i64 0,sI .i64 0],sB false]) []))
 (.test (decide (T≥(↑M.tys.length:Int)))
 (.out (.ret (.aS [.agg [sI .i64 0,sI .i64 0],sB false]) []))
 (.must (aG T M.tys.length&&true&&true)
 (.must (isInt IntKind.i64 ((List.flatMap aZ M.tys).getD (T.toNat*2) PV.bad)&&(isInt IntKind.i64 ((List.flatMap aZ M.tys).getD (T.toNat*2+1) PV.bad)&&true)&&true)
 (.need (AV.agg [sI .i64 (au ((List.flatMap aZ M.tys).getD (T.toNat*2) PV.bad)),sI .i64 (au ((List.flatMap aZ M.tys).getD (T.toNat*2+1) PV.bad))]=AV.agg [sI IntKind.i64 P,sI IntKind.i64 Q])
 (.out (.ret (.aS [.agg [sI .i64 P,sI .i64 Q],sB true]) []))))))))))
 (.out (.ret (.aS [.agg [sI .i64 0,sI .i64 0],sB false]) []))))
theorem iN (M:Mo) (a:Nat) (T P Q:Int):aR Tryz.prog env (UP M a T P Q) 1000000 8 ([AV.agg (List.map AV.p M.aE),sI IntKind.u32 (↑a:Int)]) ([]) YC=ji M a T P Q:=by kernel_rfl
noncomputable def UQ:bu:=aK av az [] [(9,0,0),(9,7,3),(9,0,2),(9,0,1)] [(9,4,3),(9,4,5),(9,9,3),(9,9,4),(9,6,8),(9,6,10)]
def YD:Sc:=(.fork (.fork (.lit .fin) .fin) (.fork (.fork (.lit .fin) .fin) (.lit (.lit .fin))))
noncomputable def jj (M:Mo) (a:Nat) (T P Q:Int):Tree:=
 (.test (decide (IntKind.i64.wrap (↑a:Int)<(↑M.aI.length:Int)))
 (.must (aG (↑a:Int) M.aI.length&&true&&true)
 (.must (isInt IntKind.i64 ((List.flatMap aQ M.aI).getD ((↑a:Int).toNat*3+2) PV.bad)&&true)
 (.test (decide (au ((List.flatMap aQ M.aI).getD ((↑a:Int).toNat*3+2) PV.bad)<0))
 (.out (.ret (.aS [.agg [sI .i64 0,sI .i64 0],sB false]) []))
 (.test (decide (au ((List.flatMap aQ M.aI).getD ((↑a:Int).toNat*3+2) PV.bad)≥(↑M.tys.length:Int)))
 (.out (.ret (.aS [.agg [sI .i64 0,sI .i64 0],sB false]) []))
 (.must (aG (au ((List.flatMap aQ M.aI).getD ((↑a:Int).toNat*3+2) PV.bad)) M.tys.length&&true&&true)
 (.must (isInt IntKind.i64 ((List.flatMap aZ M.tys).getD ((au ((List.flatMap aQ M.aI).getD ((↑a:Int).toNat*3+2) PV.bad)).toNat*2) PV.bad)&&(isInt IntKind.i64 ((List.flatMap aZ M.tys).getD ((au ((List.flatMap aQ M.aI).getD ((↑a:Int).toNat*3+2) PV.bad)).toNat*2+1) PV.bad)&&true)&&true)
 (.out (.ret (.aS [.agg [sI .i64 (au ((List.flatMap aZ M.tys).getD ((au ((List.flatMap aQ M.aI).getD ((↑a:Int).toNat*3+2) PV.bad)).toNat*2) PV.bad)),sI .i64 (au ((List.flatMap aZ M.tys).getD ((au ((List.flatMap aQ M.aI).getD ((↑a:Int).toNat*3+2) PV.bad)).toNat*2+1) PV.bad))],sB true]) []))))))))
 (.test (decide (IntKind.i64.wrap (↑a:Int)<IntKind.i64.wrap ((↑M.aI.length:Int)+(↑M.fns.length:Int))))
 (.must (aG (IntKind.i64.wrap (IntKind.i64.wrap (↑a:Int)-(↑M.aI.length:Int))) M.fns.length&&true&&true)
 (.must (isInt IntKind.i64 ((List.flatMap aB M.fns).getD ((IntKind.i64.wrap (IntKind.i64.wrap (↑a:Int)-(↑M.aI.length:Int))).toNat*3+0) PV.bad)&&true)
 (.test (decide (au ((List.flatMap aB M.fns).getD ((IntKind.i64.wrap (IntKind.i64.wrap (↑a:Int)-(↑M.aI.length:Int))).toNat*3+0) PV.bad)<0))
 (.out (.ret (.aS [.agg [sI .i64 0,sI .i64 0],sB false]) []))
 (.test (decide (au ((List.flatMap aB M.fns).getD ((IntKind.i64.wrap (IntKind.i64.wrap (↑a:Int)-(↑M.aI.length:Int))).toNat*3+0) PV.bad)≥(↑M.tys.length:Int)))
 (.out (.ret (.aS [.agg [sI .i64 0,sI .i64 0],sB false]) []))
 (.must (aG (au ((List.flatMap aB M.fns).getD ((IntKind.i64.wrap (IntKind.i64.wrap (↑a:Int)-(↑M.aI.length:Int))).toNat*3+0) PV.bad)) M.tys.length&&true&&true)
 (.must (isInt IntKind.i64 ((List.flatMap aZ M.tys).getD ((au ((List.flatMap aB M.fns).getD ((IntKind.i64.wrap (IntKind.i64.wrap (↑a:Int)-(↑M.aI.length:Int))).toNat*3+0) PV.bad)).toNat*2) PV.bad)&&(isInt IntKind.i64 ((List.flatMap aZ M.tys).getD ((au ((List.flatMap aB M.fns).getD ((IntKind.i64.wrap (IntKind.i64.wrap (↑a:Int)-(↑M.aI.length:Int))).toNat*3+0) PV.bad)).toNat*2+1) PV.bad)&&true)&&true)
 (.out (.ret (.aS [.agg [sI .i64 (au ((List.flatMap aZ M.tys).getD ((au ((List.flatMap aB M.fns).getD ((IntKind.i64.wrap (IntKind.i64.wrap (↑a:Int)-(↑M.aI.length:Int))).toNat*3+0) PV.bad)).toNat*2) PV.bad)),sI .i64 (au ((List.flatMap aZ M.tys).getD ((au ((List.flatMap aB M.fns).getD ((IntKind.i64.wrap (IntKind.i64.wrap (↑a:Int)-(↑M.aI.length:Int))).toNat*3+0) PV.bad)).toNat*2+1) PV.bad))],sB true]) []))))))))
 (.out (.ret (.aS [.agg [sI .i64 0,sI .i64 0],sB false]) []))))
theorem iO (M:Mo) (a:Nat) (T P Q:Int):aR Tryz.prog env UQ 1000000 9 ([AV.agg (List.map AV.p M.aE),sI IntKind.u32 (↑a:Int)]) ([]) YD=jj M a T P Q:=by kernel_rfl
noncomputable def UR:bu:=aK av az [] [(10,0,0)] [(10,5,3),(10,5,5)]
noncomputable def YE (M:Mo) (nm:ByteArray) (kd r:Int):Sc:=(.ans 25 (sI .i64 r) ([.pc [.sc (.string nm)],.pc [sP kd]]) .fin)
noncomputable def AJ (M:Mo) (nm:ByteArray) (kd r:Int):Tree:=
 (.call ⟨25,[.p (.ps M.exs.length 3 (List.flatMap aP M.exs)),.fn (Fn.func 26) [] [.mp 0 0,.mp 1 0]],[.pc [.sc (.string nm)],.pc [sP kd]],sI .i64 r,[.pc [.sc (.string nm)],.pc [sP kd]]⟩
 (.test (decide (r<0))
 (.out (.ret (.aS [sI .u32 0,sB false]) []))
 (.must (aG r M.exs.length&&true&&true)
 (.must (isInt IntKind.u32 ((List.flatMap aP M.exs).getD (r.toNat*3+2) PV.bad)&&true)
 (.out (.ret (.aS [sI .u32 (au ((List.flatMap aP M.exs).getD (r.toNat*3+2) PV.bad)),sB true]) []))))))
theorem Cq (M:Mo) (nm:ByteArray) (kd r:Int):aR Tryz.prog env UR 1000000 10 ([AV.agg (List.map AV.p M.aE),AV.p (PV.sc (Value.string nm)),sI IntKind.i64 kd]) ([]) (YE M nm kd r)=AJ M nm kd r:=by kernel_rfl
noncomputable def US:bu:=aK av az [] [(26,2,5)] []
def YF:Sc:= .fin
noncomputable def FV (x:Ex) (nm:ByteArray) (kd:Int):Tree:=
 (.test (x.nm.data.toList==nm.data.toList)
 (.out (.ret (.p (.sc (.bool (x.kind==kd)))) [.pc [.sc (.string nm)],.pc [sP kd]]))
 (.out (.ret (sB false) [.pc [.sc (.string nm)],.pc [sP kd]])))
theorem Mj (x:Ex) (nm:ByteArray) (kd:Int):aR Tryz.prog env US 1000000 26 ([AV.agg (List.map AV.p (aP x)),AV.mp 0 0,AV.mp 1 0]) ([bg.pc [PV.sc (Value.string nm)],bg.pc [PV.sc (Value.int IntKind.i64 kd)]]) YF=FV x nm kd:=by kernel_rfl
noncomputable def UT:bu:=aK av az [(14,0)] [] []
noncomputable def YG (M:Mo) (n:Nat) (cs:List PV):Sc:=(.ans 34 (.p (.ps n 1 cs)) ([]) .fin)
noncomputable def PF (M:Mo) (n:Nat) (cs:List PV):Tree:=
 (.call ⟨34,[.agg (List.map AV.p M.aE)],[],.p (.ps n 1 cs),[]⟩
 (.at (af Tryz.prog env 14 0 [sI .i64 0,.p (.ps n 1 cs),sI .i64 (↑n:Int),sI .i64 0] ([]) 0 19)))
theorem Ml (M:Mo) (n:Nat) (cs:List PV):aR Tryz.prog env UT 1000000 14 ([AV.agg (List.map AV.p M.aE)]) ([]) (YG M n cs)=PF M n cs:=by kernel_rfl
noncomputable def UU:bu:=aK av az [(14,0)] [(14,0,1)] [(14,5,0),(14,5,1)]
noncomputable def YH (k:Nat) (i:Nat) (cs:List PV) (n r:Int):Sc:=(.fork (.ans 35 (sI .i64 r) ([]) .fin) .fin)
noncomputable def AK (k:Nat) (i:Nat) (cs:List PV) (n r:Int):Tree:=
 (.test (decide ((↑i:Int)<(↑k:Int)))
 (.must (aG (↑i:Int) k&&true&&true)
 (.must (aH (cs.getD ((↑i:Int).toNat*1) PV.bad)&&true)
 (.call ⟨35,[.p (.ps (aq (cs.getD ((↑i:Int).toNat*1) PV.bad)) (aA (cs.getD ((↑i:Int).toNat*1) PV.bad)) (aj (cs.getD ((↑i:Int).toNat*1) PV.bad)))],[],sI .i64 r,[]⟩
 (.at (af Tryz.prog env 14 0 [sI .i64 (IntKind.i64.wrap (n+r)),.p (.ps k 1 cs),sI .i64 (↑k:Int),sI .i64 (IntKind.i64.wrap ((↑i:Int)+1))] ([]) 0 19)))))
 (.out (.ret (sI .i64 n) [])))
theorem Cr (k:Nat) (i:Nat) (cs:List PV) (n r:Int):grow Tryz.prog env UU 1000000 true (af Tryz.prog env 14 0 ([sI IntKind.i64 n,AV.p (PV.ps k 1 cs),sI IntKind.i64 (↑k:Int),sI IntKind.i64 (↑i:Int)]) ([]) 0 19) (YH k i cs n r) atEnd=AK k i cs n r:=by kernel_rfl
noncomputable def UW:bu:=aK av az [(15,0)] [] []
def YI:Sc:= .fin
noncomputable def PG (M:Mo):Tree:=
 (.at (af Tryz.prog env 15 0 [.mp 0 0,sI .i64 0,sI .i64 0] ([.pc M.aE]) 0 74))
theorem Mm (M:Mo):aR Tryz.prog env UW 1000000 15 ([AV.agg (List.map AV.p M.aE)]) ([]) YI=PG M:=by kernel_rfl
noncomputable def PI:bu:=aK av az [(15,0),(15,2)] [(15,0,1)] [(15,6,4),(15,6,7)]
noncomputable def UX (M:Mo) (i:Nat) (n r:Int):Sc:=(.fork (.ans 36 (sI .i64 r) ([]) .fin) .fin)
noncomputable def vk (M:Mo) (i:Nat) (n r:Int):Tree:=
 (.test (decide ((↑i:Int)<(↑M.fns.length:Int)))
 (.must (aG (↑i:Int) M.fns.length&&true&&true)
 (.must (aH ((List.flatMap aB M.fns).getD ((↑i:Int).toNat*3+1+1) PV.bad)&&true)
 (.call ⟨36,[.p (.ps (aq ((List.flatMap aB M.fns).getD ((↑i:Int).toNat*3+1+1) PV.bad)) (aA ((List.flatMap aB M.fns).getD ((↑i:Int).toNat*3+1+1) PV.bad)) (aj ((List.flatMap aB M.fns).getD ((↑i:Int).toNat*3+1+1) PV.bad)))],[],sI .i64 r,[]⟩
 (.at (af Tryz.prog env 15 0 [.mp 0 0,sI .i64 (IntKind.i64.wrap (n+r)),sI .i64 (IntKind.i64.wrap ((↑i:Int)+1))] ([.pc M.aE]) 0 74)))))
 (.at (af Tryz.prog env 15 2 [.mp 0 0,sI .i64 n,sI .i64 0] ([.pc M.aE]) 0 74)))
theorem yP (M:Mo) (i:Nat) (n r:Int):grow Tryz.prog env PI 1000000 true (af Tryz.prog env 15 0 ([AV.mp 0 0,sI IntKind.i64 n,sI IntKind.i64 (↑i:Int)]) ([bg.pc M.aE]) 0 74) (UX M i n r) atEnd=vk M i n r:=by kernel_rfl
noncomputable def PJ:bu:=aK av az [(15,2),(15,4)] [(15,0,3)] [(15,10,4),(15,10,6)]
noncomputable def UY (M:Mo) (i:Nat) (n r:Int):Sc:=(.fork (.ans 36 (sI .i64 r) ([]) .fin) .fin)
noncomputable def vl (M:Mo) (i:Nat) (n r:Int):Tree:=
 (.test (decide ((↑i:Int)<(↑M.gls.length:Int)))
 (.must (aG (↑i:Int) M.gls.length&&true&&true)
 (.must (aH ((List.flatMap aY M.gls).getD ((↑i:Int).toNat*2+1) PV.bad)&&true)
 (.call ⟨36,[.p (.ps (aq ((List.flatMap aY M.gls).getD ((↑i:Int).toNat*2+1) PV.bad)) (aA ((List.flatMap aY M.gls).getD ((↑i:Int).toNat*2+1) PV.bad)) (aj ((List.flatMap aY M.gls).getD ((↑i:Int).toNat*2+1) PV.bad)))],[],sI .i64 r,[]⟩
 (.at (af Tryz.prog env 15 2 [.mp 0 0,sI .i64 (IntKind.i64.wrap (n+r)),sI .i64 (IntKind.i64.wrap ((↑i:Int)+1))] ([.pc M.aE]) 0 74)))))
 (.at (af Tryz.prog env 15 4 [.mp 0 0,sI .i64 n,sI .i64 0] ([.pc M.aE]) 0 74)))
theorem yQ (M:Mo) (i:Nat) (n r:Int):grow Tryz.prog env PJ 1000000 true (af Tryz.prog env 15 2 ([AV.mp 0 0,sI IntKind.i64 n,sI IntKind.i64 (↑i:Int)]) ([bg.pc M.aE]) 0 74) (UY M i n r) atEnd=vl M i n r:=by kernel_rfl
noncomputable def PK:bu:=aK av az [(15,4),(15,6)] [(15,0,5)] [(15,14,4),(15,14,6)]
noncomputable def UZ (M:Mo) (i:Nat) (n r:Int):Sc:=(.fork (.ans 36 (sI .i64 r) ([]) .fin) .fin)
noncomputable def vn (M:Mo) (i:Nat) (n r:Int):Tree:=
 (.test (decide ((↑i:Int)<(↑M.els.length:Int)))
 (.must (aG (↑i:Int) M.els.length&&true&&true)
 (.must (aH ((List.flatMap aJ M.els).getD ((↑i:Int).toNat*2+0) PV.bad)&&true)
 (.call ⟨36,[.p (.ps (aq ((List.flatMap aJ M.els).getD ((↑i:Int).toNat*2+0) PV.bad)) (aA ((List.flatMap aJ M.els).getD ((↑i:Int).toNat*2+0) PV.bad)) (aj ((List.flatMap aJ M.els).getD ((↑i:Int).toNat*2+0) PV.bad)))],[],sI .i64 r,[]⟩
 (.at (af Tryz.prog env 15 4 [.mp 0 0,sI .i64 (IntKind.i64.wrap (n+r)),sI .i64 (IntKind.i64.wrap ((↑i:Int)+1))] ([.pc M.aE]) 0 74)))))
 (.at (af Tryz.prog env 15 6 [.mp 0 0,sI .i64 n,sI .i64 0] ([.pc M.aE]) 0 74)))
theorem yR (M:Mo) (i:Nat) (n r:Int):grow Tryz.prog env PK 1000000 true (af Tryz.prog env 15 4 ([AV.mp 0 0,sI IntKind.i64 n,sI IntKind.i64 (↑i:Int)]) ([bg.pc M.aE]) 0 74) (UZ M i n r) atEnd=vn M i n r:=by kernel_rfl
noncomputable def PL:bu:=aK av az [(15,6)] [(15,0,7)] [(15,18,4),(15,18,6)]
noncomputable def U0 (M:Mo) (i:Nat) (n r:Int):Sc:=(.fork (.ans 36 (sI .i64 r) ([]) .fin) .fin)
noncomputable def vo (M:Mo) (i:Nat) (n r:Int):Tree:=
 (.test (decide ((↑i:Int)<(↑M.aW.length:Int)))
 (.must (aG (↑i:Int) M.aW.length&&true&&true)
 (.must (aH ((List.flatMap aV M.aW).getD ((↑i:Int).toNat*2+0) PV.bad)&&true)
 (.call ⟨36,[.p (.ps (aq ((List.flatMap aV M.aW).getD ((↑i:Int).toNat*2+0) PV.bad)) (aA ((List.flatMap aV M.aW).getD ((↑i:Int).toNat*2+0) PV.bad)) (aj ((List.flatMap aV M.aW).getD ((↑i:Int).toNat*2+0) PV.bad)))],[],sI .i64 r,[]⟩
 (.at (af Tryz.prog env 15 6 [.mp 0 0,sI .i64 (IntKind.i64.wrap (n+r)),sI .i64 (IntKind.i64.wrap ((↑i:Int)+1))] ([.pc M.aE]) 0 74)))))
 (.out (.ret (sI .i64 n) [])))
theorem yS (M:Mo) (i:Nat) (n r:Int):grow Tryz.prog env PL 1000000 true (af Tryz.prog env 15 6 ([AV.mp 0 0,sI IntKind.i64 n,sI IntKind.i64 (↑i:Int)]) ([bg.pc M.aE]) 0 74) (U0 M i n r) atEnd=vo M i n r:=by kernel_rfl
noncomputable def U1:bu:=aK av az [(11,0)] [] []
def YJ:Sc:= .fin
noncomputable def PM (M:Mo) (nm:ByteArray) (kd:Int):Tree:=
 (.at (af Tryz.prog env 11 0 [.p (.sc (.string nm)),sI .i64 kd,.mp 0 0,sI .i64 0] ([.pc M.aE]) 0 40))
theorem Mn (M:Mo) (nm:ByteArray) (kd:Int):aR Tryz.prog env U1 1000000 11 ([AV.agg (List.map AV.p M.aE),AV.p (PV.sc (Value.string nm)),sI IntKind.i64 kd]) ([]) YJ=PM M nm kd:=by kernel_rfl
noncomputable def U2:bu:=aK av az [(11,0)] [(11,0,1),(11,5,9),(11,0,2)] [(11,5,3),(11,5,5),(11,5,12),(11,5,14),(11,6,3),(11,6,5)]
def YK:Sc:=(.fork (.fork .fin (.lit .fin)) .fin)
noncomputable def AL (M:Mo) (nm:ByteArray) (kd:Int) (i:Nat):Tree:=
 (.test (decide ((↑i:Int)<(↑M.exs.length:Int)))
 (.must (aG (↑i:Int) M.exs.length&&true&&true)
 (.must (isStr ((List.flatMap aP M.exs).getD ((↑i:Int).toNat*3+0) PV.bad)&&true)
 (.test ((aN ((List.flatMap aP M.exs).getD ((↑i:Int).toNat*3+0) PV.bad)).data.toList==nm.data.toList)
 (.must (aG (↑i:Int) M.exs.length&&true&&true)
 (.must (isInt IntKind.i64 ((List.flatMap aP M.exs).getD ((↑i:Int).toNat*3+1) PV.bad)&&true)
 (.test (au ((List.flatMap aP M.exs).getD ((↑i:Int).toNat*3+1) PV.bad)==kd)
 (.must (aG (↑i:Int) M.exs.length&&true&&true)
 (.must (isInt IntKind.u32 ((List.flatMap aP M.exs).getD ((↑i:Int).toNat*3+2) PV.bad)&&true)
 (.out (.ret (.aS [sI .u32 (au ((List.flatMap aP M.exs).getD ((↑i:Int).toNat*3+2) PV.bad)),sB true]) []))))
 (.at (af Tryz.prog env 11 0 [.p (.sc (.string nm)),sI .i64 kd,.mp 0 0,sI .i64 (IntKind.i64.wrap ((↑i:Int)+1))] ([.pc M.aE]) 0 40)))))
 (.at (af Tryz.prog env 11 0 [.p (.sc (.string nm)),sI .i64 kd,.mp 0 0,sI .i64 (IntKind.i64.wrap ((↑i:Int)+1))] ([.pc M.aE]) 0 40)))))
 (.out (.ret (.aS [sI .u32 0,sB false]) [])))
theorem Cs (M:Mo) (nm:ByteArray) (kd:Int) (i:Nat):grow Tryz.prog env U2 1000000 true (af Tryz.prog env 11 0 ([AV.p (PV.sc (Value.string nm)),sI IntKind.i64 kd,AV.mp 0 0,sI IntKind.i64 (↑i:Int)]) ([bg.pc M.aE]) 0 40) YK atEnd=AL M nm kd i:=by kernel_rfl
noncomputable def U3:bu:=aK av az [(25,0)] [] []
def YL:Sc:= .fin
noncomputable def PN (k:Nat) (cs:List PV) (nm:ByteArray) (kd:Int):Tree:=
 (.at (af Tryz.prog env 25 0 [.p (.ps k 3 cs),.fn (Fn.func 26) [] [.mp 0 0,.mp 1 0],sI .i64 (↑k:Int),sI .i64 0] ([.pc [.sc (.string nm)],.pc [sP kd]]) 2 19))
theorem Mp (k:Nat) (cs:List PV) (nm:ByteArray) (kd:Int):aR Tryz.prog env U3 1000000 25 ([AV.p (PV.ps k 3 cs),AV.fn (Fn.func 26) [] [AV.mp 0 0,AV.mp 1 0]]) ([bg.pc [PV.sc (Value.string nm)],bg.pc [PV.sc (Value.int IntKind.i64 kd)]]) YL=PN k cs nm kd:=by kernel_rfl
noncomputable def YM (k:Nat) (i:Nat) (cs:List PV) (nm:ByteArray) (kd:Int) (ok:Bool):bu:=aK (fxC k i cs nm kd ok) az [(25,0)] [(25,0,1),(25,0,2)] [(25,5,3),(25,5,4)]
def aa4:Sc:= .fin
noncomputable def Ee (k:Nat) (i:Nat) (cs:List PV) (nm:ByteArray) (kd:Int) (ok:Bool):Tree:=
 (.test (decide ((↑i:Int)<(↑k:Int)))
 (.must (aG (↑i:Int) k&&true&&true)
 (.must (isStr (cs.getD ((↑i:Int).toNat*3) PV.bad)&&(isInt IntKind.i64 (cs.getD ((↑i:Int).toNat*3+1) PV.bad)&&(isInt IntKind.u32 (cs.getD ((↑i:Int).toNat*3+1+1) PV.bad)&&true))&&true)
 (.call ⟨26,[.agg [.p (.sc (.string (aN (cs.getD ((↑i:Int).toNat*3) PV.bad)))),sI .i64 (au (cs.getD ((↑i:Int).toNat*3+1) PV.bad)),sI .u32 (au (cs.getD ((↑i:Int).toNat*3+1+1) PV.bad))],.mp 0 0,.mp 1 0],[.pc [.sc (.string nm)],.pc [sP kd]],.p (.sc (.bool ok)),[.pc [.sc (.string nm)],.pc [sP kd]]⟩
 (.test (ok)
 (.out (.ret (sI .i64 (↑i:Int)) [.pc [.sc (.string nm)],.pc [sP kd]]))
 (.at (af Tryz.prog env 25 0 [.p (.ps k 3 cs),.fn (Fn.func 26) [] [.mp 0 0,.mp 1 0],sI .i64 (↑k:Int),sI .i64 (IntKind.i64.wrap ((↑i:Int)+1))] ([.pc [.sc (.string nm)],.pc [sP kd]]) 2 19))))))
 (.out (.ret (sI .i64 (-1)) [.pc [.sc (.string nm)],.pc [sP kd]])))
theorem FW (k:Nat) (i:Nat) (cs:List PV) (nm:ByteArray) (kd:Int) (ok:Bool):grow Tryz.prog env (YM k i cs nm kd ok) 1000000 true (af Tryz.prog env 25 0 ([AV.p (PV.ps k 3 cs),AV.fn (Fn.func 26) [] [AV.mp 0 0,AV.mp 1 0],sI IntKind.i64 (↑k:Int),sI IntKind.i64 (↑i:Int)]) ([bg.pc [PV.sc (Value.string nm)],bg.pc [PV.sc (Value.int IntKind.i64 kd)]]) 2 19) aa4 atEnd=Ee k i cs nm kd ok:=by kernel_rfl
def U4 (M:Mo) (a:Nat):Int:=
 match M.aI[a]? with
 |some x=>x.ty
 |none=>match M.fns[a-M.aI.length]? with
  |some x=>x.ty
  |none=> -1
def Mq (M:Mo) (a:Nat):Option Ty:=if 0≤U4 M a then M.tys[(U4 M a).toNat]? else none
def Ct:Option Ty→AV
 |some y=> .aS [.agg [sI .i64 y.p,sI .i64 y.r],sB true]
 |none=> .aS [.agg [sI .i64 0,sI .i64 0],sB false]
theorem Cu (M:Mo) (a:Nat):(∃x,M.aI[a]? = some x∧a<M.aI.length∧U4 M a=x.ty)∨(∃b x,a=M.aI.length+b∧M.fns[b]? = some x∧b<M.fns.length∧U4 M a=x.ty)∨(M.aI.length+M.fns.length≤a∧U4 M a = -1):=by
 unfold U4
 by_cases h:a<M.aI.length
 · exact .inl ⟨_,List.getElem?_eq_getElem h,h,by rw[List.getElem?_eq_getElem h]⟩
 · have hn:M.aI[a]? = none:=List.getElem?_eq_none (by omega)
   by_cases h2:a-M.aI.length<M.fns.length
   · refine .inr (.inl ⟨a-M.aI.length,_,by omega,List.getElem?_eq_getElem h2,h2,?_⟩)
     rw[hn,List.getElem?_eq_getElem h2]
   · refine .inr (.inr ⟨by omega,?_⟩)
     rw[hn,List.getElem?_eq_none (by omega:M.fns.length≤a-M.aI.length)]
theorem oX (M:Mo) (a:Nat) (T:Int) (hT:U4 M a=T):(T<0∧Mq M a=none)∨(0≤T∧(M.tys.length:Int)≤T∧Mq M a=none)∨(∃y,0≤T∧T<(M.tys.length:Int)∧M.tys[T.toNat]? = some y∧Mq M a=some y):=by
 unfold Mq
 rw[hT]
 by_cases h:T<0
 · exact .inl ⟨h,if_neg (by omega)⟩
 · by_cases h2:(M.tys.length:Int)≤T
   · exact .inr (.inl ⟨by omega,h2,by rw[if_pos (by omega),List.getElem?_eq_none (by omega)]⟩)
   · have h3:T.toNat<M.tys.length:=by omega
     exact .inr (.inr ⟨_,by omega,by omega,List.getElem?_eq_getElem h3,by rw[if_pos (by omega),List.getElem?_eq_getElem h3]⟩)
theorem Mr (M:Mo) (hM:M.fit) (a:Nat) (ha:a<4294967296):aC Tryz.prog env 8 [.agg (M.aE.map .p),sI .u32 a] [] (Ct (Mq M a)) []:=by
 have h1:=hM.aI
 have h2:=hM.fns
 have h3:=hM.tys
 have w0:IntKind.i64.wrap (a:Int)=(a:Int):=aD (by omega) (by omega)
 have w2:IntKind.i64.wrap ((M.aI.length:Int)+(M.fns.length:Int))=(M.aI.length:Int)+(M.fns.length:Int):=aD (by omega) (by omega)
 rcases Cu M a with⟨x,hx,hi,hT⟩ | ⟨b,x,rfl,hx,hi,hT⟩ | ⟨hge,hT⟩
 · have c:=aM (z:=3) (enc:=aQ) (fun _=>rfl) hx
   have c2:(M.aI.flatMap aQ).getD (a*3+2) .bad = .sc (.int .i64 x.ty):=c 2 (by decide)
   have w1:IntKind.i64.wrap ((a:Int)-M.aI.length)=(a:Int)-M.aI.length:=aD (by omega) (by omega)
   have d1:decide ((a:Int)-(M.aI.length:Int)<0)=true:=decide_eq_true (by omega)
   have d2:decide ((a:Int)<(M.aI.length:Int))=true:=decide_eq_true (by omega)
   have i1:aG (a:Int) M.aI.length=true:=by simp only[aG,Bool.and_eq_true,decide_eq_true_eq];omega
   rcases oX M _ _ hT with⟨q,e⟩ | ⟨q,q2,e⟩ | ⟨y,q,q2,hy,e⟩<;>rw[e]
   · have d3:decide (x.ty<0)=true:=decide_eq_true q
     refine ah names (iN M _ x.ty 0 0) ?_
     simp only[ji,Tree.ok,isStr,isInt,aH,isBool,aN,au,aT,aq,aA,aj,Int.toNat_natCast,Bool.and_true,Bool.true_and,Bool.false_eq_true,Bool.true_eq_false,false_implies,true_implies,true_and,and_true,w0,w1,d1,d2,i1,c2,d3,Ct]
     all_goals first | trivial | rfl | exact⟨rfl,rfl⟩ | exact⟨rfl,rfl,rfl⟩
   · have d3:decide (x.ty<0)=false:=decide_eq_false (by omega)
     have d4:decide (x.ty≥(M.tys.length:Int))=true:=decide_eq_true (by omega)
     refine ah names (iN M _ x.ty 0 0) ?_
     simp only[ji,Tree.ok,isStr,isInt,aH,isBool,aN,au,aT,aq,aA,aj,Int.toNat_natCast,Bool.and_true,Bool.true_and,Bool.false_eq_true,Bool.true_eq_false,false_implies,true_implies,true_and,and_true,w0,w1,d1,d2,i1,c2,d3,d4,Ct]
     all_goals first | trivial | rfl | exact⟨rfl,rfl⟩ | exact⟨rfl,rfl,rfl⟩
   · have d3:decide (x.ty<0)=false:=decide_eq_false (by omega)
     have d4:decide (x.ty≥(M.tys.length:Int))=false:=decide_eq_false (by omega)
     have i2:aG x.ty M.tys.length=true:=by simp only[aG,Bool.and_eq_true,decide_eq_true_eq];omega
     have e':=aM (z:=2) (enc:=aZ) (fun _=>rfl) hy
     have e0:(M.tys.flatMap aZ).getD (x.ty.toNat*2) .bad = .sc (.int .i64 y.p):=e' 0 (by decide)
     have e1:(M.tys.flatMap aZ).getD (x.ty.toNat*2+1) .bad = .sc (.int .i64 y.r):=e' 1 (by decide)
     refine ah names (iN M _ x.ty y.p y.r) ?_
     simp only[ji,Tree.ok,isStr,isInt,aH,isBool,aN,au,aT,aq,aA,aj,Int.toNat_natCast,Bool.and_true,Bool.true_and,Bool.false_eq_true,Bool.true_eq_false,false_implies,true_implies,true_and,and_true,w0,w1,d1,d2,i1,c2,d3,d4,i2,e0,e1,Ct]
     all_goals first | trivial | rfl | exact⟨rfl,rfl⟩ | exact⟨rfl,rfl,rfl⟩
 · have c:=aM (z:=3) (enc:=aB) (fun _=>rfl) hx
   have c0:(M.fns.flatMap aB).getD (b*3+0) .bad = .sc (.int .i64 x.ty):=c 0 (by decide)
   have w1:IntKind.i64.wrap (((M.aI.length+b:Nat):Int)-M.aI.length)=b:=by rw[aD (by omega) (by omega)];omega
   have d1:decide ((b:Int)<0)=false:=decide_eq_false (by omega)
   have d2:decide ((b:Int)<(M.fns.length:Int))=true:=decide_eq_true (by omega)
   have d5:decide (((M.aI.length+b:Nat):Int)<(M.aI.length:Int))=false:=decide_eq_false (by omega)
   have d6:decide (((M.aI.length+b:Nat):Int)<(M.aI.length:Int)+(M.fns.length:Int))=true:=decide_eq_true (by omega)
   have i1:aG (b:Int) M.fns.length=true:=by simp only[aG,Bool.and_eq_true,decide_eq_true_eq];omega
   rcases oX M _ _ hT with⟨q,e⟩ | ⟨q,q2,e⟩ | ⟨y,q,q2,hy,e⟩<;>rw[e]
   · have d3:decide (x.ty<0)=true:=decide_eq_true q
     refine ah names (iN M _ x.ty 0 0) ?_
     simp only[ji,Tree.ok,isStr,isInt,aH,isBool,aN,au,aT,aq,aA,aj,Int.toNat_natCast,Bool.and_true,Bool.true_and,Bool.false_eq_true,Bool.true_eq_false,false_implies,true_implies,true_and,and_true,w0,w1,w2,d1,d2,d5,d6,i1,c0,d3,Ct]
     all_goals first | trivial | rfl | exact⟨rfl,rfl⟩ | exact⟨rfl,rfl,rfl⟩
   · have d3:decide (x.ty<0)=false:=decide_eq_false (by omega)
     have d4:decide (x.ty≥(M.tys.length:Int))=true:=decide_eq_true (by omega)
     refine ah names (iN M _ x.ty 0 0) ?_
     simp only[ji,Tree.ok,isStr,isInt,aH,isBool,aN,au,aT,aq,aA,aj,Int.toNat_natCast,Bool.and_true,Bool.true_and,Bool.false_eq_true,Bool.true_eq_false,false_implies,true_implies,true_and,and_true,w0,w1,w2,d1,d2,d5,d6,i1,c0,d3,d4,Ct]
     all_goals first | trivial | rfl | exact⟨rfl,rfl⟩ | exact⟨rfl,rfl,rfl⟩
   · have d3:decide (x.ty<0)=false:=decide_eq_false (by omega)
     have d4:decide (x.ty≥(M.tys.length:Int))=false:=decide_eq_false (by omega)
     have i2:aG x.ty M.tys.length=true:=by simp only[aG,Bool.and_eq_true,decide_eq_true_eq];omega
     have e':=aM (z:=2) (enc:=aZ) (fun _=>rfl) hy
     have e0:(M.tys.flatMap aZ).getD (x.ty.toNat*2) .bad = .sc (.int .i64 y.p):=e' 0 (by decide)
     have e1:(M.tys.flatMap aZ).getD (x.ty.toNat*2+1) .bad = .sc (.int .i64 y.r):=e' 1 (by decide)
     refine ah names (iN M _ x.ty y.p y.r) ?_
     simp only[ji,Tree.ok,isStr,isInt,aH,isBool,aN,au,aT,aq,aA,aj,Int.toNat_natCast,Bool.and_true,Bool.true_and,Bool.false_eq_true,Bool.true_eq_false,false_implies,true_implies,true_and,and_true,w0,w1,w2,d1,d2,d5,d6,i1,c0,d3,d4,i2,e0,e1,Ct]
     all_goals first | trivial | rfl | exact⟨rfl,rfl⟩ | exact⟨rfl,rfl,rfl⟩
 · have e:Mq M a=none:=by unfold Mq;rw[hT];exact if_neg (by decide)
   have w1:IntKind.i64.wrap ((a:Int)-M.aI.length)=(a:Int)-M.aI.length:=aD (by omega) (by omega)
   have d1:decide ((a:Int)-(M.aI.length:Int)<0)=false:=decide_eq_false (by omega)
   have d2:decide ((a:Int)-(M.aI.length:Int)<(M.fns.length:Int))=false:=decide_eq_false (by omega)
   have d5:decide ((a:Int)<(M.aI.length:Int))=false:=decide_eq_false (by omega)
   have d6:decide ((a:Int)<(M.aI.length:Int)+(M.fns.length:Int))=false:=decide_eq_false (by omega)
   rw[e]
   refine ah names (iN M a 0 0 0) ?_
   simp only[ji,Tree.ok,isStr,isInt,aH,isBool,aN,au,aT,aq,aA,aj,Int.toNat_natCast,Bool.and_true,Bool.true_and,Bool.false_eq_true,Bool.true_eq_false,false_implies,true_implies,true_and,and_true,w0,w1,w2,d1,d2,d5,d6,Ct]
   all_goals first | trivial | rfl | exact⟨rfl,rfl⟩ | exact⟨rfl,rfl,rfl⟩
theorem Ms (M:Mo) (hM:M.fit) (a:Nat) (ha:a<4294967296):aC Tryz.prog env 9 [.agg (M.aE.map .p),sI .u32 a] [] (Ct (Mq M a)) []:=by
 have h1:=hM.aI
 have h2:=hM.fns
 have h3:=hM.tys
 have w0:IntKind.i64.wrap (a:Int)=(a:Int):=aD (by omega) (by omega)
 have w2:IntKind.i64.wrap ((M.aI.length:Int)+(M.fns.length:Int))=(M.aI.length:Int)+(M.fns.length:Int):=aD (by omega) (by omega)
 rcases Cu M a with⟨x,hx,hi,hT⟩ | ⟨b,x,rfl,hx,hi,hT⟩ | ⟨hge,hT⟩
 · have c:=aM (z:=3) (enc:=aQ) (fun _=>rfl) hx
   have c2:(M.aI.flatMap aQ).getD (a*3+2) .bad = .sc (.int .i64 x.ty):=c 2 (by decide)
   have w1:IntKind.i64.wrap ((a:Int)-M.aI.length)=(a:Int)-M.aI.length:=aD (by omega) (by omega)
   have d1:decide ((a:Int)-(M.aI.length:Int)<0)=true:=decide_eq_true (by omega)
   have d2:decide ((a:Int)<(M.aI.length:Int))=true:=decide_eq_true (by omega)
   have i1:aG (a:Int) M.aI.length=true:=by simp only[aG,Bool.and_eq_true,decide_eq_true_eq];omega
   rcases oX M _ _ hT with⟨q,e⟩ | ⟨q,q2,e⟩ | ⟨y,q,q2,hy,e⟩<;>rw[e]
   · have d3:decide (x.ty<0)=true:=decide_eq_true q
     refine ah names (iO M _ 0 0 0) ?_
     simp only[jj,Tree.ok,isStr,isInt,aH,isBool,aN,au,aT,aq,aA,aj,Int.toNat_natCast,Bool.and_true,Bool.true_and,Bool.false_eq_true,Bool.true_eq_false,false_implies,true_implies,true_and,and_true,w0,w1,d1,d2,i1,c2,d3,Ct]
     all_goals first | trivial | rfl | exact⟨rfl,rfl⟩ | exact⟨rfl,rfl,rfl⟩
   · have d3:decide (x.ty<0)=false:=decide_eq_false (by omega)
     have d4:decide (x.ty≥(M.tys.length:Int))=true:=decide_eq_true (by omega)
     refine ah names (iO M _ 0 0 0) ?_
     simp only[jj,Tree.ok,isStr,isInt,aH,isBool,aN,au,aT,aq,aA,aj,Int.toNat_natCast,Bool.and_true,Bool.true_and,Bool.false_eq_true,Bool.true_eq_false,false_implies,true_implies,true_and,and_true,w0,w1,d1,d2,i1,c2,d3,d4,Ct]
     all_goals first | trivial | rfl | exact⟨rfl,rfl⟩ | exact⟨rfl,rfl,rfl⟩
   · have d3:decide (x.ty<0)=false:=decide_eq_false (by omega)
     have d4:decide (x.ty≥(M.tys.length:Int))=false:=decide_eq_false (by omega)
     have i2:aG x.ty M.tys.length=true:=by simp only[aG,Bool.and_eq_true,decide_eq_true_eq];omega
     have e':=aM (z:=2) (enc:=aZ) (fun _=>rfl) hy
     have e0:(M.tys.flatMap aZ).getD (x.ty.toNat*2) .bad = .sc (.int .i64 y.p):=e' 0 (by decide)
     have e1:(M.tys.flatMap aZ).getD (x.ty.toNat*2+1) .bad = .sc (.int .i64 y.r):=e' 1 (by decide)
     refine ah names (iO M _ 0 0 0) ?_
     simp only[jj,Tree.ok,isStr,isInt,aH,isBool,aN,au,aT,aq,aA,aj,Int.toNat_natCast,Bool.and_true,Bool.true_and,Bool.false_eq_true,Bool.true_eq_false,false_implies,true_implies,true_and,and_true,w0,w1,d1,d2,i1,c2,d3,d4,i2,e0,e1,Ct]
     all_goals first | trivial | rfl | exact⟨rfl,rfl⟩ | exact⟨rfl,rfl,rfl⟩
 · have c:=aM (z:=3) (enc:=aB) (fun _=>rfl) hx
   have c0:(M.fns.flatMap aB).getD (b*3+0) .bad = .sc (.int .i64 x.ty):=c 0 (by decide)
   have w1:IntKind.i64.wrap (((M.aI.length+b:Nat):Int)-M.aI.length)=b:=by rw[aD (by omega) (by omega)];omega
   have d1:decide ((b:Int)<0)=false:=decide_eq_false (by omega)
   have d2:decide ((b:Int)<(M.fns.length:Int))=true:=decide_eq_true (by omega)
   have d5:decide (((M.aI.length+b:Nat):Int)<(M.aI.length:Int))=false:=decide_eq_false (by omega)
   have d6:decide (((M.aI.length+b:Nat):Int)<(M.aI.length:Int)+(M.fns.length:Int))=true:=decide_eq_true (by omega)
   have i1:aG (b:Int) M.fns.length=true:=by simp only[aG,Bool.and_eq_true,decide_eq_true_eq];omega
   rcases oX M _ _ hT with⟨q,e⟩ | ⟨q,q2,e⟩ | ⟨y,q,q2,hy,e⟩<;>rw[e]
   · have d3:decide (x.ty<0)=true:=decide_eq_true q
     refine ah names (iO M _ 0 0 0) ?_
     simp only[jj,Tree.ok,isStr,isInt,aH,isBool,aN,au,aT,aq,aA,aj,Int.toNat_natCast,Bool.and_true,Bool.true_and,Bool.false_eq_true,Bool.true_eq_false,false_implies,true_implies,true_and,and_true,w0,w1,w2,d1,d2,d5,d6,i1,c0,d3,Ct]
     all_goals first | trivial | rfl | exact⟨rfl,rfl⟩ | exact⟨rfl,rfl,rfl⟩
   · have d3:decide (x.ty<0)=false:=decide_eq_false (by omega)
     have d4:decide (x.ty≥(M.tys.length:Int))=true:=decide_eq_true (by omega)
     refine ah names (iO M _ 0 0 0) ?_
     simp only[jj,Tree.ok,isStr,isInt,aH,isBool,aN,au,aT,aq,aA,aj,Int.toNat_natCast,Bool.and_true,Bool.true_and,Bool.false_eq_true,Bool.true_eq_false,false_implies,true_implies,true_and,and_true,w0,w1,w2,d1,d2,d5,d6,i1,c0,d3,d4,Ct]
     all_goals first | trivial | rfl | exact⟨rfl,rfl⟩ | exact⟨rfl,rfl,rfl⟩
   · have d3:decide (x.ty<0)=false:=decide_eq_false (by omega)
     have d4:decide (x.ty≥(M.tys.length:Int))=false:=decide_eq_false (by omega)
     have i2:aG x.ty M.tys.length=true:=by simp only[aG,Bool.and_eq_true,decide_eq_true_eq];omega
     have e':=aM (z:=2) (enc:=aZ) (fun _=>rfl) hy
     have e0:(M.tys.flatMap aZ).getD (x.ty.toNat*2) .bad = .sc (.int .i64 y.p):=e' 0 (by decide)
     have e1:(M.tys.flatMap aZ).getD (x.ty.toNat*2+1) .bad = .sc (.int .i64 y.r):=e' 1 (by decide)
     refine ah names (iO M _ 0 0 0) ?_
     simp only[jj,Tree.ok,isStr,isInt,aH,isBool,aN,au,aT,aq,aA,aj,Int.toNat_natCast,Bool.and_true,Bool.true_and,Bool.false_eq_true,Bool.true_eq_false,false_implies,true_implies,true_and,and_true,w0,w1,w2,d1,d2,d5,d6,i1,c0,d3,d4,i2,e0,e1,Ct]
     all_goals first | trivial | rfl | exact⟨rfl,rfl⟩ | exact⟨rfl,rfl,rfl⟩
 · have e:Mq M a=none:=by unfold Mq;rw[hT];exact if_neg (by decide)
   have w1:IntKind.i64.wrap ((a:Int)-M.aI.length)=(a:Int)-M.aI.length:=aD (by omega) (by omega)
   have d1:decide ((a:Int)-(M.aI.length:Int)<0)=false:=decide_eq_false (by omega)
   have d2:decide ((a:Int)-(M.aI.length:Int)<(M.fns.length:Int))=false:=decide_eq_false (by omega)
   have d5:decide ((a:Int)<(M.aI.length:Int))=false:=decide_eq_false (by omega)
   have d6:decide ((a:Int)<(M.aI.length:Int)+(M.fns.length:Int))=false:=decide_eq_false (by omega)
   rw[e]
   refine ah names (iO M a 0 0 0) ?_
   simp only[jj,Tree.ok,isStr,isInt,aH,isBool,aN,au,aT,aq,aA,aj,Int.toNat_natCast,Bool.and_true,Bool.true_and,Bool.false_eq_true,Bool.true_eq_false,false_implies,true_implies,true_and,and_true,w0,w1,w2,d1,d2,d5,d6,Ct]
   all_goals first | trivial | rfl | exact⟨rfl,rfl⟩ | exact⟨rfl,rfl,rfl⟩
def gQ (nm:ByteArray) (kd:Int) (x:Ex):Bool:=x.nm.data.toList==nm.data.toList&&x.kind==kd
def Zu:Option Ex→AV
 |some x=> .aS [sI .u32 x.ix,sB true]
 |none=> .aS [sI .u32 0,sB false]
theorem Mt (x:Ex) (nm:ByteArray) (kd:Int):aC Tryz.prog env 26 [.agg ((aP x).map .p),.mp 0 0,.mp 1 0] [.pc [.sc (.string nm)],.pc [.sc (.int .i64 kd)]] (sB (gQ nm kd x)) [.pc [.sc (.string nm)],.pc [.sc (.int .i64 kd)]]:=by
 refine ah names (Mj x nm kd) ?_
 simp only[FV,Tree.ok,gQ]
 refine⟨fun q=> ?_,fun q=> ?_⟩
 · rw[q,Bool.true_and]
 · rw[q,Bool.false_and]
theorem Cv {α:Type} (p:α→Bool) : ∀(l:List α) (i:Nat),(eG p l i = -1∧l.find? p=none) ∨ ∃k x,eG p l i=((i+k:Nat):Int)∧l[k]? = some x∧l.find? p=some x
 |[],_=> .inl ⟨rfl,rfl⟩
 |x::r,i=>by
  cases h:p x with
  |true=>exact .inr ⟨0,x,by simp[eG,h],rfl,by simp[h]⟩
  |false=>
   rcases Cv p r (i+1) with⟨h1,h2⟩ | ⟨k,y,h1,h2,h3⟩
   · exact .inl ⟨by simp[eG,h,h1],by simp[h,h2]⟩
   · exact .inr ⟨k+1,y,by simp only[eG,h,Bool.false_eq_true,if_false,h1];omega,by simpa using h2,by simp[h,h3]⟩
theorem U5 (l:List Ex) (hl:l.length≤10000000) (nm:ByteArray) (kd:Int) : ∀(r i:Nat),i+r=l.length →
  Am.Good Tryz.prog env (af Tryz.prog env 25 0 [.p (.ps l.length 3 (l.flatMap aP)),.fn (.func 26) [] [.mp 0 0,.mp 1 0],sI .i64 l.length,sI .i64 i] [.pc [.sc (.string nm)],.pc [.sc (.int .i64 kd)]] 2 19)
    (.ret (sI .i64 (eG (gQ nm kd) (l.drop i) i)) [.pc [.sc (.string nm)],.pc [.sc (.int .i64 kd)]]):=by
 intro r
 induction r with
 |zero=>
  intro i hi
  obtain rfl:i=l.length:=by omega
  have hd:decide ((l.length:Int)<(l.length:Int))=false:=decide_eq_false (by omega)
  refine aa names (FW l.length l.length (l.flatMap aP) nm kd true) ?_
  simp only[Ee,Tree.ok,hd,List.drop_length]
  exact⟨fun q=>(by cases q),fun _=>rfl⟩
 |succ r ih=>
  intro i hi
  have nX:i<l.length:=by omega
  have hx:=List.getElem?_eq_getElem nX
  rw[List.drop_eq_getElem_cons nX]
  generalize l[i]=x at *
  have c:=aM (z:=3) (enc:=aP) (fun _=>rfl) hx
  have c0:(l.flatMap aP).getD (i*3) .bad = .sc (.string x.nm):=c 0 (by decide)
  have c1:(l.flatMap aP).getD (i*3+1) .bad = .sc (.int .i64 x.kind):=c 1 (by decide)
  have c2:(l.flatMap aP).getD (i*3+1+1) .bad = .sc (.int .u32 x.ix):=c 2 (by decide)
  have w:IntKind.i64.wrap ((i:Int)+1)=((i+1:Nat):Int):=by rw[aD (by omega) (by omega)];rfl
  have hd:decide ((i:Int)<(l.length:Int))=true:=decide_eq_true (by omega)
  have hin:aG (i:Int) l.length=true:=by simp only[aG,Bool.and_eq_true,decide_eq_true_eq];omega
  refine aa names (FW l.length i (l.flatMap aP) nm kd (gQ nm kd x)) ?_
  simp only[Ee,Tree.ok,isStr,isInt,aN,au,Int.toNat_natCast,c0,c1,c2,hd,hin,w,Bool.and_true,Bool.true_and]
  refine⟨fun _=>⟨(by first | rfl | trivial),(by first | rfl | trivial),Mt x nm kd,fun q=> ?_,fun q=> ?_⟩,fun q=>(by cases q)⟩
  · simp only[eG,q,if_true]
  · simp only[eG,q,Bool.false_eq_true,if_false]
    exact ih (i+1) (by omega)
theorem PO (l:List Ex) (hl:l.length≤10000000) (nm:ByteArray) (kd:Int) :
  aC Tryz.prog env 25 [.p (.ps l.length 3 (l.flatMap aP)),.fn (.func 26) [] [.mp 0 0,.mp 1 0]] [.pc [.sc (.string nm)],.pc [.sc (.int .i64 kd)]] (sI .i64 (eG (gQ nm kd) l 0)) [.pc [.sc (.string nm)],.pc [.sc (.int .i64 kd)]]:=
 ah names (Mp l.length (l.flatMap aP) nm kd) (U5 l hl nm kd l.length 0 (by omega))
theorem HI (M:Mo) (hM:M.fit) (nm:ByteArray) (kd:Int):aC Tryz.prog env 10 [.agg (M.aE.map .p),.p (.sc (.string nm)),sI .i64 kd] [] (Zu (M.exs.find? (gQ nm kd))) []:=by
 have h1:=hM.exs
 have hc:=PO M.exs (by omega) nm kd
 rcases Cv (gQ nm kd) M.exs 0 with⟨e1,e2⟩ | ⟨k,x,e1,hx,e2⟩
 · rw[e1] at hc
   rw[e2]
   refine ah names (Cq M nm kd (-1)) ?_
   simp only[AJ,Tree.ok]
   exact⟨hc,fun _=>rfl,fun q=>(by cases q)⟩
 · rw[Nat.zero_add] at e1
   rw[e1] at hc
   rw[e2]
   have hk:k<M.exs.length:=(List.getElem?_eq_some_iff.1 hx).1
   have c:=aM (z:=3) (enc:=aP) (fun _=>rfl) hx
   have c2:(M.exs.flatMap aP).getD (k*3+2) .bad = .sc (.int .u32 x.ix):=c 2 (by decide)
   have d:decide ((k:Int)<0)=false:=decide_eq_false (by omega)
   have i1:aG (k:Int) M.exs.length=true:=by simp only[aG,Bool.and_eq_true,decide_eq_true_eq];omega
   refine ah names (Cq M nm kd k) ?_
   simp only[AJ,Tree.ok,d,i1,c2,isInt,au,Int.toNat_natCast,Bool.and_true]
   exact⟨hc,fun q=>(by cases q),fun _=>⟨(by first | rfl | trivial),(by first | rfl | trivial),rfl⟩⟩
theorem U6 (M:Mo) (hM:M.fit) (nm:ByteArray) (kd:Int) : ∀(r i:Nat),i+r=M.exs.length →
  Am.Good Tryz.prog env (af Tryz.prog env 11 0 [.p (.sc (.string nm)),sI .i64 kd,.mp 0 0,sI .i64 i] [.pc M.aE] 0 40) (.ret (Zu ((M.exs.drop i).find? (gQ nm kd))) []):=by
 have h1:=hM.exs
 intro r
 induction r with
 |zero=>
  intro i hi
  obtain rfl:i=M.exs.length:=by omega
  have hd:decide ((M.exs.length:Int)<(M.exs.length:Int))=false:=decide_eq_false (by omega)
  refine aa names (Cs M nm kd M.exs.length) ?_
  simp only[AL,Tree.ok,hd,List.drop_length]
  exact⟨fun q=>(by cases q),fun _=>rfl⟩
 |succ r ih=>
  intro i hi
  have nX:i<M.exs.length:=by omega
  have hx:=List.getElem?_eq_getElem nX
  rw[List.drop_eq_getElem_cons nX]
  generalize M.exs[i]=x at *
  have c:=aM (z:=3) (enc:=aP) (fun _=>rfl) hx
  have c0:(M.exs.flatMap aP).getD (i*3+0) .bad = .sc (.string x.nm):=c 0 (by decide)
  have c1:(M.exs.flatMap aP).getD (i*3+1) .bad = .sc (.int .i64 x.kind):=c 1 (by decide)
  have c2:(M.exs.flatMap aP).getD (i*3+2) .bad = .sc (.int .u32 x.ix):=c 2 (by decide)
  have w:IntKind.i64.wrap ((i:Int)+1)=((i+1:Nat):Int):=by rw[aD (by omega) (by omega)];rfl
  have hd:decide ((i:Int)<(M.exs.length:Int))=true:=decide_eq_true (by omega)
  have hin:aG (i:Int) M.exs.length=true:=by simp only[aG,Bool.and_eq_true,decide_eq_true_eq];omega
  have next:=ih (i+1) (by omega)
  refine aa names (Cs M nm kd i) ?_
  simp only[AL,Tree.ok,isStr,isInt,aN,au,Int.toNat_natCast,c0,c1,c2,hd,hin,w,Bool.and_true,Bool.true_and]
  refine⟨fun _=>⟨(by first | rfl | trivial),(by first | rfl | trivial),fun q=>⟨(by first | rfl | trivial),(by first | rfl | trivial),fun q2=>⟨(by first | rfl | trivial),(by first | rfl | trivial),?_⟩,fun q2=> ?_⟩,fun q=> ?_⟩,fun q=>(by cases q)⟩
  · rw[List.find?_cons,show gQ nm kd x=true by rw[gQ,q,q2];rfl];rfl
  · rw[List.find?_cons,show gQ nm kd x=false by rw[gQ,q,q2];rfl];exact next
  · rw[List.find?_cons,show gQ nm kd x=false by rw[gQ,q];rfl];exact next
theorem Ef (M:Mo) (hM:M.fit) (nm:ByteArray) (kd:Int):aC Tryz.prog env 11 [.agg (M.aE.map .p),.p (.sc (.string nm)),sI .i64 kd] [] (Zu (M.exs.find? (gQ nm kd))) []:=
 ah names (Mn M nm kd) (U6 M hM nm kd M.exs.length 0 (by omega))
def hJ {α:Type} (w:α→Nat):List α→Nat
 |[]=>0
 |x::r=>w x+hJ w r
theorem jk {α:Type} (w:α→Nat) : ∀(a b:List α),hJ w (a++b)=hJ w a+hJ w b
 |[],b=>by simp[hJ]
 |x::r,b=>by simp only[List.cons_append,hJ,jk w r b];omega
theorem l9 {α β:Type} (f:α→β) (w:β→Nat) : ∀l:List α,hJ w (l.map f)=hJ (fun x=>w (f x)) l
 |[]=>rfl
 |x::r=>by simp only[List.map_cons,hJ,l9 f w r]
theorem FX {α:Type} {w:α→Nat} : ∀(l:List α),(∀x∈l,w x≤100000000000)→hJ w l≤l.length*100000000000
 |[],_=>by simp[hJ]
 |x::r,h=>by
  have h1:=h x (by simp)
  have h2:=FX r fun y hy=>h y (by simp[hy])
  simp only[hJ,List.length_cons]
  omega
theorem oY {α:Type} {l:List α} {w:α→Nat} {D:Nat→Nat→bJ} {o:Out} {K:Nat→Prop}
  (step : ∀(n i:Nat) (x:α),l[i]? = some x→n+w x≤4000000000000000000→Am.Good Tryz.prog env (D (n+w x) (i+1)) o→Am.Good Tryz.prog env (D n i) o)
  (fin : ∀n,K n→Am.Good Tryz.prog env (D n l.length) o) :
  ∀(r i n:Nat),i+r=l.length→n+hJ w (l.drop i)≤4000000000000000000→K (n+hJ w (l.drop i))→Am.Good Tryz.prog env (D n i) o:=by
 intro r
 induction r with
 |zero=>
  intro i n hi _ h
  obtain rfl:i=l.length:=by omega
  rw[List.drop_length] at h
  exact fin n h
 |succ r ih=>
  intro i n hi hn h
  have hl:i<l.length:=by omega
  rw[List.drop_eq_getElem_cons hl] at h hn
  simp only[hJ] at h hn
  exact step n i l[i] (List.getElem?_eq_getElem hl) (by omega) (ih (i+1) (n+w l[i]) (by omega) (by omega) (by rwa [Nat.add_assoc]))
def rj (M:Mo):Nat:=hJ aU (nH M)
theorem Mu (l:List (List Ins)) (hl:l.length≤10000000) (hs : ∀x∈l,aU x≤100000000000) (o:Out) (n i:Nat) (x:List Ins) (hx:l[i]? = some x) (hn:n+aU x≤4000000000000000000)
  (h:Am.Good Tryz.prog env (af Tryz.prog env 14 0 [sI .i64 (n+aU x:Nat),.p (.ps l.length 1 (l.flatMap mR)),sI .i64 l.length,sI .i64 (i+1:Nat)] [] 0 19) o) :
  Am.Good Tryz.prog env (af Tryz.prog env 14 0 [sI .i64 n,.p (.ps l.length 1 (l.flatMap mR)),sI .i64 l.length,sI .i64 i] [] 0 19) o:=by
 have nX:i<l.length:=(List.getElem?_eq_some_iff.1 hx).1
 have c:=aM (z:=1) (enc:=mR) (fun _=>rfl) hx
 have c0:(l.flatMap mR).getD (i*1) .bad=pL x:=c 0 (by decide)
 have w:IntKind.i64.wrap ((i:Int)+1)=((i+1:Nat):Int):=by rw[aD (by omega) (by omega)];rfl
 have w1:IntKind.i64.wrap ((n:Int)+(aU x:Int))=((n+aU x:Nat):Int):=by rw[aD (by omega) (by omega)];omega
 have hd:decide ((i:Int)<(l.length:Int))=true:=decide_eq_true (by omega)
 have hin:aG (i:Int) l.length=true:=by simp only[aG,Bool.and_eq_true,decide_eq_true_eq];omega
 refine aa names (Cr l.length i (l.flatMap mR) n (aU x)) ?_
 simp only[AK,Tree.ok,aH,aq,aA,aj,Int.toNat_natCast,c0,hd,hin,w,w1,Bool.and_true]
 exact⟨fun _=>⟨(by first | rfl | trivial),(by first | rfl | trivial),Ed x (hs x (List.mem_of_getElem? hx)),h⟩,fun q=>(by cases q)⟩
theorem size_le {M:Mo} (hM:M.fit) (hs:M.qk):rj M≤1000000000000000000:=by
 have h:=FX (w:=aU) (nH M) hs
 have h2:=D0 hM
 unfold rj
 omega
theorem HJ (M:Mo) (hM:M.fit) (hs:M.qk):aC Tryz.prog env 14 [.agg (M.aE.map .p)] [] (sI .i64 (rj M)) []:=by
 have hz:=size_le hM hs
 refine ah names (Ml M (nH M).length ((nH M).flatMap mR)) ⟨Lb M hM,?_⟩
 refine oY (l:=nH M) (w:=aU) (D:=fun n i=>af Tryz.prog env 14 0 [sI .i64 n,.p (.ps (nH M).length 1 ((nH M).flatMap mR)),sI .i64 (nH M).length,sI .i64 i] [] 0 19) (K:=fun n=>n=rj M)
  (fun n i x=>Mu (nH M) (D0 hM) hs _ n i x) (fun n hn=> ?_) (nH M).length 0 0 (by omega) (by rw[Nat.zero_add];exact Nat.le_trans hz (by decide)) (by rw[Nat.zero_add];rfl)
 have hd:decide (((nH M).length:Int)<((nH M).length:Int))=false:=decide_eq_false (by omega)
 refine aa names (Cr (nH M).length (nH M).length ((nH M).flatMap mR) n 0) ?_
 simp only[AK,Tree.ok,hd]
 exact⟨fun q=>(by cases q),fun _=>by rw[hn]⟩
noncomputable def AM (t:Nat) (M:Mo) (n i:Nat):bJ:=af Tryz.prog env 15 t [.mp 0 0,sI .i64 n,sI .i64 i] [.pc M.aE] 0 74
theorem Mv (M:Mo) (hl:M.fns.length≤1000000) (hs : ∀x∈M.fns,aU x.l≤100000000000) (o:Out) (n i:Nat) (x:Fu) (hx:M.fns[i]? = some x) (hn:n+aU x.l≤4000000000000000000)
  (h:Am.Good Tryz.prog env (AM 0 M (n+aU x.l) (i+1)) o):Am.Good Tryz.prog env (AM 0 M n i) o:=by
 have nX:i<M.fns.length:=(List.getElem?_eq_some_iff.1 hx).1
 have c:=aM (z:=3) (enc:=aB) (fun _=>rfl) hx
 have c0:(M.fns.flatMap aB).getD (i*3+1+1) .bad=pL x.l:=c 2 (by decide)
 have w:IntKind.i64.wrap ((i:Int)+1)=((i+1:Nat):Int):=by rw[aD (by omega) (by omega)];rfl
 have w1:IntKind.i64.wrap ((n:Int)+(aU x.l:Int))=((n+aU x.l:Nat):Int):=by rw[aD (by omega) (by omega)];omega
 have hd:decide ((i:Int)<(M.fns.length:Int))=true:=decide_eq_true (by omega)
 have hin:aG (i:Int) M.fns.length=true:=by simp only[aG,Bool.and_eq_true,decide_eq_true_eq];omega
 refine aa names (yP M i n (aU x.l)) ?_
 simp only[vk,Tree.ok,aH,aq,aA,aj,Int.toNat_natCast,c0,hd,hin,w,w1,Bool.and_true]
 exact⟨fun _=>⟨(by first | rfl | trivial),(by first | rfl | trivial),gJ x.l (Nat.le_trans (hs x (List.mem_of_getElem? hx)) (by decide)),h⟩,fun q=>(by cases q)⟩
theorem PR (M:Mo) (o:Out) (n:Nat) (h:Am.Good Tryz.prog env (AM 2 M n 0) o):Am.Good Tryz.prog env (AM 0 M n M.fns.length) o:=by
 have hd:decide ((M.fns.length:Int)<(M.fns.length:Int))=false:=decide_eq_false (by omega)
 refine aa names (yP M M.fns.length n 0) ?_
 simp only[vk,Tree.ok,hd]
 exact⟨fun q=>(by cases q),fun _=>h⟩
theorem Mw (M:Mo) (hl:M.gls.length≤1000000) (hs : ∀x∈M.gls,aU x.l≤100000000000) (o:Out) (n i:Nat) (x:Gl) (hx:M.gls[i]? = some x) (hn:n+aU x.l≤4000000000000000000)
  (h:Am.Good Tryz.prog env (AM 2 M (n+aU x.l) (i+1)) o):Am.Good Tryz.prog env (AM 2 M n i) o:=by
 have nX:i<M.gls.length:=(List.getElem?_eq_some_iff.1 hx).1
 have c:=aM (z:=2) (enc:=aY) (fun _=>rfl) hx
 have c0:(M.gls.flatMap aY).getD (i*2+1) .bad=pL x.l:=c 1 (by decide)
 have w:IntKind.i64.wrap ((i:Int)+1)=((i+1:Nat):Int):=by rw[aD (by omega) (by omega)];rfl
 have w1:IntKind.i64.wrap ((n:Int)+(aU x.l:Int))=((n+aU x.l:Nat):Int):=by rw[aD (by omega) (by omega)];omega
 have hd:decide ((i:Int)<(M.gls.length:Int))=true:=decide_eq_true (by omega)
 have hin:aG (i:Int) M.gls.length=true:=by simp only[aG,Bool.and_eq_true,decide_eq_true_eq];omega
 refine aa names (yQ M i n (aU x.l)) ?_
 simp only[vl,Tree.ok,aH,aq,aA,aj,Int.toNat_natCast,c0,hd,hin,w,w1,Bool.and_true]
 exact⟨fun _=>⟨(by first | rfl | trivial),(by first | rfl | trivial),gJ x.l (Nat.le_trans (hs x (List.mem_of_getElem? hx)) (by decide)),h⟩,fun q=>(by cases q)⟩
theorem PS (M:Mo) (o:Out) (n:Nat) (h:Am.Good Tryz.prog env (AM 4 M n 0) o):Am.Good Tryz.prog env (AM 2 M n M.gls.length) o:=by
 have hd:decide ((M.gls.length:Int)<(M.gls.length:Int))=false:=decide_eq_false (by omega)
 refine aa names (yQ M M.gls.length n 0) ?_
 simp only[vl,Tree.ok,hd]
 exact⟨fun q=>(by cases q),fun _=>h⟩
theorem Mx (M:Mo) (hl:M.els.length≤1000000) (hs : ∀x∈M.els,aU x.l≤100000000000) (o:Out) (n i:Nat) (x:El) (hx:M.els[i]? = some x) (hn:n+aU x.l≤4000000000000000000)
  (h:Am.Good Tryz.prog env (AM 4 M (n+aU x.l) (i+1)) o):Am.Good Tryz.prog env (AM 4 M n i) o:=by
 have nX:i<M.els.length:=(List.getElem?_eq_some_iff.1 hx).1
 have c:=aM (z:=2) (enc:=aJ) (fun _=>rfl) hx
 have c0:(M.els.flatMap aJ).getD (i*2+0) .bad=pL x.l:=c 0 (by decide)
 have w:IntKind.i64.wrap ((i:Int)+1)=((i+1:Nat):Int):=by rw[aD (by omega) (by omega)];rfl
 have w1:IntKind.i64.wrap ((n:Int)+(aU x.l:Int))=((n+aU x.l:Nat):Int):=by rw[aD (by omega) (by omega)];omega
 have hd:decide ((i:Int)<(M.els.length:Int))=true:=decide_eq_true (by omega)
 have hin:aG (i:Int) M.els.length=true:=by simp only[aG,Bool.and_eq_true,decide_eq_true_eq];omega
 refine aa names (yR M i n (aU x.l)) ?_
 simp only[vn,Tree.ok,aH,aq,aA,aj,Int.toNat_natCast,c0,hd,hin,w,w1,Bool.and_true]
 exact⟨fun _=>⟨(by first | rfl | trivial),(by first | rfl | trivial),gJ x.l (Nat.le_trans (hs x (List.mem_of_getElem? hx)) (by decide)),h⟩,fun q=>(by cases q)⟩
theorem PT (M:Mo) (o:Out) (n:Nat) (h:Am.Good Tryz.prog env (AM 6 M n 0) o):Am.Good Tryz.prog env (AM 4 M n M.els.length) o:=by
 have hd:decide ((M.els.length:Int)<(M.els.length:Int))=false:=decide_eq_false (by omega)
 refine aa names (yR M M.els.length n 0) ?_
 simp only[vn,Tree.ok,hd]
 exact⟨fun q=>(by cases q),fun _=>h⟩
theorem My (M:Mo) (hl:M.aW.length≤1000000) (hs : ∀x∈M.aW,aU x.l≤100000000000) (o:Out) (n i:Nat) (x:Da) (hx:M.aW[i]? = some x) (hn:n+aU x.l≤4000000000000000000)
  (h:Am.Good Tryz.prog env (AM 6 M (n+aU x.l) (i+1)) o):Am.Good Tryz.prog env (AM 6 M n i) o:=by
 have nX:i<M.aW.length:=(List.getElem?_eq_some_iff.1 hx).1
 have c:=aM (z:=2) (enc:=aV) (fun _=>rfl) hx
 have c0:(M.aW.flatMap aV).getD (i*2+0) .bad=pL x.l:=c 0 (by decide)
 have w:IntKind.i64.wrap ((i:Int)+1)=((i+1:Nat):Int):=by rw[aD (by omega) (by omega)];rfl
 have w1:IntKind.i64.wrap ((n:Int)+(aU x.l:Int))=((n+aU x.l:Nat):Int):=by rw[aD (by omega) (by omega)];omega
 have hd:decide ((i:Int)<(M.aW.length:Int))=true:=decide_eq_true (by omega)
 have hin:aG (i:Int) M.aW.length=true:=by simp only[aG,Bool.and_eq_true,decide_eq_true_eq];omega
 refine aa names (yS M i n (aU x.l)) ?_
 simp only[vo,Tree.ok,aH,aq,aA,aj,Int.toNat_natCast,c0,hd,hin,w,w1,Bool.and_true]
 exact⟨fun _=>⟨(by first | rfl | trivial),(by first | rfl | trivial),gJ x.l (Nat.le_trans (hs x (List.mem_of_getElem? hx)) (by decide)),h⟩,fun q=>(by cases q)⟩
theorem PU (M:Mo) (o:Out) (n:Nat) (h:Out.ret (sI .i64 n) []=o):Am.Good Tryz.prog env (AM 6 M n M.aW.length) o:=by
 have hd:decide ((M.aW.length:Int)<(M.aW.length:Int))=false:=decide_eq_false (by omega)
 refine aa names (yS M M.aW.length n 0) ?_
 simp only[vo,Tree.ok,hd]
 exact⟨fun q=>(by cases q),fun _=>h⟩
theorem Eg (M:Mo) (hM:M.fit) (hs:M.qk):aC Tryz.prog env 15 [.agg (M.aE.map .p)] [] (sI .i64 (rj M)) []:=by
 obtain⟨s1,s2,s3,s4⟩:=FT hs
 have hz:=size_le hM hs
 have e:rj M=hJ (fun x:Fu=>aU x.l) M.fns+hJ (fun x:Gl=>aU x.l) M.gls+hJ (fun x:El=>aU x.l) M.els+hJ (fun x:Da=>aU x.l) M.aW:=by
  unfold rj nH
  rw[jk,jk,jk,l9,l9,l9,l9]
 rw[e] at hz ⊢
 generalize hA:hJ (fun x:Fu=>aU x.l) M.fns=A at *
 generalize hB:hJ (fun x:Gl=>aU x.l) M.gls=B at *
 generalize hC:hJ (fun x:El=>aU x.l) M.els=C at *
 generalize hD:hJ (fun x:Da=>aU x.l) M.aW=D at *
 refine ah names (Mm M) ?_
 refine oY (D:=AM 0 M) (K:=fun n=>n=A) (Mv M hM.fns s1 _) (fun n hn=> ?_) M.fns.length 0 0 (by omega) (by rw[List.drop_zero,hA];omega) (by rw[List.drop_zero,hA,Nat.zero_add])
 subst hn
 refine PR M _ n ?_
 refine oY (D:=AM 2 M) (K:=fun m=>m=n+B) (Mw M hM.gls s2 _) (fun m hm=> ?_) M.gls.length 0 n (by omega) (by rw[List.drop_zero,hB];omega) (by rw[List.drop_zero,hB])
 subst hm
 refine PS M _ _ ?_
 refine oY (D:=AM 4 M) (K:=fun m=>m=n+B+C) (Mx M hM.els s3 _) (fun m hm=> ?_) M.els.length 0 (n+B) (by omega) (by rw[List.drop_zero,hC];omega) (by rw[List.drop_zero,hC])
 subst hm
 refine PT M _ _ ?_
 refine oY (D:=AM 6 M) (K:=fun m=>m=n+B+C+D) (My M hM.aW s4 _) (fun m hm=> ?_) M.aW.length 0 (n+B+C) (by omega) (by rw[List.drop_zero,hD];omega) (by rw[List.drop_zero,hD])
 subst hm
 exact PU M _ _ rfl
end Go.Proofs.YtdmmllcjgjmbbaaGreatDoor.N
end
