/-
The document's check of a module, but for texts: the same as the program's.
-/
import Derived.Test.YtdmmllcjgjmbbaaGreatDoorMN
import Derived.Test.YtdmmllcjgjmbbaaGreatDoorMO
section
set_option linter.unusedSimpArgs false
set_option linter.unusedVariables false
namespace Go.Proofs.YtdmmllcjgjmbbaaGreatDoor.N
open Go Go.Am
noncomputable def Uh:bu:=aK av az [(75,0)] [] []
def Yo:Sc:= .fin
noncomputable def O2 (M:Mo):Tree:=
 (.at (af Tryz.prog env 75 0 [.mp 0 0,.os none 0 0 [],sI .i64 0] ([.pc M.aE]) 0 45))
theorem LL (M:Mo):aR Tryz.prog env Uh 1000000 75 ([AV.agg (List.map AV.p M.aE)]) ([]) Yo=O2 M:=by kernel_rfl
noncomputable def O3:bu:=aK av az [(75,0),(75,2)] [(75,0,1)] [(75,0,2)]
def Ui:Sc:= .fin
noncomputable def uP (M:Mo) (n:Nat) (i:Nat) (a:List PV):Tree:=
 (.test (decide ((↑i:Int)<(↑M.aI.length:Int)))
 (.must (aG (↑i:Int) M.aI.length&&true&&true&&(isStr ((List.flatMap aQ M.aI).getD ((↑i:Int).toNat*3+0) PV.bad)&&true&&(aG (↑i:Int) M.aI.length&&true&&true&&(isStr ((List.flatMap aQ M.aI).getD ((↑i:Int).toNat*3+1) PV.bad)&&true&&true)))&&true)
 (.at (af Tryz.prog env 75 0 [.mp 0 0,.os (some 1) 2 1 [.sc (.string (aN ((List.flatMap aQ M.aI).getD ((↑i:Int).toNat*3+0) PV.bad))),.sc (.string (aN ((List.flatMap aQ M.aI).getD ((↑i:Int).toNat*3+1) PV.bad)))],sI .i64 (IntKind.i64.wrap ((↑i:Int)+1))] ([.pc M.aE,.tok]) 0 45)))
 (.at (af Tryz.prog env 75 2 [.mp 0 0,.os none 0 0 [],sI .i64 0] ([.pc M.aE]) 0 45)))
theorem yu (M:Mo) (n:Nat) (i:Nat) (a:List PV):grow Tryz.prog env O3 1000000 true (af Tryz.prog env 75 0 ([AV.mp 0 0,AV.os Option.none 0 0 [],sI IntKind.i64 (↑i:Int)]) ([bg.pc M.aE]) 0 45) Ui atEnd=uP M n i a:=by kernel_rfl
noncomputable def O4:bu:=aK av az [(75,0),(75,2)] [(75,0,1)] [(75,0,2)]
def Uj:Sc:= .fin
noncomputable def uQ (M:Mo) (n:Nat) (i:Nat) (a:List PV):Tree:=
 (.test (decide ((↑i:Int)<(↑M.aI.length:Int)))
 (.must (aG (↑i:Int) M.aI.length&&true&&true&&(isStr ((List.flatMap aQ M.aI).getD ((↑i:Int).toNat*3+0) PV.bad)&&true&&(aG (↑i:Int) M.aI.length&&true&&true&&(isStr ((List.flatMap aQ M.aI).getD ((↑i:Int).toNat*3+1) PV.bad)&&true&&(((n+2)*16).ble dh&&(n+2).ble dh&&true&&true))))&&true)
 (.at (af Tryz.prog env 75 0 [.mp 0 0,.os (some 1) (n+2) 1 (a++[.sc (.string (aN ((List.flatMap aQ M.aI).getD ((↑i:Int).toNat*3+0) PV.bad))),.sc (.string (aN ((List.flatMap aQ M.aI).getD ((↑i:Int).toNat*3+1) PV.bad)))]),sI .i64 (IntKind.i64.wrap ((↑i:Int)+1))] ([.pc M.aE,.tok]) 0 45)))
 (.at (af Tryz.prog env 75 2 [.mp 0 0,.os (some 1) n 1 a,sI .i64 0] ([.pc M.aE,.tok]) 0 45)))
theorem yw (M:Mo) (n:Nat) (i:Nat) (a:List PV):grow Tryz.prog env O4 1000000 true (af Tryz.prog env 75 0 ([AV.mp 0 0,AV.os (Option.some 1) n 1 a,sI IntKind.i64 (↑i:Int)]) ([bg.pc M.aE,bg.tok]) 0 45) Uj atEnd=uQ M n i a:=by kernel_rfl
noncomputable def O5:bu:=aK av az [(75,2)] [(75,0,3)] [(75,10,4),(75,10,6)]
def Uk:Sc:= .fin
noncomputable def uR (M:Mo) (n:Nat) (i:Nat) (a:List PV):Tree:=
 (.test (decide ((↑i:Int)<(↑M.exs.length:Int)))
 (.must (aG (↑i:Int) M.exs.length&&true&&true)
 (.must (isStr ((List.flatMap aP M.exs).getD ((↑i:Int).toNat*3+0) PV.bad)&&true)
 (.at (af Tryz.prog env 75 2 [.mp 0 0,.os (some 1) 1 1 [.sc (.string (aN ((List.flatMap aP M.exs).getD ((↑i:Int).toNat*3+0) PV.bad)))],sI .i64 (IntKind.i64.wrap ((↑i:Int)+1))] ([.pc M.aE,.tok]) 0 45))))
 (.out (.ret (.os none 0 0 []) [])))
theorem yx (M:Mo) (n:Nat) (i:Nat) (a:List PV):grow Tryz.prog env O5 1000000 true (af Tryz.prog env 75 2 ([AV.mp 0 0,AV.os Option.none 0 0 [],sI IntKind.i64 (↑i:Int)]) ([bg.pc M.aE]) 0 45) Uk atEnd=uR M n i a:=by kernel_rfl
noncomputable def O6:bu:=aK av az [(75,2)] [(75,0,3)] [(75,10,4),(75,10,6),(75,10,8)]
def Ul:Sc:= .fin
noncomputable def uS (M:Mo) (n:Nat) (i:Nat) (a:List PV):Tree:=
 (.test (decide ((↑i:Int)<(↑M.exs.length:Int)))
 (.must (aG (↑i:Int) M.exs.length&&true&&true)
 (.must (isStr ((List.flatMap aP M.exs).getD ((↑i:Int).toNat*3+0) PV.bad)&&true)
 (.must (((n+1)*16).ble dh&&(n+1).ble dh&&true)
 (.at (af Tryz.prog env 75 2 [.mp 0 0,.os (some 1) (n+1) 1 (a++[.sc (.string (aN ((List.flatMap aP M.exs).getD ((↑i:Int).toNat*3+0) PV.bad)))]),sI .i64 (IntKind.i64.wrap ((↑i:Int)+1))] ([.pc M.aE,.tok]) 0 45)))))
 (.out (.ret (.os (some 0) n 1 a) [.tok])))
theorem yy (M:Mo) (n:Nat) (i:Nat) (a:List PV):grow Tryz.prog env O6 1000000 true (af Tryz.prog env 75 2 ([AV.mp 0 0,AV.os (Option.some 1) n 1 a,sI IntKind.i64 (↑i:Int)]) ([bg.pc M.aE,bg.tok]) 0 45) Ul atEnd=uS M n i a:=by kernel_rfl
noncomputable def Um:bu:=aK av az [(74,0)] [] []
def Yp:Sc:= .fin
noncomputable def O7 (M:Mo) (e:Int):Tree:=
 (.at (af Tryz.prog env 74 0 [sI .i64 e,.mp 0 0,sI .i64 0] ([.pc M.aE]) 0 70))
theorem LM (M:Mo) (e:Int):aR Tryz.prog env Um 1000000 74 ([AV.agg (List.map AV.p M.aE),sI IntKind.i64 e]) ([]) Yp=O7 M e:=by kernel_rfl
noncomputable def O8:bu:=aK av az [(74,0),(74,3)] [(74,0,1),(74,0,2)] [(74,5,3),(74,5,6)]
noncomputable def Un (M:Mo) (e:Int) (i:Nat) (b:Bool):Sc:=(.fork (.ans 113 (.p (.sc (.bool b))) ([]) .fin) .fin)
noncomputable def uT (M:Mo) (e:Int) (i:Nat) (b:Bool):Tree:=
 (.test (decide ((↑i:Int)<(↑M.fns.length:Int)))
 (.must (aG (↑i:Int) M.fns.length&&true&&true)
 (.must (aH ((List.flatMap aB M.fns).getD ((↑i:Int).toNat*3+1+1) PV.bad)&&true)
 (.call ⟨113,[.p (.ps (aq ((List.flatMap aB M.fns).getD ((↑i:Int).toNat*3+1+1) PV.bad)) (aA ((List.flatMap aB M.fns).getD ((↑i:Int).toNat*3+1+1) PV.bad)) (aj ((List.flatMap aB M.fns).getD ((↑i:Int).toNat*3+1+1) PV.bad))),sI .i64 e],[],.p (.sc (.bool b)),[]⟩
 (.test (b)
 (.out (.ret (sB true) []))
 (.at (af Tryz.prog env 74 0 [sI .i64 e,.mp 0 0,sI .i64 (IntKind.i64.wrap ((↑i:Int)+1))] ([.pc M.aE]) 0 70))))))
 (.at (af Tryz.prog env 74 3 [sI .i64 e,.mp 0 0,sI .i64 0] ([.pc M.aE]) 0 70)))
theorem yz (M:Mo) (e:Int) (i:Nat) (b:Bool):grow Tryz.prog env O8 1000000 true (af Tryz.prog env 74 0 ([sI IntKind.i64 e,AV.mp 0 0,sI IntKind.i64 (↑i:Int)]) ([bg.pc M.aE]) 0 70) (Un M e i b) atEnd=uT M e i b:=by kernel_rfl
noncomputable def O9:bu:=aK av az [(74,3),(74,6)] [(74,0,4),(74,0,5)] [(74,10,3),(74,10,5)]
noncomputable def Uo (M:Mo) (e:Int) (i:Nat) (b:Bool):Sc:=(.fork (.ans 113 (.p (.sc (.bool b))) ([]) .fin) .fin)
noncomputable def uU (M:Mo) (e:Int) (i:Nat) (b:Bool):Tree:=
 (.test (decide ((↑i:Int)<(↑M.gls.length:Int)))
 (.must (aG (↑i:Int) M.gls.length&&true&&true)
 (.must (aH ((List.flatMap aY M.gls).getD ((↑i:Int).toNat*2+1) PV.bad)&&true)
 (.call ⟨113,[.p (.ps (aq ((List.flatMap aY M.gls).getD ((↑i:Int).toNat*2+1) PV.bad)) (aA ((List.flatMap aY M.gls).getD ((↑i:Int).toNat*2+1) PV.bad)) (aj ((List.flatMap aY M.gls).getD ((↑i:Int).toNat*2+1) PV.bad))),sI .i64 e],[],.p (.sc (.bool b)),[]⟩
 (.test (b)
 (.out (.ret (sB true) []))
 (.at (af Tryz.prog env 74 3 [sI .i64 e,.mp 0 0,sI .i64 (IntKind.i64.wrap ((↑i:Int)+1))] ([.pc M.aE]) 0 70))))))
 (.at (af Tryz.prog env 74 6 [sI .i64 e,.mp 0 0,sI .i64 0] ([.pc M.aE]) 0 70)))
theorem yA (M:Mo) (e:Int) (i:Nat) (b:Bool):grow Tryz.prog env O9 1000000 true (af Tryz.prog env 74 3 ([sI IntKind.i64 e,AV.mp 0 0,sI IntKind.i64 (↑i:Int)]) ([bg.pc M.aE]) 0 70) (Uo M e i b) atEnd=uU M e i b:=by kernel_rfl
noncomputable def Pa:bu:=aK av az [(74,6),(74,9)] [(74,0,7),(74,0,8)] [(74,15,3),(74,15,5)]
noncomputable def Up (M:Mo) (e:Int) (i:Nat) (b:Bool):Sc:=(.fork (.ans 113 (.p (.sc (.bool b))) ([]) .fin) .fin)
noncomputable def uV (M:Mo) (e:Int) (i:Nat) (b:Bool):Tree:=
 (.test (decide ((↑i:Int)<(↑M.els.length:Int)))
 (.must (aG (↑i:Int) M.els.length&&true&&true)
 (.must (aH ((List.flatMap aJ M.els).getD ((↑i:Int).toNat*2+0) PV.bad)&&true)
 (.call ⟨113,[.p (.ps (aq ((List.flatMap aJ M.els).getD ((↑i:Int).toNat*2+0) PV.bad)) (aA ((List.flatMap aJ M.els).getD ((↑i:Int).toNat*2+0) PV.bad)) (aj ((List.flatMap aJ M.els).getD ((↑i:Int).toNat*2+0) PV.bad))),sI .i64 e],[],.p (.sc (.bool b)),[]⟩
 (.test (b)
 (.out (.ret (sB true) []))
 (.at (af Tryz.prog env 74 6 [sI .i64 e,.mp 0 0,sI .i64 (IntKind.i64.wrap ((↑i:Int)+1))] ([.pc M.aE]) 0 70))))))
 (.at (af Tryz.prog env 74 9 [sI .i64 e,.mp 0 0,sI .i64 0] ([.pc M.aE]) 0 70)))
theorem yB (M:Mo) (e:Int) (i:Nat) (b:Bool):grow Tryz.prog env Pa 1000000 true (af Tryz.prog env 74 6 ([sI IntKind.i64 e,AV.mp 0 0,sI IntKind.i64 (↑i:Int)]) ([bg.pc M.aE]) 0 70) (Up M e i b) atEnd=uV M e i b:=by kernel_rfl
noncomputable def Pb:bu:=aK av az [(74,9)] [(74,0,10),(74,0,11)] [(74,20,3),(74,20,5)]
noncomputable def Uq (M:Mo) (e:Int) (i:Nat) (b:Bool):Sc:=(.fork (.ans 113 (.p (.sc (.bool b))) ([]) .fin) .fin)
noncomputable def uW (M:Mo) (e:Int) (i:Nat) (b:Bool):Tree:=
 (.test (decide ((↑i:Int)<(↑M.aW.length:Int)))
 (.must (aG (↑i:Int) M.aW.length&&true&&true)
 (.must (aH ((List.flatMap aV M.aW).getD ((↑i:Int).toNat*2+0) PV.bad)&&true)
 (.call ⟨113,[.p (.ps (aq ((List.flatMap aV M.aW).getD ((↑i:Int).toNat*2+0) PV.bad)) (aA ((List.flatMap aV M.aW).getD ((↑i:Int).toNat*2+0) PV.bad)) (aj ((List.flatMap aV M.aW).getD ((↑i:Int).toNat*2+0) PV.bad))),sI .i64 e],[],.p (.sc (.bool b)),[]⟩
 (.test (b)
 (.out (.ret (sB true) []))
 (.at (af Tryz.prog env 74 9 [sI .i64 e,.mp 0 0,sI .i64 (IntKind.i64.wrap ((↑i:Int)+1))] ([.pc M.aE]) 0 70))))))
 (.out (.ret (sB false) [])))
theorem yC (M:Mo) (e:Int) (i:Nat) (b:Bool):grow Tryz.prog env Pb 1000000 true (af Tryz.prog env 74 9 ([sI IntKind.i64 e,AV.mp 0 0,sI IntKind.i64 (↑i:Int)]) ([bg.pc M.aE]) 0 70) (Uq M e i b) atEnd=uW M e i b:=by kernel_rfl
noncomputable def Ur:bu:=aK av az [] [] []
noncomputable def Yq (l:List Ins) (e c:Int):Sc:=(.ans 124 (sI .i64 c) ([]) .fin)
noncomputable def Pc (l:List Ins) (e c:Int):Tree:=
 (.call ⟨124,[.p (.ps l.length 8 (ak l))],[],sI .i64 c,[]⟩
 (.out (.ret (.p (.sc (.bool (c==e)))) [])))
theorem LN (l:List Ins) (e c:Int):aR Tryz.prog env Ur 1000000 113 ([AV.p (pL l),sI IntKind.i64 e]) ([]) (Yq l e c)=Pc l e c:=by kernel_rfl
noncomputable def Us:bu:=aK av az [(30,1)] [(30,2,5),(30,0,0)] []
def Yr:Sc:=(.fork (.lit .fin) .fin)
noncomputable def FL (M:Mo):Tree:=
 (.test (decide ((↑M.bW.length:Int)>1))
 (.out (.ret (sB true) []))
 (.test (decide ((↑M.bX.length:Int)>1))
 (.out (.ret (sB true) []))
 (.at (af Tryz.prog env 30 1 [.mp 0 0,sI .i64 0] ([.pc M.aE]) 0 70))))
theorem LO (M:Mo):aR Tryz.prog env Us 1000000 30 ([AV.agg (List.map AV.p M.aE)]) ([]) Yr=FL M:=by kernel_rfl
noncomputable def Pd:bu:=aK av az [(30,1)] [(30,5,6),(30,0,2),(30,0,3),(30,0,6)] [(30,7,3),(30,7,5)]
noncomputable def Ut (M:Mo) (i:Nat) (b:Bool):Sc:=(.fork (.fork .fin (.fork .fin (.fork .fin (.fork .fin (.fork .fin (.fork .fin (.fork .fin (.fork .fin (.ans 74 (.p (.sc (.bool b))) ([]) .fin))))))))) (.lit (.fork .fin (.fork .fin (.fork .fin (.fork .fin (.fork .fin (.fork .fin (.fork .fin (.ans 74 (.p (.sc (.bool b))) ([]) .fin))))))))))
noncomputable def uX (M:Mo) (i:Nat) (b:Bool):Tree:=
 (.test (decide ((↑i:Int)<(↑M.els.length:Int)))
 (.test (decide ((↑i:Int)≤16384))
 (.must (aG (↑i:Int) M.els.length&&true&&true)
 (.must (aH ((List.flatMap aJ M.els).getD ((↑i:Int).toNat*2+1) PV.bad)&&true)
 (.test (decide ((↑(aq ((List.flatMap aJ M.els).getD ((↑i:Int).toNat*2+1) PV.bad)):Int)>16384))
 (.out (.ret (sB true) []))
 (.at (af Tryz.prog env 30 1 [.mp 0 0,sI .i64 (IntKind.i64.wrap ((↑i:Int)+1))] ([.pc M.aE]) 0 70)))))
 (.test (decide ((↑M.tys.length:Int)>16384))
 (.out (.ret (sB true) []))
 (.test (decide ((↑M.aI.length:Int)>16384))
 (.out (.ret (sB true) []))
 (.test (decide ((↑M.fns.length:Int)>16384))
 (.out (.ret (sB true) []))
 (.test (decide ((↑M.gls.length:Int)>16384))
 (.out (.ret (sB true) []))
 (.test (decide ((↑M.exs.length:Int)>16384))
 (.out (.ret (sB true) []))
 (.test (decide ((↑M.els.length:Int)>16384))
 (.out (.ret (sB true) []))
 (.test (decide ((↑M.aW.length:Int)>16384))
 (.out (.ret (sB true) []))
 (.call ⟨74,[.agg (List.map AV.p M.aE),sI .i64 141],[],.p (.sc (.bool b)),[]⟩
 (.out (.ret (.p (.sc (.bool b))) [])))))))))))
 (.test (decide ((↑M.tys.length:Int)>16384))
 (.out (.ret (sB true) []))
 (.test (decide ((↑M.aI.length:Int)>16384))
 (.out (.ret (sB true) []))
 (.test (decide ((↑M.fns.length:Int)>16384))
 (.out (.ret (sB true) []))
 (.test (decide ((↑M.gls.length:Int)>16384))
 (.out (.ret (sB true) []))
 (.test (decide ((↑M.exs.length:Int)>16384))
 (.out (.ret (sB true) []))
 (.test (decide ((↑M.els.length:Int)>16384))
 (.out (.ret (sB true) []))
 (.test (decide ((↑M.aW.length:Int)>16384))
 (.out (.ret (sB true) []))
 (.call ⟨74,[.agg (List.map AV.p M.aE),sI .i64 141],[],.p (.sc (.bool b)),[]⟩
 (.out (.ret (.p (.sc (.bool b))) [])))))))))))
theorem yD (M:Mo) (i:Nat) (b:Bool):grow Tryz.prog env Pd 1000000 true (af Tryz.prog env 30 1 ([AV.mp 0 0,sI IntKind.i64 (↑i:Int)]) ([bg.pc M.aE]) 0 70) (Ut M i b) atEnd=uX M i b:=by kernel_rfl
noncomputable def Uu:bu:=aK av az [(31,0)] [] []
noncomputable def Ys (M:Mo) (n:Nat) (ns:List PV):Sc:=(.ans 75 (.p (.ps n 1 ns)) ([]) .fin)
noncomputable def FM (M:Mo) (n:Nat) (ns:List PV):Tree:=
 (.call ⟨75,[.agg (List.map AV.p M.aE)],[],.p (.ps n 1 ns),[]⟩
 (.at (af Tryz.prog env 31 0 [.mp 0 0,.p (.ps n 1 ns),sI .i64 0] ([.pc M.aE]) 0 47)))
theorem LP (M:Mo) (n:Nat) (ns:List PV):aR Tryz.prog env Uu 1000000 31 ([AV.agg (List.map AV.p M.aE)]) ([]) (Ys M n ns)=FM M n ns:=by kernel_rfl
noncomputable def Pe:bu:=aK av az [(31,0),(31,3)] [(31,0,1),(31,0,2)] [(31,6,2),(31,6,3)]
def Uv:Sc:= .fin
noncomputable def uY (M:Mo) (n:Nat) (i:Nat) (ns:List PV):Tree:=
 (.test (decide ((↑i:Int)<(↑n:Int)))
 (.must (aG (↑i:Int) n&&true&&true)
 (.must (isStr (ns.getD ((↑i:Int).toNat*1) PV.bad)&&true)
 (.test (decide ((↑(aN (ns.getD ((↑i:Int).toNat*1) PV.bad)).data.toList.length:Int)>1000))
 (.out (.ret (sB true) []))
 (.at (af Tryz.prog env 31 0 [.mp 0 0,.p (.ps n 1 ns),sI .i64 (IntKind.i64.wrap ((↑i:Int)+1))] ([.pc M.aE]) 0 47)))))
 (.at (af Tryz.prog env 31 3 [.mp 0 0,sI .i64 0,sI .i64 0] ([.pc M.aE]) 0 47)))
theorem yE (M:Mo) (n:Nat) (i:Nat) (ns:List PV):grow Tryz.prog env Pe 1000000 true (af Tryz.prog env 31 0 ([AV.mp 0 0,AV.p (PV.ps n 1 ns),sI IntKind.i64 (↑i:Int)]) ([bg.pc M.aE]) 0 47) Uv atEnd=uY M n i ns:=by kernel_rfl
noncomputable def Pf:bu:=aK av az [(31,3)] [(31,0,4),(31,0,5)] [(31,12,3),(31,12,5),(31,14,4),(31,14,6)]
def Uw:Sc:= .fin
noncomputable def uZ (M:Mo) (i:Nat) (sum:Int):Tree:=
 (.test (decide ((↑i:Int)<(↑M.aW.length:Int)))
 (.must (aG (↑i:Int) M.aW.length&&true&&true)
 (.must (aH ((List.flatMap aV M.aW).getD ((↑i:Int).toNat*2+1) PV.bad)&&true)
 (.test (decide ((↑(aq ((List.flatMap aV M.aW).getD ((↑i:Int).toNat*2+1) PV.bad)):Int)>IntKind.i64.wrap (1048576-sum)))
 (.out (.ret (sB true) []))
 (.must (aG (↑i:Int) M.aW.length&&true&&true)
 (.must (aH ((List.flatMap aV M.aW).getD ((↑i:Int).toNat*2+1) PV.bad)&&true)
 (.at (af Tryz.prog env 31 3 [.mp 0 0,sI .i64 (IntKind.i64.wrap (sum+(↑(aq ((List.flatMap aV M.aW).getD ((↑i:Int).toNat*2+1) PV.bad)):Int))),sI .i64 (IntKind.i64.wrap ((↑i:Int)+1))] ([.pc M.aE]) 0 47)))))))
 (.out (.ret (sB false) [])))
theorem yF (M:Mo) (i:Nat) (sum:Int):grow Tryz.prog env Pf 1000000 true (af Tryz.prog env 31 3 ([AV.mp 0 0,sI IntKind.i64 sum,sI IntKind.i64 (↑i:Int)]) ([bg.pc M.aE]) 0 47) Uw atEnd=uZ M i sum:=by kernel_rfl
noncomputable def Ux:bu:=aK av az [(32,0)] [] []
def Yt:Sc:= .fin
noncomputable def Pg (M:Mo):Tree:=
 (.at (af Tryz.prog env 32 0 [.mp 0 0,sI .i64 0] ([.pc M.aE]) 0 76))
theorem LQ (M:Mo):aR Tryz.prog env Ux 1000000 32 ([AV.agg (List.map AV.p M.aE)]) ([]) Yt=Pg M:=by kernel_rfl
noncomputable def Ph:bu:=aK av az [(32,0),(32,3)] [(32,0,1),(32,0,2)] [(32,5,3),(32,5,4)]
noncomputable def Uy (M:Mo) (i:Nat) (c:Int):Sc:=(.fork (.ans 76 (sI .i64 c) ([]) .fin) .fin)
noncomputable def va (M:Mo) (i:Nat) (c:Int):Tree:=
 (.test (decide ((↑i:Int)<(↑M.tys.length:Int)))
 (.must (aG (↑i:Int) M.tys.length&&true&&true)
 (.must (isInt IntKind.i64 ((List.flatMap aZ M.tys).getD ((↑i:Int).toNat*2) PV.bad)&&(isInt IntKind.i64 ((List.flatMap aZ M.tys).getD ((↑i:Int).toNat*2+1) PV.bad)&&true)&&true)
 (.call ⟨76,[.agg [sI .i64 (au ((List.flatMap aZ M.tys).getD ((↑i:Int).toNat*2) PV.bad)),sI .i64 (au ((List.flatMap aZ M.tys).getD ((↑i:Int).toNat*2+1) PV.bad))]],[],sI .i64 c,[]⟩
 (.test (c != 0)
 (.out (.ret (sB false) []))
 (.at (af Tryz.prog env 32 0 [.mp 0 0,sI .i64 (IntKind.i64.wrap ((↑i:Int)+1))] ([.pc M.aE]) 0 76))))))
 (.at (af Tryz.prog env 32 3 [.mp 0 0,sI .i64 0] ([.pc M.aE]) 0 76)))
theorem yG (M:Mo) (i:Nat) (c:Int):grow Tryz.prog env Ph 1000000 true (af Tryz.prog env 32 0 ([AV.mp 0 0,sI IntKind.i64 (↑i:Int)]) ([bg.pc M.aE]) 0 76) (Uy M i c) atEnd=va M i c:=by kernel_rfl
noncomputable def Pj:bu:=aK av az [(32,3),(32,6)] [(32,0,4),(32,10,8),(32,0,5)] [(32,10,3),(32,10,5),(32,10,11),(32,10,13)]
noncomputable def Uz (M:Mo) (i:Nat) (c:Int):Sc:=(.fork (.fork (.lit .fin) .fin) .fin)
noncomputable def vc (M:Mo) (i:Nat) (c:Int):Tree:=
 (.test (decide ((↑i:Int)<(↑M.aI.length:Int)))
 (.must (aG (↑i:Int) M.aI.length&&true&&true)
 (.must (isInt IntKind.i64 ((List.flatMap aQ M.aI).getD ((↑i:Int).toNat*3+2) PV.bad)&&true)
 (.test (decide (au ((List.flatMap aQ M.aI).getD ((↑i:Int).toNat*3+2) PV.bad)<0))
 (.out (.ret (sB false) []))
 (.must (aG (↑i:Int) M.aI.length&&true&&true)
 (.must (isInt IntKind.i64 ((List.flatMap aQ M.aI).getD ((↑i:Int).toNat*3+2) PV.bad)&&true)
 (.test (decide (au ((List.flatMap aQ M.aI).getD ((↑i:Int).toNat*3+2) PV.bad)>2147483647))
 (.out (.ret (sB false) []))
 (.at (af Tryz.prog env 32 3 [.mp 0 0,sI .i64 (IntKind.i64.wrap ((↑i:Int)+1))] ([.pc M.aE]) 0 76))))))))
 (.at (af Tryz.prog env 32 6 [.mp 0 0,sI .i64 0] ([.pc M.aE]) 0 76)))
theorem yH (M:Mo) (i:Nat) (c:Int):grow Tryz.prog env Pj 1000000 true (af Tryz.prog env 32 3 ([AV.mp 0 0,sI IntKind.i64 (↑i:Int)]) ([bg.pc M.aE]) 0 76) (Uz M i c) atEnd=vc M i c:=by kernel_rfl
noncomputable def Pk:bu:=aK av az [(32,6)] [(32,0,7),(32,16,4),(32,16,9),(32,16,15),(32,0,8)] [(32,15,3),(32,15,4)]
noncomputable def UA (M:Mo) (i:Nat) (c:Int):Sc:=(.fork (.fork (.lit (.lit (.lit .fin))) (.fork (.lit (.lit .fin)) (.fork (.lit .fin) .fin))) .fin)
noncomputable def ve (M:Mo) (i:Nat) (c:Int):Tree:=
 (.test (decide ((↑i:Int)<(↑M.fns.length:Int)))
 (.must (aG (↑i:Int) M.fns.length&&true&&true)
 (.must (isInt IntKind.i64 ((List.flatMap aB M.fns).getD ((↑i:Int).toNat*3) PV.bad)&&(isInt IntKind.i64 ((List.flatMap aB M.fns).getD ((↑i:Int).toNat*3+1) PV.bad)&&(aH ((List.flatMap aB M.fns).getD ((↑i:Int).toNat*3+1+1) PV.bad)&&true))&&true)
 (.test (decide (au ((List.flatMap aB M.fns).getD ((↑i:Int).toNat*3) PV.bad)<0))
 (.out (.ret (sB false) []))
 (.test (decide (au ((List.flatMap aB M.fns).getD ((↑i:Int).toNat*3) PV.bad)>2147483647))
 (.out (.ret (sB false) []))
 (.test (decide (au ((List.flatMap aB M.fns).getD ((↑i:Int).toNat*3+1) PV.bad)<0))
 (.out (.ret (sB false) []))
 (.test (decide (au ((List.flatMap aB M.fns).getD ((↑i:Int).toNat*3+1) PV.bad)>50000))
 (.out (.ret (sB false) []))
 (.at (af Tryz.prog env 32 6 [.mp 0 0,sI .i64 (IntKind.i64.wrap ((↑i:Int)+1))] ([.pc M.aE]) 0 76))))))))
 (.out (.ret (sB true) [])))
theorem yI (M:Mo) (i:Nat) (c:Int):grow Tryz.prog env Pk 1000000 true (af Tryz.prog env 32 6 ([AV.mp 0 0,sI IntKind.i64 (↑i:Int)]) ([bg.pc M.aE]) 0 76) (UA M i c) atEnd=ve M i c:=by kernel_rfl
noncomputable def UB:bu:=aK av az [(33,0)] [] []
noncomputable def Yu (M:Mo) (n:Nat) (ns:List PV):Sc:=(.ans 75 (.p (.ps n 1 ns)) ([]) .fin)
noncomputable def FN (M:Mo) (n:Nat) (ns:List PV):Tree:=
 (.call ⟨75,[.agg (List.map AV.p M.aE)],[],.p (.ps n 1 ns),[]⟩
 (.at (af Tryz.prog env 33 0 [.mp 0 0,.p (.ps n 1 ns),sI .i64 0] ([.pc M.aE]) 0 86)))
theorem LR (M:Mo) (n:Nat) (ns:List PV):aR Tryz.prog env UB 1000000 33 ([AV.agg (List.map AV.p M.aE)]) ([]) (Yu M n ns)=FN M n ns:=by kernel_rfl
noncomputable def Pm:bu:=aK av az [(33,0),(33,3)] [(33,0,1),(33,0,2)] [(33,6,2),(33,6,3)]
noncomputable def UC (M:Mo) (n:Nat) (i:Nat) (ns:List PV) (c:Int):Sc:=(.fork (.ans 77 (sI .i64 c) ([.tok]) .fin) .fin)
noncomputable def vf (M:Mo) (n:Nat) (i:Nat) (ns:List PV) (c:Int):Tree:=
 (.test (decide ((↑i:Int)<(↑n:Int)))
 (.must (aG (↑i:Int) n&&true&&true)
 (.must (isStr (ns.getD ((↑i:Int).toNat*1) PV.bad)&&true)
 (.call ⟨77,[.os (some 0) (aN (ns.getD ((↑i:Int).toNat*1) PV.bad)).data.toList.length 1 (List.map fc (aN (ns.getD ((↑i:Int).toNat*1) PV.bad)).data.toList)],[.tok],sI .i64 c,[.tok]⟩
 (.test (decide (c≥0))
 (.out (.ret (sB false) []))
 (.at (af Tryz.prog env 33 0 [.mp 0 0,.p (.ps n 1 ns),sI .i64 (IntKind.i64.wrap ((↑i:Int)+1))] ([.pc M.aE]) 0 86))))))
 (.at (af Tryz.prog env 33 3 [.mp 0 0,sI .i64 0] ([.pc M.aE]) 0 86)))
theorem yJ (M:Mo) (n:Nat) (i:Nat) (ns:List PV) (c:Int):grow Tryz.prog env Pm 1000000 true (af Tryz.prog env 33 0 ([AV.mp 0 0,AV.p (PV.ps n 1 ns),sI IntKind.i64 (↑i:Int)]) ([bg.pc M.aE]) 0 86) (UC M n i ns c) atEnd=vf M n i ns c:=by kernel_rfl
noncomputable def Pn:bu:=aK av az [(33,3),(33,6)] [(33,0,4),(33,0,5)] [(33,11,3),(33,11,4)]
noncomputable def UD (M:Mo) (i:Nat) (c:Int):Sc:=(.fork (.ans 78 (sI .i64 c) ([]) .fin) .fin)
noncomputable def vg (M:Mo) (i:Nat) (c:Int):Tree:=
 (.test (decide ((↑i:Int)<(↑M.bW.length:Int)))
 (.must (aG (↑i:Int) M.bW.length&&true&&true)
 (.must (isInt IntKind.u32 ((List.flatMap aF M.bW).getD ((↑i:Int).toNat*3) PV.bad)&&(isInt IntKind.u32 ((List.flatMap aF M.bW).getD ((↑i:Int).toNat*3+1) PV.bad)&&(isBool ((List.flatMap aF M.bW).getD ((↑i:Int).toNat*3+1+1) PV.bad)&&true))&&true)
 (.call ⟨78,[.agg [sI .u32 (au ((List.flatMap aF M.bW).getD ((↑i:Int).toNat*3) PV.bad)),sI .u32 (au ((List.flatMap aF M.bW).getD ((↑i:Int).toNat*3+1) PV.bad)),.p (.sc (.bool (aT ((List.flatMap aF M.bW).getD ((↑i:Int).toNat*3+1+1) PV.bad))))],sI .u32 1048576],[],sI .i64 c,[]⟩
 (.test (c != 0)
 (.out (.ret (sB false) []))
 (.at (af Tryz.prog env 33 3 [.mp 0 0,sI .i64 (IntKind.i64.wrap ((↑i:Int)+1))] ([.pc M.aE]) 0 86))))))
 (.at (af Tryz.prog env 33 6 [.mp 0 0,sI .i64 0] ([.pc M.aE]) 0 86)))
theorem yK (M:Mo) (i:Nat) (c:Int):grow Tryz.prog env Pn 1000000 true (af Tryz.prog env 33 3 ([AV.mp 0 0,sI IntKind.i64 (↑i:Int)]) ([bg.pc M.aE]) 0 86) (UD M i c) atEnd=vg M i c:=by kernel_rfl
noncomputable def Po:bu:=aK av az [(33,6),(33,9)] [(33,0,7),(33,0,8)] [(33,16,3),(33,16,4)]
noncomputable def UE (M:Mo) (i:Nat) (c:Int):Sc:=(.fork (.ans 78 (sI .i64 c) ([]) .fin) .fin)
noncomputable def vh (M:Mo) (i:Nat) (c:Int):Tree:=
 (.test (decide ((↑i:Int)<(↑M.bX.length:Int)))
 (.must (aG (↑i:Int) M.bX.length&&true&&true)
 (.must (isInt IntKind.u32 ((List.flatMap aF M.bX).getD ((↑i:Int).toNat*3) PV.bad)&&(isInt IntKind.u32 ((List.flatMap aF M.bX).getD ((↑i:Int).toNat*3+1) PV.bad)&&(isBool ((List.flatMap aF M.bX).getD ((↑i:Int).toNat*3+1+1) PV.bad)&&true))&&true)
 (.call ⟨78,[.agg [sI .u32 (au ((List.flatMap aF M.bX).getD ((↑i:Int).toNat*3) PV.bad)),sI .u32 (au ((List.flatMap aF M.bX).getD ((↑i:Int).toNat*3+1) PV.bad)),.p (.sc (.bool (aT ((List.flatMap aF M.bX).getD ((↑i:Int).toNat*3+1+1) PV.bad))))],sI .u32 65536],[],sI .i64 c,[]⟩
 (.test (c != 0)
 (.out (.ret (sB false) []))
 (.at (af Tryz.prog env 33 6 [.mp 0 0,sI .i64 (IntKind.i64.wrap ((↑i:Int)+1))] ([.pc M.aE]) 0 86))))))
 (.at (af Tryz.prog env 33 9 [.mp 0 0,sI .i64 0] ([.pc M.aE]) 0 86)))
theorem yL (M:Mo) (i:Nat) (c:Int):grow Tryz.prog env Po 1000000 true (af Tryz.prog env 33 6 ([AV.mp 0 0,sI IntKind.i64 (↑i:Int)]) ([bg.pc M.aE]) 0 86) (UE M i c) atEnd=vh M i c:=by kernel_rfl
noncomputable def Pp:bu:=aK av az [(33,9)] [(33,0,10),(33,21,8),(33,0,11),(33,23,3),(33,23,8)] [(33,21,3),(33,21,5),(33,21,11),(33,21,13)]
noncomputable def UF (M:Mo) (i:Nat) (b:Bool):Sc:=(.fork (.fork (.lit .fin) .fin) (.fork (.lit (.ans 74 (.p (.sc (.bool b))) ([]) .fin)) (.fork (.ans 74 (.p (.sc (.bool b))) ([]) .fin) .fin)))
noncomputable def vi (M:Mo) (i:Nat) (b:Bool):Tree:=
 (.test (decide ((↑i:Int)<(↑M.exs.length:Int)))
 (.must (aG (↑i:Int) M.exs.length&&true&&true)
 (.must (isInt IntKind.i64 ((List.flatMap aP M.exs).getD ((↑i:Int).toNat*3+1) PV.bad)&&true)
 (.test (decide (au ((List.flatMap aP M.exs).getD ((↑i:Int).toNat*3+1) PV.bad)<0))
 (.out (.ret (sB false) []))
 (.must (aG (↑i:Int) M.exs.length&&true&&true)
 (.must (isInt IntKind.i64 ((List.flatMap aP M.exs).getD ((↑i:Int).toNat*3+1) PV.bad)&&true)
 (.test (decide (au ((List.flatMap aP M.exs).getD ((↑i:Int).toNat*3+1) PV.bad)>3))
 (.out (.ret (sB false) []))
 (.at (af Tryz.prog env 33 9 [.mp 0 0,sI .i64 (IntKind.i64.wrap ((↑i:Int)+1))] ([.pc M.aE]) 0 86))))))))
 (.test (M.st)
 (.call ⟨74,[.agg (List.map AV.p M.aE),sI .i64 2],[],.p (.sc (.bool b)),[]⟩
 (.out (.ret (.p (.sc (.bool !b))) [])))
 (.test (M.sn==0)
 (.call ⟨74,[.agg (List.map AV.p M.aE),sI .i64 2],[],.p (.sc (.bool b)),[]⟩
 (.out (.ret (.p (.sc (.bool !b))) [])))
 (.out (.ret (sB false) [])))))
theorem yM (M:Mo) (i:Nat) (b:Bool):grow Tryz.prog env Pp 1000000 true (af Tryz.prog env 33 9 ([AV.mp 0 0,sI IntKind.i64 (↑i:Int)]) ([bg.pc M.aE]) 0 86) (UF M i b) atEnd=vi M i b:=by kernel_rfl
noncomputable def UG:bu:=aK av az [] [(76,2,4),(76,2,9),(76,2,14),(76,0,0)] []
def Yv:Sc:=(.fork (.lit (.lit (.lit .fin))) (.fork (.lit (.lit .fin)) (.fork (.lit .fin) .fin)))
noncomputable def FO (p r:Int):Tree:=
 (.test (decide (p<0))
 (.out (.ret (sI .i64 2) []))
 (.test (decide (p>255))
 (.out (.ret (sI .i64 2) []))
 (.test (decide (r<0))
 (.out (.ret (sI .i64 2) []))
 (.test (decide (r>1))
 (.out (.ret (sI .i64 2) []))
 (.out (.ret (sI .i64 0) []))))))
theorem LS (p r:Int):aR Tryz.prog env UG 1000000 76 ([AV.agg [sI IntKind.i64 p,sI IntKind.i64 r]]) ([]) Yv=FO p r:=by kernel_rfl
noncomputable def UH:bu:=aK av az [] [(78,2,5),(78,2,8),(78,2,14),(78,2,22),(78,2,26),(78,0,0)] []
def Yw:Sc:=(.fork (.lit (.lit .fin)) (.fork (.fork (.lit (.lit .fin)) (.fork (.lit .fin) (.no (.lit .fin)))) (.lit (.yes .fin))))
noncomputable def FP (mn mx:Int) (cap:Bool) (most:Int):Tree:=
 (.test (decide (mn>most))
 (.out (.ret (sI .i64 2) []))
 (.test (cap)
 (.test (decide (mx<mn))
 (.out (.ret (sI .i64 2) []))
 (.test (decide (mx>most))
 (.out (.ret (sI .i64 2) []))
 (.must (!(!cap))
 (.out (.ret (sI .i64 0) [])))))
 (.must (!cap)
 (.test (mx != 0)
 (.out (.ret (sI .i64 2) []))
 (.out (.ret (sI .i64 0) []))))))
theorem LU (mn mx:Int) (cap:Bool) (most:Int):aR Tryz.prog env UH 1000000 78 ([AV.agg [sI IntKind.u32 mn,sI IntKind.u32 mx,sB cap],sI IntKind.u32 most]) ([]) Yw=FP mn mx cap most:=by kernel_rfl
noncomputable def UI:bu:=aK av az [] [(13,0,0),(13,0,1),(13,6,4),(13,0,2)] []
noncomputable def Yx (M:Mo) (a:Bool) (b:Bool) (c:Bool) (d:Bool):Sc:=(.ans 30 (.p (.sc (.bool a))) ([]) (.fork .fin (.ans 31 (.p (.sc (.bool b))) ([]) (.fork .fin (.ans 32 (.p (.sc (.bool c))) ([]) (.fork (.lit .fin) (.ans 33 (.p (.sc (.bool d))) ([]) .fin)))))))
noncomputable def FQ (M:Mo) (a:Bool) (b:Bool) (c:Bool) (d:Bool):Tree:=
 (.call ⟨30,[.agg (List.map AV.p M.aE)],[],.p (.sc (.bool a)),[]⟩
 (.test (a)
 (.out (.ret (sI .i64 141) []))
 (.call ⟨31,[.agg (List.map AV.p M.aE)],[],.p (.sc (.bool b)),[]⟩
 (.test (b)
 (.out (.ret (sI .i64 3) []))
 (.call ⟨32,[.agg (List.map AV.p M.aE)],[],.p (.sc (.bool c)),[]⟩
 (.test (!c)
 (.out (.ret (sI .i64 2) []))
 (.call ⟨33,[.agg (List.map AV.p M.aE)],[],.p (.sc (.bool d)),[]⟩
 (.test (!d)
 (.out (.ret (sI .i64 2) []))
 (.out (.ret (sI .i64 0) []))))))))))
theorem LV (M:Mo) (a:Bool) (b:Bool) (c:Bool) (d:Bool):aR Tryz.prog env UI 1000000 13 ([AV.agg (List.map AV.p M.aE)]) ([]) (Yx M a b c d)=FQ M a b c d:=by kernel_rfl
theorem UJ {α:Type} {l:List α} {p:α→Bool} {D:Nat→bJ} {oT o:Out} {K:Prop}
  (step : ∀(i:Nat) (x:α),l[i]? = some x→(p x=true→oT=o)→(p x=false→Am.Good Tryz.prog env (D (i+1)) o)→Am.Good Tryz.prog env (D i) o)
  (fin:K→Am.Good Tryz.prog env (D l.length) o) :
  ∀(r i:Nat),i+r=l.length→((l.drop i).any p=true→oT=o)→((l.drop i).any p=false→K)→Am.Good Tryz.prog env (D i) o:=by
 intro r
 induction r with
 |zero=>
  intro i hi _ hK
  obtain rfl:i=l.length:=by omega
  rw[List.drop_length] at hK
  exact fin (hK rfl)
 |succ r ih=>
  intro i hi hT hK
  have hl:i<l.length:=by omega
  rw[List.drop_eq_getElem_cons hl,List.any_cons] at hT hK
  refine step i l[i] (List.getElem?_eq_getElem hl) (fun q=>hT (by rw[q,Bool.true_or])) fun q=>ih (i+1) (by omega) (fun t=>hT (by rw[q,Bool.false_or,t])) fun t=>hK (by rw[q,Bool.false_or,t])
theorem gi {α:Type} {l:List α} {p:α→Bool} {D:Nat→bJ} {oT o:Out} {K:Prop}
  (step : ∀(i:Nat) (x:α),l[i]? = some x→(p x=true→oT=o)→(p x=false→Am.Good Tryz.prog env (D (i+1)) o)→Am.Good Tryz.prog env (D i) o)
  (fin:K→Am.Good Tryz.prog env (D l.length) o) (hT:l.any p=true→oT=o) (hK:l.any p=false→K):Am.Good Tryz.prog env (D 0) o:=
 UJ step fin l.length 0 (by omega) (by rwa [List.drop_zero]) (by rwa [List.drop_zero])
theorem kB (l:List Ins) (e:Int) (h:aU l≤100000000000):aC Tryz.prog env 113 [.p (pL l),sI .i64 e] [] (sB (cA iM l==e)) []:=
 ah names (LN l e (cA iM l)) ⟨Cm BX l (Nat.le_trans h (by decide)),rfl⟩
theorem LW (x:Ty):aC Tryz.prog env 76 [.agg ((aZ x).map .p)] [] (sI .i64 (Ij x)) []:=by
 refine ah names (LS x.p x.r) ?_
 simp only[FO,Tree.ok,decide_eq_true_eq,decide_eq_false_iff_not]
 refine⟨fun q=> ?_,fun q=>⟨fun r=> ?_,fun r=>⟨fun s=> ?_,fun s=>⟨fun t=> ?_,fun t=> ?_⟩⟩⟩⟩
 · rw[Ij,if_neg (by omega)]
 · rw[Ij,if_neg (by omega)]
 · rw[Ij,if_neg (by omega)]
 · rw[Ij,if_neg (by omega)]
 · rw[Ij,if_pos (by omega)]
theorem Cn (x:Li) (most:Int):aC Tryz.prog env 78 [.agg ((aF x).map .p),sI .u32 most] [] (sI .i64 (OA most x)) []:=by
 refine ah names (LU x.mn x.mx x.cap most) ?_
 obtain⟨mn,mx,cap⟩:=x
 simp only[FP,Tree.ok,OA]
 cases cap with
 |true=>
  refine⟨fun q=> ?_,fun q=>⟨fun _=>⟨fun r=> ?_,fun r=>⟨fun t=> ?_,fun t=>⟨rfl,?_⟩⟩⟩,fun r=>(by cases r)⟩⟩<;>simp only[decide_eq_true_eq,decide_eq_false_iff_not] at *
  · rw[if_pos (.inl q)]
  · rw[if_pos (.inr (.inl ⟨trivial,.inl r⟩))]
  · rw[if_pos (.inr (.inl ⟨trivial,.inr t⟩))]
  · rw[if_neg (by simp;omega)]
 |false=>
  refine⟨fun q=> ?_,fun q=>⟨fun r=>(by cases r),fun _=>⟨rfl,fun r=> ?_,fun r=> ?_⟩⟩⟩
  · simp only[decide_eq_true_eq] at q
    rw[if_pos (.inl q)]
  · rw[if_pos (.inr (.inr ⟨rfl,by simpa using r⟩))]
  · simp only[decide_eq_false_iff_not] at q
    have r:mx=0:=by simpa using r
    rw[if_neg (by simp[r];omega)]
noncomputable def Pq (M:Mo) (e:Int) (i:Nat):bJ:=af Tryz.prog env 74 0 [sI .i64 e,.mp 0 0,sI .i64 i] [.pc M.aE] 0 70
noncomputable def LX (M:Mo) (e:Int) (i:Nat):bJ:=af Tryz.prog env 74 3 [sI .i64 e,.mp 0 0,sI .i64 i] [.pc M.aE] 0 70
noncomputable def LY (M:Mo) (e:Int) (i:Nat):bJ:=af Tryz.prog env 74 6 [sI .i64 e,.mp 0 0,sI .i64 i] [.pc M.aE] 0 70
noncomputable def LZ (M:Mo) (e:Int) (i:Nat):bJ:=af Tryz.prog env 74 9 [sI .i64 e,.mp 0 0,sI .i64 i] [.pc M.aE] 0 70
noncomputable def Zr (M:Mo) (i:Nat):bJ:=af Tryz.prog env 30 1 [.mp 0 0,sI .i64 i] [.pc M.aE] 0 70
noncomputable def Zs (M:Mo) (l:List ByteArray) (i:Nat):bJ:=af Tryz.prog env 31 0 [.mp 0 0,.p (.ps l.length 1 (l.flatMap cS)),sI .i64 i] [.pc M.aE] 0 47
noncomputable def rlD (M:Mo) (sum:Int) (i:Nat):bJ:=af Tryz.prog env 31 3 [.mp 0 0,sI .i64 sum,sI .i64 i] [.pc M.aE] 0 47
noncomputable def FR (t:Nat) (M:Mo) (i:Nat):bJ:=af Tryz.prog env 32 t [.mp 0 0,sI .i64 i] [.pc M.aE] 0 76
noncomputable def Zt (M:Mo) (l:List ByteArray) (i:Nat):bJ:=af Tryz.prog env 33 0 [.mp 0 0,.p (.ps l.length 1 (l.flatMap cS)),sI .i64 i] [.pc M.aE] 0 86
noncomputable def D6 (t:Nat) (M:Mo) (i:Nat):bJ:=af Tryz.prog env 33 t [.mp 0 0,sI .i64 i] [.pc M.aE] 0 86
theorem Hr (M:Mo) (hl:M.fns.length≤1000000) (hs : ∀x∈M.fns,aU x.l≤100000000000) (e:Int) (o:Out) (i:Nat) (x:Fu) (hx:M.fns[i]? = some x) (h1:(fun x=>cA iM x.l==e) x=true→Out.ret (sB true) []=o) (h2:(fun x=>cA iM x.l==e) x=false→Am.Good Tryz.prog env (Pq M e (i+1)) o):Am.Good Tryz.prog env (Pq M e i) o:=by
 have hi:i<M.fns.length:=(List.getElem?_eq_some_iff.1 hx).1
 have hmem:=List.mem_of_getElem? hx
 have c:=aM (z:=3) (enc:=aB) (fun _=>rfl) hx
 have gj:(M.fns.flatMap aB).getD (i*3+1+1) .bad=pL x.l:=c 2 (by decide)
 have hH:(M.fns.flatMap aB).getD (i*3+2) .bad=pL x.l:=c 2 (by decide)
 have w:IntKind.i64.wrap ((i:Int)+1)=((i+1:Nat):Int):=by rw[aD (by omega) (by omega)];rfl
 have hd:decide ((i:Int)<(M.fns.length:Int))=true:=decide_eq_true (by omega)
 have hin:aG (i:Int) M.fns.length=true:=by simp only[aG,Bool.and_eq_true,decide_eq_true_eq];omega
 refine aa names (yz M e i (cA iM x.l==e)) ?_
 simp only[uT,Tree.ok,isStr,isInt,aH,isBool,aN,au,aT,aq,aA,aj,Int.toNat_natCast,Bool.and_true,Bool.true_and,gj,hH,hd,hin,w]
 refine⟨fun _=> ?_,fun q=>(by cases q)⟩
 exact⟨(by first | rfl | trivial),(by first | rfl | trivial),kB x.l e (hs x hmem),h1,h2⟩
theorem L0 (M:Mo) (hl:M.fns.length≤1000000) (hs : ∀x∈M.fns,aU x.l≤100000000000) (e:Int) (o:Out) (h:Am.Good Tryz.prog env (LX M e 0) o):Am.Good Tryz.prog env (Pq M e M.fns.length) o:=by
 have hd:decide ((M.fns.length:Int)<(M.fns.length:Int))=false:=decide_eq_false (by omega)
 refine aa names (yz M e M.fns.length true) ?_
 simp only[uT,Tree.ok,hd]
 refine⟨fun q=>(by cases q),fun _=> ?_⟩
 exact h
theorem Hs (M:Mo) (hl:M.gls.length≤1000000) (hs : ∀x∈M.gls,aU x.l≤100000000000) (e:Int) (o:Out) (i:Nat) (x:Gl) (hx:M.gls[i]? = some x) (h1:(fun x=>cA iM x.l==e) x=true→Out.ret (sB true) []=o) (h2:(fun x=>cA iM x.l==e) x=false→Am.Good Tryz.prog env (LX M e (i+1)) o):Am.Good Tryz.prog env (LX M e i) o:=by
 have hi:i<M.gls.length:=(List.getElem?_eq_some_iff.1 hx).1
 have hmem:=List.mem_of_getElem? hx
 have c:=aM (z:=2) (enc:=aY) (fun _=>rfl) hx
 have gj:(M.gls.flatMap aY).getD (i*2+1) .bad=pL x.l:=c 1 (by decide)
 have w:IntKind.i64.wrap ((i:Int)+1)=((i+1:Nat):Int):=by rw[aD (by omega) (by omega)];rfl
 have hd:decide ((i:Int)<(M.gls.length:Int))=true:=decide_eq_true (by omega)
 have hin:aG (i:Int) M.gls.length=true:=by simp only[aG,Bool.and_eq_true,decide_eq_true_eq];omega
 refine aa names (yA M e i (cA iM x.l==e)) ?_
 simp only[uU,Tree.ok,isStr,isInt,aH,isBool,aN,au,aT,aq,aA,aj,Int.toNat_natCast,Bool.and_true,Bool.true_and,gj,hd,hin,w]
 refine⟨fun _=> ?_,fun q=>(by cases q)⟩
 exact⟨(by first | rfl | trivial),(by first | rfl | trivial),kB x.l e (hs x hmem),h1,h2⟩
theorem L1 (M:Mo) (hl:M.gls.length≤1000000) (hs : ∀x∈M.gls,aU x.l≤100000000000) (e:Int) (o:Out) (h:Am.Good Tryz.prog env (LY M e 0) o):Am.Good Tryz.prog env (LX M e M.gls.length) o:=by
 have hd:decide ((M.gls.length:Int)<(M.gls.length:Int))=false:=decide_eq_false (by omega)
 refine aa names (yA M e M.gls.length true) ?_
 simp only[uU,Tree.ok,hd]
 refine⟨fun q=>(by cases q),fun _=> ?_⟩
 exact h
theorem Ht (M:Mo) (hl:M.els.length≤1000000) (hs : ∀x∈M.els,aU x.l≤100000000000) (e:Int) (o:Out) (i:Nat) (x:El) (hx:M.els[i]? = some x) (h1:(fun x=>cA iM x.l==e) x=true→Out.ret (sB true) []=o) (h2:(fun x=>cA iM x.l==e) x=false→Am.Good Tryz.prog env (LY M e (i+1)) o):Am.Good Tryz.prog env (LY M e i) o:=by
 have hi:i<M.els.length:=(List.getElem?_eq_some_iff.1 hx).1
 have hmem:=List.mem_of_getElem? hx
 have c:=aM (z:=2) (enc:=aJ) (fun _=>rfl) hx
 have gj:(M.els.flatMap aJ).getD (i*2) .bad=pL x.l:=c 0 (by decide)
 have hH:(M.els.flatMap aJ).getD (i*2+0) .bad=pL x.l:=c 0 (by decide)
 have w:IntKind.i64.wrap ((i:Int)+1)=((i+1:Nat):Int):=by rw[aD (by omega) (by omega)];rfl
 have hd:decide ((i:Int)<(M.els.length:Int))=true:=decide_eq_true (by omega)
 have hin:aG (i:Int) M.els.length=true:=by simp only[aG,Bool.and_eq_true,decide_eq_true_eq];omega
 refine aa names (yB M e i (cA iM x.l==e)) ?_
 simp only[uV,Tree.ok,isStr,isInt,aH,isBool,aN,au,aT,aq,aA,aj,Int.toNat_natCast,Bool.and_true,Bool.true_and,gj,hH,hd,hin,w]
 refine⟨fun _=> ?_,fun q=>(by cases q)⟩
 exact⟨(by first | rfl | trivial),(by first | rfl | trivial),kB x.l e (hs x hmem),h1,h2⟩
theorem L2 (M:Mo) (hl:M.els.length≤1000000) (hs : ∀x∈M.els,aU x.l≤100000000000) (e:Int) (o:Out) (h:Am.Good Tryz.prog env (LZ M e 0) o):Am.Good Tryz.prog env (LY M e M.els.length) o:=by
 have hd:decide ((M.els.length:Int)<(M.els.length:Int))=false:=decide_eq_false (by omega)
 refine aa names (yB M e M.els.length true) ?_
 simp only[uV,Tree.ok,hd]
 refine⟨fun q=>(by cases q),fun _=> ?_⟩
 exact h
theorem Hu (M:Mo) (hl:M.aW.length≤1000000) (hs : ∀x∈M.aW,aU x.l≤100000000000) (e:Int) (o:Out) (i:Nat) (x:Da) (hx:M.aW[i]? = some x) (h1:(fun x=>cA iM x.l==e) x=true→Out.ret (sB true) []=o) (h2:(fun x=>cA iM x.l==e) x=false→Am.Good Tryz.prog env (LZ M e (i+1)) o):Am.Good Tryz.prog env (LZ M e i) o:=by
 have hi:i<M.aW.length:=(List.getElem?_eq_some_iff.1 hx).1
 have hmem:=List.mem_of_getElem? hx
 have c:=aM (z:=2) (enc:=aV) (fun _=>rfl) hx
 have gj:(M.aW.flatMap aV).getD (i*2) .bad=pL x.l:=c 0 (by decide)
 have hH:(M.aW.flatMap aV).getD (i*2+0) .bad=pL x.l:=c 0 (by decide)
 have w:IntKind.i64.wrap ((i:Int)+1)=((i+1:Nat):Int):=by rw[aD (by omega) (by omega)];rfl
 have hd:decide ((i:Int)<(M.aW.length:Int))=true:=decide_eq_true (by omega)
 have hin:aG (i:Int) M.aW.length=true:=by simp only[aG,Bool.and_eq_true,decide_eq_true_eq];omega
 refine aa names (yC M e i (cA iM x.l==e)) ?_
 simp only[uW,Tree.ok,isStr,isInt,aH,isBool,aN,au,aT,aq,aA,aj,Int.toNat_natCast,Bool.and_true,Bool.true_and,gj,hH,hd,hin,w]
 refine⟨fun _=> ?_,fun q=>(by cases q)⟩
 exact⟨(by first | rfl | trivial),(by first | rfl | trivial),kB x.l e (hs x hmem),h1,h2⟩
theorem L3 (M:Mo) (hl:M.aW.length≤1000000) (hs : ∀x∈M.aW,aU x.l≤100000000000) (e:Int) (o:Out) (h:Out.ret (sB false) []=o):Am.Good Tryz.prog env (LZ M e M.aW.length) o:=by
 have hd:decide ((M.aW.length:Int)<(M.aW.length:Int))=false:=decide_eq_false (by omega)
 refine aa names (yC M e M.aW.length true) ?_
 simp only[uW,Tree.ok,hd]
 refine⟨fun q=>(by cases q),fun _=> ?_⟩
 exact h
theorem L4 (M:Mo) (hl:M.els.length≤5000) (o:Out) (i:Nat) (x:El) (hx:M.els[i]? = some x) (h1:xZ x=true→Out.ret (sB true) []=o) (h2:xZ x=false→Am.Good Tryz.prog env (Zr M (i+1)) o):Am.Good Tryz.prog env (Zr M i) o:=by
 have hi:i<M.els.length:=(List.getElem?_eq_some_iff.1 hx).1
 have hmem:=List.mem_of_getElem? hx
 have c:=aM (z:=2) (enc:=aJ) (fun _=>rfl) hx
 have gj:(M.els.flatMap aJ).getD (i*2+1) .bad=pT .u32 x.fs:=c 1 (by decide)
 have w:IntKind.i64.wrap ((i:Int)+1)=((i+1:Nat):Int):=by rw[aD (by omega) (by omega)];rfl
 have hd:decide ((i:Int)<(M.els.length:Int))=true:=decide_eq_true (by omega)
 have hin:aG (i:Int) M.els.length=true:=by simp only[aG,Bool.and_eq_true,decide_eq_true_eq];omega
 refine aa names (yD M i true) ?_
 simp only[uX,Tree.ok,isStr,isInt,aH,isBool,aN,au,aT,aq,aA,aj,Int.toNat_natCast,Bool.and_true,Bool.true_and,gj,hd,hin,w]
 refine⟨fun _=> ?_,fun q=>(by cases q)⟩
 have e1:decide ((i:Int)≤16384)=true:=decide_eq_true (by omega)
 simp only[e1]
 refine⟨fun _=>⟨(by first | rfl | trivial),(by first | rfl | trivial),h1,h2⟩,fun q=>(by cases q)⟩
theorem Pr (M:Mo) (hl:M.els.length≤5000) (o:Out) (h:(∀(q : ¬(max (max (max (max (max (max (M.tys.length:Int) M.aI.length) M.fns.length) M.gls.length) M.exs.length) M.els.length) M.aW.length>16384)),aC Tryz.prog env 74 [.agg (M.aE.map .p),sI .i64 141] [] (sB (fC M 141)) [])∧((max (max (max (max (max (max (M.tys.length:Int) M.aI.length) M.fns.length) M.gls.length) M.exs.length) M.els.length) M.aW.length>16384)→Out.ret (sB true) []=o)∧(¬(max (max (max (max (max (max (M.tys.length:Int) M.aI.length) M.fns.length) M.gls.length) M.exs.length) M.els.length) M.aW.length>16384)→Out.ret (sB (fC M 141)) []=o)):Am.Good Tryz.prog env (Zr M M.els.length) o:=by
 have hd:decide ((M.els.length:Int)<(M.els.length:Int))=false:=decide_eq_false (by omega)
 refine aa names (yD M M.els.length (fC M 141)) ?_
 simp only[uX,Tree.ok,hd]
 refine⟨fun q=>(by cases q),fun _=> ?_⟩
 simp only[decide_eq_true_eq,decide_eq_false_iff_not]
 exact⟨fun q=>h.2.1 (by omega),fun q1=>⟨fun q=>h.2.1 (by omega),fun q2=>⟨fun q=>h.2.1 (by omega),fun q3=>⟨fun q=>h.2.1 (by omega),fun q4=>⟨fun q=>h.2.1 (by omega),fun q5=>⟨fun q=>h.2.1 (by omega),fun q6=>⟨fun q=>h.2.1 (by omega),fun q7=>⟨h.1 (by omega),h.2.2 (by omega)⟩⟩⟩⟩⟩⟩⟩⟩
theorem L5 (M:Mo) (l:List ByteArray) (hl:l.length≤10000000) (o:Out) (i:Nat) (x:ByteArray) (hx:l[i]? = some x) (h1:x7 x=true→Out.ret (sB true) []=o) (h2:x7 x=false→Am.Good Tryz.prog env (Zs M l (i+1)) o):Am.Good Tryz.prog env (Zs M l i) o:=by
 have hi:i<l.length:=(List.getElem?_eq_some_iff.1 hx).1
 have hmem:=List.mem_of_getElem? hx
 have c:=aM (z:=1) (enc:=cS) (fun _=>rfl) hx
 have gj:(l.flatMap cS).getD (i*1) .bad = .sc (.string x):=c 0 (by decide)
 have hH:(l.flatMap cS).getD (i*1+0) .bad = .sc (.string x):=c 0 (by decide)
 have w:IntKind.i64.wrap ((i:Int)+1)=((i+1:Nat):Int):=by rw[aD (by omega) (by omega)];rfl
 have hd:decide ((i:Int)<(l.length:Int))=true:=decide_eq_true (by omega)
 have hin:aG (i:Int) l.length=true:=by simp only[aG,Bool.and_eq_true,decide_eq_true_eq];omega
 refine aa names (yE M l.length i (l.flatMap cS)) ?_
 simp only[uY,Tree.ok,isStr,isInt,aH,isBool,aN,au,aT,aq,aA,aj,Int.toNat_natCast,Bool.and_true,Bool.true_and,gj,hH,hd,hin,w]
 refine⟨fun _=> ?_,fun q=>(by cases q)⟩
 exact⟨(by first | rfl | trivial),(by first | rfl | trivial),h1,h2⟩
theorem Pu (M:Mo) (l:List ByteArray) (hl:l.length≤10000000) (o:Out) (h:Am.Good Tryz.prog env (af Tryz.prog env 31 3 [.mp 0 0,sI .i64 0,sI .i64 0] [.pc M.aE] 0 47) o):Am.Good Tryz.prog env (Zs M l l.length) o:=by
 have hd:decide ((l.length:Int)<(l.length:Int))=false:=decide_eq_false (by omega)
 refine aa names (yE M l.length l.length (l.flatMap cS)) ?_
 simp only[uY,Tree.ok,hd]
 refine⟨fun q=>(by cases q),fun _=> ?_⟩
 exact h
theorem Hv (M:Mo) (hl:M.tys.length≤1000000) (o:Out) (i:Nat) (x:Ty) (hx:M.tys[i]? = some x) (h1:rF x=true→Out.ret (sB false) []=o) (h2:rF x=false→Am.Good Tryz.prog env (FR 0 M (i+1)) o):Am.Good Tryz.prog env (FR 0 M i) o:=by
 have hi:i<M.tys.length:=(List.getElem?_eq_some_iff.1 hx).1
 have hmem:=List.mem_of_getElem? hx
 have c:=aM (z:=2) (enc:=aZ) (fun _=>rfl) hx
 have gj:(M.tys.flatMap aZ).getD (i*2) .bad = .sc (.int .i64 x.p):=c 0 (by decide)
 have hH:(M.tys.flatMap aZ).getD (i*2+0) .bad = .sc (.int .i64 x.p):=c 0 (by decide)
 have pH:(M.tys.flatMap aZ).getD (i*2+1) .bad = .sc (.int .i64 x.r):=c 1 (by decide)
 have w:IntKind.i64.wrap ((i:Int)+1)=((i+1:Nat):Int):=by rw[aD (by omega) (by omega)];rfl
 have hd:decide ((i:Int)<(M.tys.length:Int))=true:=decide_eq_true (by omega)
 have hin:aG (i:Int) M.tys.length=true:=by simp only[aG,Bool.and_eq_true,decide_eq_true_eq];omega
 refine aa names (yG M i (Ij x)) ?_
 simp only[va,Tree.ok,isStr,isInt,aH,isBool,aN,au,aT,aq,aA,aj,Int.toNat_natCast,Bool.and_true,Bool.true_and,gj,hH,pH,hd,hin,w]
 refine⟨fun _=> ?_,fun q=>(by cases q)⟩
 exact⟨(by first | rfl | trivial),(by first | rfl | trivial),LW x,h1,h2⟩
theorem L6 (M:Mo) (hl:M.tys.length≤1000000) (o:Out) (h:Am.Good Tryz.prog env (FR 3 M 0) o):Am.Good Tryz.prog env (FR 0 M M.tys.length) o:=by
 have hd:decide ((M.tys.length:Int)<(M.tys.length:Int))=false:=decide_eq_false (by omega)
 refine aa names (yG M M.tys.length 0) ?_
 simp only[va,Tree.ok,hd]
 refine⟨fun q=>(by cases q),fun _=> ?_⟩
 exact h
theorem Hw (M:Mo) (hl:M.aI.length≤1000000) (o:Out) (i:Nat) (x:Im) (hx:M.aI[i]? = some x) (h1:oP x=true→Out.ret (sB false) []=o) (h2:oP x=false→Am.Good Tryz.prog env (FR 3 M (i+1)) o):Am.Good Tryz.prog env (FR 3 M i) o:=by
 have hi:i<M.aI.length:=(List.getElem?_eq_some_iff.1 hx).1
 have hmem:=List.mem_of_getElem? hx
 have c:=aM (z:=3) (enc:=aQ) (fun _=>rfl) hx
 have gj:(M.aI.flatMap aQ).getD (i*3+1+1) .bad = .sc (.int .i64 x.ty):=c 2 (by decide)
 have hH:(M.aI.flatMap aQ).getD (i*3+2) .bad = .sc (.int .i64 x.ty):=c 2 (by decide)
 have w:IntKind.i64.wrap ((i:Int)+1)=((i+1:Nat):Int):=by rw[aD (by omega) (by omega)];rfl
 have hd:decide ((i:Int)<(M.aI.length:Int))=true:=decide_eq_true (by omega)
 have hin:aG (i:Int) M.aI.length=true:=by simp only[aG,Bool.and_eq_true,decide_eq_true_eq];omega
 refine aa names (yH M i 0) ?_
 simp only[vc,Tree.ok,isStr,isInt,aH,isBool,aN,au,aT,aq,aA,aj,Int.toNat_natCast,Bool.and_true,Bool.true_and,gj,hH,hd,hin,w]
 refine⟨fun _=> ?_,fun q=>(by cases q)⟩
 refine⟨(by first | rfl | trivial),(by first | rfl | trivial),fun q=>h1 ?_,fun q=>⟨(by first | rfl | trivial),(by first | rfl | trivial),fun r=>h1 ?_,fun r=>h2 ?_⟩⟩<;>simp only[decide_eq_true_eq,decide_eq_false_iff_not] at * <;> simp[oP]<;>omega
theorem L7 (M:Mo) (hl:M.aI.length≤1000000) (o:Out) (h:Am.Good Tryz.prog env (FR 6 M 0) o):Am.Good Tryz.prog env (FR 3 M M.aI.length) o:=by
 have hd:decide ((M.aI.length:Int)<(M.aI.length:Int))=false:=decide_eq_false (by omega)
 refine aa names (yH M M.aI.length 0) ?_
 simp only[vc,Tree.ok,hd]
 refine⟨fun q=>(by cases q),fun _=> ?_⟩
 exact h
theorem Hx (M:Mo) (hl:M.fns.length≤1000000) (o:Out) (i:Nat) (x:Fu) (hx:M.fns[i]? = some x) (h1:oQ x=true→Out.ret (sB false) []=o) (h2:oQ x=false→Am.Good Tryz.prog env (FR 6 M (i+1)) o):Am.Good Tryz.prog env (FR 6 M i) o:=by
 have hi:i<M.fns.length:=(List.getElem?_eq_some_iff.1 hx).1
 have hmem:=List.mem_of_getElem? hx
 have c:=aM (z:=3) (enc:=aB) (fun _=>rfl) hx
 have gj:(M.fns.flatMap aB).getD (i*3) .bad = .sc (.int .i64 x.ty):=c 0 (by decide)
 have hH:(M.fns.flatMap aB).getD (i*3+0) .bad = .sc (.int .i64 x.ty):=c 0 (by decide)
 have pH:(M.fns.flatMap aB).getD (i*3+1) .bad = .sc (.int .i64 x.lo):=c 1 (by decide)
 have D7:(M.fns.flatMap aB).getD (i*3+1+1) .bad=pL x.l:=c 2 (by decide)
 have D8:(M.fns.flatMap aB).getD (i*3+2) .bad=pL x.l:=c 2 (by decide)
 have w:IntKind.i64.wrap ((i:Int)+1)=((i+1:Nat):Int):=by rw[aD (by omega) (by omega)];rfl
 have hd:decide ((i:Int)<(M.fns.length:Int))=true:=decide_eq_true (by omega)
 have hin:aG (i:Int) M.fns.length=true:=by simp only[aG,Bool.and_eq_true,decide_eq_true_eq];omega
 refine aa names (yI M i 0) ?_
 simp only[ve,Tree.ok,isStr,isInt,aH,isBool,aN,au,aT,aq,aA,aj,Int.toNat_natCast,Bool.and_true,Bool.true_and,gj,hH,pH,D7,D8,hd,hin,w]
 refine⟨fun _=> ?_,fun q=>(by cases q)⟩
 refine⟨(by first | rfl | trivial),(by first | rfl | trivial),fun q=>h1 ?_,fun q=>⟨fun r=>h1 ?_,fun r=>⟨fun s=>h1 ?_,fun s=>⟨fun t=>h1 ?_,fun t=>h2 ?_⟩⟩⟩⟩<;>simp only[decide_eq_true_eq,decide_eq_false_iff_not] at * <;> simp[oQ]<;>omega
theorem L8 (M:Mo) (hl:M.fns.length≤1000000) (o:Out) (h:Out.ret (sB true) []=o):Am.Good Tryz.prog env (FR 6 M M.fns.length) o:=by
 have hd:decide ((M.fns.length:Int)<(M.fns.length:Int))=false:=decide_eq_false (by omega)
 refine aa names (yI M M.fns.length 0) ?_
 simp only[ve,Tree.ok,hd]
 refine⟨fun q=>(by cases q),fun _=> ?_⟩
 exact h
theorem Hy (M:Mo) (l:List ByteArray) (hl:l.length≤10000000) (hb : ∀x∈l,aC Tryz.prog env 77 [.p (.ps x.data.toList.length 1 (x.data.toList.map fc))] [] (sI .i64 (l7 x)) []) (o:Out) (i:Nat) (x:ByteArray) (hx:l[i]? = some x) (h1:uN x=true→Out.ret (sB false) []=o) (h2:uN x=false→Am.Good Tryz.prog env (Zt M l (i+1)) o):Am.Good Tryz.prog env (Zt M l i) o:=by
 have hi:i<l.length:=(List.getElem?_eq_some_iff.1 hx).1
 have hmem:=List.mem_of_getElem? hx
 have c:=aM (z:=1) (enc:=cS) (fun _=>rfl) hx
 have gj:(l.flatMap cS).getD (i*1) .bad = .sc (.string x):=c 0 (by decide)
 have hH:(l.flatMap cS).getD (i*1+0) .bad = .sc (.string x):=c 0 (by decide)
 have w:IntKind.i64.wrap ((i:Int)+1)=((i+1:Nat):Int):=by rw[aD (by omega) (by omega)];rfl
 have hd:decide ((i:Int)<(l.length:Int))=true:=decide_eq_true (by omega)
 have hin:aG (i:Int) l.length=true:=by simp only[aG,Bool.and_eq_true,decide_eq_true_eq];omega
 refine aa names (yJ M l.length i (l.flatMap cS) (l7 x)) ?_
 simp only[vf,Tree.ok,isStr,isInt,aH,isBool,aN,au,aT,aq,aA,aj,Int.toNat_natCast,Bool.and_true,Bool.true_and,gj,hH,hd,hin,w]
 refine⟨fun _=> ?_,fun q=>(by cases q)⟩
 exact⟨(by first | rfl | trivial),(by first | rfl | trivial),aC.W1 (m:=[.tok]) (args:=[.os (some 0) x.data.toList.length 1 (x.data.toList.map fc)]) (hb x hmem) ⟨QM.os (.refl _),trivial⟩,h1,h2⟩
theorem L9 (M:Mo) (l:List ByteArray) (hl:l.length≤10000000) (hb : ∀x∈l,aC Tryz.prog env 77 [.p (.ps x.data.toList.length 1 (x.data.toList.map fc))] [] (sI .i64 (l7 x)) []) (o:Out) (h:Am.Good Tryz.prog env (D6 3 M 0) o):Am.Good Tryz.prog env (Zt M l l.length) o:=by
 have hd:decide ((l.length:Int)<(l.length:Int))=false:=decide_eq_false (by omega)
 refine aa names (yJ M l.length l.length (l.flatMap cS) 0) ?_
 simp only[vf,Tree.ok,hd]
 refine⟨fun q=>(by cases q),fun _=> ?_⟩
 exact h
theorem Hz (M:Mo) (hl:M.bW.length≤1000000) (o:Out) (i:Nat) (x:Li) (hx:M.bW[i]? = some x) (h1:gW 1048576 x=true→Out.ret (sB false) []=o) (h2:gW 1048576 x=false→Am.Good Tryz.prog env (D6 3 M (i+1)) o):Am.Good Tryz.prog env (D6 3 M i) o:=by
 have hi:i<M.bW.length:=(List.getElem?_eq_some_iff.1 hx).1
 have hmem:=List.mem_of_getElem? hx
 have c:=aM (z:=3) (enc:=aF) (fun _=>rfl) hx
 have gj:(M.bW.flatMap aF).getD (i*3) .bad = .sc (.int .u32 x.mn):=c 0 (by decide)
 have hH:(M.bW.flatMap aF).getD (i*3+0) .bad = .sc (.int .u32 x.mn):=c 0 (by decide)
 have pH:(M.bW.flatMap aF).getD (i*3+1) .bad = .sc (.int .u32 x.mx):=c 1 (by decide)
 have D7:(M.bW.flatMap aF).getD (i*3+1+1) .bad = .sc (.bool x.cap):=c 2 (by decide)
 have D8:(M.bW.flatMap aF).getD (i*3+2) .bad = .sc (.bool x.cap):=c 2 (by decide)
 have w:IntKind.i64.wrap ((i:Int)+1)=((i+1:Nat):Int):=by rw[aD (by omega) (by omega)];rfl
 have hd:decide ((i:Int)<(M.bW.length:Int))=true:=decide_eq_true (by omega)
 have hin:aG (i:Int) M.bW.length=true:=by simp only[aG,Bool.and_eq_true,decide_eq_true_eq];omega
 refine aa names (yK M i (OA 1048576 x)) ?_
 simp only[vg,Tree.ok,isStr,isInt,aH,isBool,aN,au,aT,aq,aA,aj,Int.toNat_natCast,Bool.and_true,Bool.true_and,gj,hH,pH,D7,D8,hd,hin,w]
 refine⟨fun _=> ?_,fun q=>(by cases q)⟩
 exact⟨(by first | rfl | trivial),(by first | rfl | trivial),Cn x _,h1,h2⟩
theorem Ma (M:Mo) (hl:M.bW.length≤1000000) (o:Out) (h:Am.Good Tryz.prog env (D6 6 M 0) o):Am.Good Tryz.prog env (D6 3 M M.bW.length) o:=by
 have hd:decide ((M.bW.length:Int)<(M.bW.length:Int))=false:=decide_eq_false (by omega)
 refine aa names (yK M M.bW.length 0) ?_
 simp only[vg,Tree.ok,hd]
 refine⟨fun q=>(by cases q),fun _=> ?_⟩
 exact h
theorem HA (M:Mo) (hl:M.bX.length≤1000000) (o:Out) (i:Nat) (x:Li) (hx:M.bX[i]? = some x) (h1:gW 65536 x=true→Out.ret (sB false) []=o) (h2:gW 65536 x=false→Am.Good Tryz.prog env (D6 6 M (i+1)) o):Am.Good Tryz.prog env (D6 6 M i) o:=by
 have hi:i<M.bX.length:=(List.getElem?_eq_some_iff.1 hx).1
 have hmem:=List.mem_of_getElem? hx
 have c:=aM (z:=3) (enc:=aF) (fun _=>rfl) hx
 have gj:(M.bX.flatMap aF).getD (i*3) .bad = .sc (.int .u32 x.mn):=c 0 (by decide)
 have hH:(M.bX.flatMap aF).getD (i*3+0) .bad = .sc (.int .u32 x.mn):=c 0 (by decide)
 have pH:(M.bX.flatMap aF).getD (i*3+1) .bad = .sc (.int .u32 x.mx):=c 1 (by decide)
 have D7:(M.bX.flatMap aF).getD (i*3+1+1) .bad = .sc (.bool x.cap):=c 2 (by decide)
 have D8:(M.bX.flatMap aF).getD (i*3+2) .bad = .sc (.bool x.cap):=c 2 (by decide)
 have w:IntKind.i64.wrap ((i:Int)+1)=((i+1:Nat):Int):=by rw[aD (by omega) (by omega)];rfl
 have hd:decide ((i:Int)<(M.bX.length:Int))=true:=decide_eq_true (by omega)
 have hin:aG (i:Int) M.bX.length=true:=by simp only[aG,Bool.and_eq_true,decide_eq_true_eq];omega
 refine aa names (yL M i (OA 65536 x)) ?_
 simp only[vh,Tree.ok,isStr,isInt,aH,isBool,aN,au,aT,aq,aA,aj,Int.toNat_natCast,Bool.and_true,Bool.true_and,gj,hH,pH,D7,D8,hd,hin,w]
 refine⟨fun _=> ?_,fun q=>(by cases q)⟩
 exact⟨(by first | rfl | trivial),(by first | rfl | trivial),Cn x _,h1,h2⟩
theorem Mb (M:Mo) (hl:M.bX.length≤1000000) (o:Out) (h:Am.Good Tryz.prog env (D6 9 M 0) o):Am.Good Tryz.prog env (D6 6 M M.bX.length) o:=by
 have hd:decide ((M.bX.length:Int)<(M.bX.length:Int))=false:=decide_eq_false (by omega)
 refine aa names (yL M M.bX.length 0) ?_
 simp only[vh,Tree.ok,hd]
 refine⟨fun q=>(by cases q),fun _=> ?_⟩
 exact h
theorem HB (M:Mo) (hl:M.exs.length≤1000000) (hi:aC Tryz.prog env 74 [.agg (M.aE.map .p),sI .i64 2] [] (sB (fC M 2)) []) (o:Out) (i:Nat) (x:Ex) (hx:M.exs[i]? = some x) (h1:oS x=true→Out.ret (sB false) []=o) (h2:oS x=false→Am.Good Tryz.prog env (D6 9 M (i+1)) o):Am.Good Tryz.prog env (D6 9 M i) o:=by
 have hi:i<M.exs.length:=(List.getElem?_eq_some_iff.1 hx).1
 have hmem:=List.mem_of_getElem? hx
 have c:=aM (z:=3) (enc:=aP) (fun _=>rfl) hx
 have gj:(M.exs.flatMap aP).getD (i*3+1) .bad = .sc (.int .i64 x.kind):=c 1 (by decide)
 have w:IntKind.i64.wrap ((i:Int)+1)=((i+1:Nat):Int):=by rw[aD (by omega) (by omega)];rfl
 have hd:decide ((i:Int)<(M.exs.length:Int))=true:=decide_eq_true (by omega)
 have hin:aG (i:Int) M.exs.length=true:=by simp only[aG,Bool.and_eq_true,decide_eq_true_eq];omega
 refine aa names (yM M i true) ?_
 simp only[vi,Tree.ok,isStr,isInt,aH,isBool,aN,au,aT,aq,aA,aj,Int.toNat_natCast,Bool.and_true,Bool.true_and,gj,hd,hin,w]
 refine⟨fun _=> ?_,fun q=>(by cases q)⟩
 refine⟨(by first | rfl | trivial),(by first | rfl | trivial),fun q=>h1 ?_,fun q=>⟨(by first | rfl | trivial),(by first | rfl | trivial),fun r=>h1 ?_,fun r=>h2 ?_⟩⟩<;>simp only[decide_eq_true_eq,decide_eq_false_iff_not] at * <;> simp[oS]<;>omega
theorem Mc (M:Mo) (hl:M.exs.length≤1000000) (hi:aC Tryz.prog env 74 [.agg (M.aE.map .p),sI .i64 2] [] (sB (fC M 2)) []) (o:Out) (h:Out.ret (sB ((M.st||M.sn==0) && !fC M 2)) []=o):Am.Good Tryz.prog env (D6 9 M M.exs.length) o:=by
 have hd:decide ((M.exs.length:Int)<(M.exs.length:Int))=false:=decide_eq_false (by omega)
 refine aa names (yM M M.exs.length (fC M 2)) ?_
 simp only[vi,Tree.ok,hd]
 refine⟨fun q=>(by cases q),fun _=> ?_⟩
 refine⟨fun q=>⟨hi,?_⟩,fun q=>⟨fun r=>⟨hi,?_⟩,fun r=> ?_⟩⟩
 · rw[q,Bool.true_or,Bool.true_and] at h;exact h
 · rw[q,r,Bool.false_or,Bool.true_and] at h;exact h
 · rw[q,r,Bool.false_or,Bool.false_and] at h;exact h
theorem Pv {α β:Type} (f:α→β) (p:β→Bool) (l:List α):(l.map f).any p=l.any fun x=>p (f x):=by rw[List.any_map];rfl
theorem Pw (M:Mo) (e:Int):fC M e=(M.fns.any (fun x=>cA iM x.l==e)||M.gls.any (fun x=>cA iM x.l==e)||M.els.any (fun x=>cA iM x.l==e)||M.aW.any (fun x=>cA iM x.l==e)):=by
 simp only[fC,nH,List.any_append,Pv]
theorem FT {M:Mo} (hs:M.qk):(∀x∈M.fns,aU x.l≤100000000000)∧(∀x∈M.gls,aU x.l≤100000000000)∧(∀x∈M.els,aU x.l≤100000000000)∧(∀x∈M.aW,aU x.l≤100000000000):=by
 refine⟨fun x hx=>hs _ ?_,fun x hx=>hs _ ?_,fun x hx=>hs _ ?_,fun x hx=>hs _ ?_⟩<;>simp only[nH,List.mem_append,List.mem_map]
 · exact .inl (.inl (.inl ⟨x,hx,rfl⟩))
 · exact .inl (.inl (.inr ⟨x,hx,rfl⟩))
 · exact .inl (.inr ⟨x,hx,rfl⟩)
 · exact .inr ⟨x,hx,rfl⟩
theorem oW (M:Mo) (hM:M.fit) (hs:M.qk) (e:Int):aC Tryz.prog env 74 [.agg (M.aE.map .p),sI .i64 e] [] (sB (fC M e)) []:=by
 obtain⟨s1,s2,s3,s4⟩:=FT hs
 refine ah names (LM M e) ?_
 rw[Pw]
 refine gi (D:=Pq M e) (fun i x=>Hr M hM.fns s1 e _ i x) (L0 M hM.fns s1 e _) (fun q=>by rw[q];rfl) fun q1=> ?_
 refine gi (D:=LX M e) (fun i x=>Hs M hM.gls s2 e _ i x) (L1 M hM.gls s2 e _) (fun q=>by rw[q,Bool.or_true];rfl) fun q2=> ?_
 refine gi (D:=LY M e) (fun i x=>Ht M hM.els s3 e _ i x) (L2 M hM.els s3 e _) (fun q=>by rw[q,Bool.or_true];rfl) fun q3=> ?_
 refine gi (D:=LZ M e) (fun i x=>Hu M hM.aW s4 e _ i x) (L3 M hM.aW s4 e _) (fun q=>by rw[q,Bool.or_true]) fun q4=> ?_
 rw[q1,q2,q3,q4];rfl
noncomputable def Ik (t:Nat) (M:Mo) (a:List PV) (i:Nat):bJ:=
 if a=[] then af Tryz.prog env 75 t [.mp 0 0,.os none 0 0 [],sI .i64 i] [.pc M.aE] 0 45
 else af Tryz.prog env 75 t [.mp 0 0,.os (some 1) a.length 1 a,sI .i64 i] [.pc M.aE,.tok] 0 45
theorem HC (M:Mo) (hl:M.aI.length≤1000000) (o:Out) (a:List PV) (i:Nat) (x:Im) (hx:M.aI[i]? = some x) (hB:(a++GL x).length≤10000000) (h:Am.Good Tryz.prog env (Ik 0 M (a++GL x) (i+1)) o):Am.Good Tryz.prog env (Ik 0 M a i) o:=by
 have hi:i<M.aI.length:=(List.getElem?_eq_some_iff.1 hx).1
 have c:=aM (z:=3) (enc:=aQ) (fun _=>rfl) hx
 have c0:(M.aI.flatMap aQ).getD (i*3+0) .bad = .sc (.string x.mo):=c 0 (by decide)
 have c1:(M.aI.flatMap aQ).getD (i*3+1) .bad = .sc (.string x.nm):=c 1 (by decide)
 have hL:=An
 have w:IntKind.i64.wrap ((i:Int)+1)=((i+1:Nat):Int):=by rw[aD (by omega) (by omega)];rfl
 have hd:decide ((i:Int)<(M.aI.length:Int))=true:=decide_eq_true (by omega)
 have hin:aG (i:Int) M.aI.length=true:=by simp only[aG,Bool.and_eq_true,decide_eq_true_eq];omega
 unfold Ik at h ⊢
 by_cases e:a=[]
 · subst e
   rw[if_neg (by simp[GL]),List.nil_append] at h
   rw[if_pos rfl]
   refine aa names (yu M 0 i []) ?_
   simp only[uP,Tree.ok,isStr,aN,Int.toNat_natCast,c0,c1,hd,hin,w,Bool.and_true,Bool.true_and]
   exact⟨fun _=>⟨(by first | rfl | trivial),h⟩,fun q=>(by cases q)⟩
 · rw[if_neg (by simp[e])] at h
   rw[if_neg e]
   refine aa names (yw M a.length i a) ?_
   rw[List.length_append] at h hB
   have hB:a.length+2≤10000000:=hB
   simp only[uQ,Tree.ok,isStr,aN,Int.toNat_natCast,c0,c1,hd,hin,w,Bool.and_true,Bool.true_and]
   exact⟨fun _=>⟨(by simp only[Bool.and_eq_true,Nat.ble_eq];omega),h⟩,fun q=>(by cases q)⟩
theorem Md (M:Mo) (o:Out) (a:List PV) (h:Am.Good Tryz.prog env (Ik 2 M a 0) o):Am.Good Tryz.prog env (Ik 0 M a M.aI.length) o:=by
 have hd:decide ((M.aI.length:Int)<(M.aI.length:Int))=false:=decide_eq_false (by omega)
 unfold Ik at h ⊢
 by_cases e:a=[]
 · subst e
   rw[if_pos rfl] at h ⊢
   refine aa names (yu M 0 M.aI.length []) ?_
   simp only[uP,Tree.ok,hd]
   exact⟨fun q=>(by cases q),fun _=>h⟩
 · rw[if_neg e] at h ⊢
   refine aa names (yw M a.length M.aI.length a) ?_
   simp only[uQ,Tree.ok,hd]
   exact⟨fun q=>(by cases q),fun _=>h⟩
theorem HD (M:Mo) (hl:M.exs.length≤1000000) (o:Out) (a:List PV) (i:Nat) (x:Ex) (hx:M.exs[i]? = some x) (hB:(a++Nh x).length≤10000000) (h:Am.Good Tryz.prog env (Ik 2 M (a++Nh x) (i+1)) o):Am.Good Tryz.prog env (Ik 2 M a i) o:=by
 have hi:i<M.exs.length:=(List.getElem?_eq_some_iff.1 hx).1
 have c:=aM (z:=3) (enc:=aP) (fun _=>rfl) hx
 have c0:(M.exs.flatMap aP).getD (i*3+0) .bad = .sc (.string x.nm):=c 0 (by decide)
 have hL:=An
 have w:IntKind.i64.wrap ((i:Int)+1)=((i+1:Nat):Int):=by rw[aD (by omega) (by omega)];rfl
 have hd:decide ((i:Int)<(M.exs.length:Int))=true:=decide_eq_true (by omega)
 have hin:aG (i:Int) M.exs.length=true:=by simp only[aG,Bool.and_eq_true,decide_eq_true_eq];omega
 unfold Ik at h ⊢
 by_cases e:a=[]
 · subst e
   rw[if_neg (by simp[Nh]),List.nil_append] at h
   rw[if_pos rfl]
   refine aa names (yx M 0 i []) ?_
   simp only[uR,Tree.ok,isStr,aN,Int.toNat_natCast,c0,hd,hin,w,Bool.and_true,Bool.true_and]
   exact⟨fun _=>⟨(by first | rfl | trivial),(by first | rfl | trivial),h⟩,fun q=>(by cases q)⟩
 · rw[if_neg (by simp[e])] at h
   rw[if_neg e]
   refine aa names (yy M a.length i a) ?_
   rw[List.length_append] at h hB
   have hB:a.length+1≤10000000:=hB
   simp only[uS,Tree.ok,isStr,aN,Int.toNat_natCast,c0,hd,hin,w,Bool.and_true,Bool.true_and]
   exact⟨fun _=>⟨(by first | rfl | trivial),(by first | rfl | trivial),(by simp only[Bool.and_eq_true,Nat.ble_eq];omega),h⟩,fun q=>(by cases q)⟩
theorem Me (M:Mo) (o:Out) (a:List PV) (h:DN a=o):Am.Good Tryz.prog env (Ik 2 M a M.exs.length) o:=by
 have hd:decide ((M.exs.length:Int)<(M.exs.length:Int))=false:=decide_eq_false (by omega)
 unfold DN at h
 unfold Ik
 by_cases e:a=[]
 · subst e
   rw[if_pos rfl] at h ⊢
   refine aa names (yx M 0 M.exs.length []) ?_
   simp only[uR,Tree.ok,hd]
   exact⟨fun q=>(by cases q),fun _=>h⟩
 · rw[if_neg e] at h ⊢
   refine aa names (yy M a.length M.exs.length a) ?_
   simp only[uS,Tree.ok,hd]
   exact⟨fun q=>(by cases q),fun _=>h⟩
theorem qZ (M:Mo) (hM:M.fit):aC Tryz.prog env 75 [.agg (M.aE.map .p)] [] (.p (.ps (kO M).length 1 ((kO M).flatMap cS))) []:=by
 have h1:=hM.aI
 have h2:=hM.exs
 have l1:=dY (f:=GL) (n:=2) (fun _=>rfl) M.aI
 have l2:=dY (f:=Nh) (n:=1) (fun _=>rfl) M.exs
 rw[←AA,←Az]
 refine qi fun v m' e=> ?_
 refine ah names (LL M) ?_
 have k2:=jh (B:=10000000) (HD M h2 (.ret v m')) (Me M _) M.exs.length 0 (M.aI.flatMap GL) (by omega) (by simp only[List.drop_zero,List.length_append];omega) e
 have k1:=jh (B:=10000000) (HC M h1 (.ret v m')) (Md M _) M.aI.length 0 [] (by omega) (by simp only[List.drop_zero,List.length_append,List.length_nil];omega) k2
 unfold Ik at k1
 rw[if_pos rfl] at k1
 exact k1
theorem D9 (M:Mo) (hM:M.fit) (hs:M.qk) (h5:M.els.length≤5000):aC Tryz.prog env 30 [.agg (M.aE.map .p)] [] (sB (eT M||fC M 141)) []:=by
 have hi:=oW M hM hs 141
 refine ah names (LO M) ?_
 simp only[FL,Tree.ok,decide_eq_true_eq,decide_eq_false_iff_not]
 refine⟨fun q=> ?_,fun q1=>⟨fun q=> ?_,fun q2=> ?_⟩⟩
 · rw[show eT M=true by simp only[eT,Bool.or_eq_true,decide_eq_true_eq];omega,Bool.true_or]
 · rw[show eT M=true by simp only[eT,Bool.or_eq_true,decide_eq_true_eq];omega,Bool.true_or]
 · refine gi (D:=Zr M) (fun i x=>L4 M h5 _ i x) (Pr M h5 _) (fun q=> ?_) fun q3=>⟨fun _=>hi,fun q=> ?_,fun q=> ?_⟩
   · rw[show eT M=true by simp[eT,q],Bool.true_or]
   · rw[show eT M=true by simp only[eT,Bool.or_eq_true,decide_eq_true_eq];omega,Bool.true_or]
   · rw[show eT M=false by simp only[eT,q3,Bool.or_false,Bool.or_eq_false_iff,decide_eq_false_iff_not];omega,Bool.false_or]
def kI:Int→List Da→Bool
 |_,[]=>false
 |s,x::r=>decide ((x.bs.length:Int)>1048576-s)||kI (s+x.bs.length) r
theorem Co : ∀(l:List Da),lZ (-1) l<0
 |[]=>by decide
 |x::r=>by
  have e:(-1:Int)-min (x.bs.length:Int) (-1+1) = -1:=by omega
  simp only[lZ,e]
  exact Co r
theorem yN : ∀(l:List Da) (s:Int),0≤s→s≤1048576→(kI s l=true↔lZ (1048576-s) l<0)
 |[],s,h0,h1=>by simp[kI,lZ];omega
 |x::r,s,h0,h1=>by
  simp only[kI,lZ,Bool.or_eq_true,decide_eq_true_eq]
  by_cases h:(x.bs.length:Int)>1048576-s
  · have e:(1048576-s)-min (x.bs.length:Int) (1048576-s+1) = -1:=by omega
    rw[e]
    exact⟨fun _=>Co r,fun _=> .inl h⟩
  · have e:(1048576-s)-min (x.bs.length:Int) (1048576-s+1)=1048576-(s+x.bs.length):=by omega
    rw[e,←yN r (s+x.bs.length) (by omega) (by omega)]
    exact⟨fun q=>q.resolve_left h,.inr⟩
theorem Px (M:Mo) (hl:M.aW.length≤1000000) : ∀(r i:Nat) (s:Int),i+r=M.aW.length→0≤s→s≤1048576→Am.Good Tryz.prog env (rlD M s i) (.ret (sB (kI s (M.aW.drop i))) []):=by
 intro r
 induction r with
 |zero=>
  intro i s hi h0 h1
  obtain rfl:i=M.aW.length:=by omega
  have hd:decide ((M.aW.length:Int)<(M.aW.length:Int))=false:=decide_eq_false (by omega)
  refine aa names (yF M M.aW.length s) ?_
  simp only[uZ,Tree.ok,hd,List.drop_length,kI]
  exact⟨fun q=>(by cases q),fun _=>trivial⟩
 |succ r ih=>
  intro i s hi h0 h1
  have nX:i<M.aW.length:=by omega
  have hx:=List.getElem?_eq_getElem nX
  rw[List.drop_eq_getElem_cons nX]
  generalize M.aW[i]=x at *
  have c:=aM (z:=2) (enc:=aV) (fun _=>rfl) hx
  have c1:(M.aW.flatMap aV).getD (i*2+1) .bad=pT .u8 x.bs:=c 1 (by decide)
  have w:IntKind.i64.wrap ((i:Int)+1)=((i+1:Nat):Int):=by rw[aD (by omega) (by omega)];rfl
  have w1:IntKind.i64.wrap (1048576-s)=1048576-s:=aD (by omega) (by omega)
  have hd:decide ((i:Int)<(M.aW.length:Int))=true:=decide_eq_true (by omega)
  have hin:aG (i:Int) M.aW.length=true:=by simp only[aG,Bool.and_eq_true,decide_eq_true_eq];omega
  refine aa names (yF M i s) ?_
  simp only[uZ,Tree.ok,aH,aq,Int.toNat_natCast,c1,hd,hin,w,w1,Bool.and_true,Bool.true_and,kI,decide_eq_true_eq,decide_eq_false_iff_not]
  refine⟨fun _=>⟨trivial,trivial,fun q=> ?_,fun q=>⟨trivial,trivial,?_⟩⟩,fun q=>(by cases q)⟩
  · rw[decide_eq_true q,Bool.true_or]
  · rw[decide_eq_false q,Bool.false_or,aD (n:=s+(x.bs.length:Int)) (by omega) (by omega)]
    exact ih (i+1) _ (by omega) (by omega) (by omega)
theorem Ea (M:Mo) (hM:M.fit):aC Tryz.prog env 31 [.agg (M.aE.map .p)] [] (sB (eH M||kI 0 M.aW)) []:=by
 refine ah names (LP M (kO M).length ((kO M).flatMap cS)) ?_
 simp only[FM,Tree.ok]
 refine⟨qZ M hM,?_⟩
 refine gi (l:=kO M) (D:=Zs M (kO M)) (fun i x=>L5 M (kO M) (qj hM) _ i x) (Pu M (kO M) (qj hM) _) (fun q=>by rw[eH,q,Bool.true_or]) fun q=> ?_
 rw[eH,q,Bool.false_or]
 exact Px M hM.aW M.aW.length 0 0 (by omega) (by omega) (by omega)
theorem wH (M:Mo) (hM:M.fit):aC Tryz.prog env 32 [.agg (M.aE.map .p)] [] (sB (!(M.tys.any rF||M.aI.any oP||M.fns.any oQ))) []:=by
 refine ah names (LQ M) ?_
 refine gi (D:=FR 0 M) (fun i x=>Hv M hM.tys _ i x) (L6 M hM.tys _) (fun q=>by rw[q];rfl) fun q1=> ?_
 refine gi (D:=FR 3 M) (fun i x=>Hw M hM.aI _ i x) (L7 M hM.aI _) (fun q=>by rw[q,Bool.or_true];rfl) fun q2=> ?_
 refine gi (D:=FR 6 M) (fun i x=>Hx M hM.fns _ i x) (L8 M hM.fns _) (fun q=>by rw[q,Bool.or_true];rfl) fun q3=> ?_
 rw[q1,q2,q3];rfl
def AI (M:Mo):Prop:= ∀x∈kO M,aC Tryz.prog env 77 [.p (.ps x.data.toList.length 1 (x.data.toList.map fc))] [] (sI .i64 (l7 x)) []
theorem Eb (M:Mo) (hM:M.fit) (hs:M.qk) (ht:AI M):aC Tryz.prog env 33 [.agg (M.aE.map .p)] [] (sB (!((kO M).any uN||M.bW.any (gW 1048576)||M.bX.any (gW 65536)||M.exs.any oS)&&((M.st||M.sn==0) && !fC M 2))) []:=by
 have hi:=oW M hM hs 2
 refine ah names (LR M (kO M).length ((kO M).flatMap cS)) ?_
 simp only[FN,Tree.ok]
 refine⟨qZ M hM,?_⟩
 refine gi (l:=kO M) (D:=Zt M (kO M)) (fun i x=>Hy M (kO M) (qj hM) ht _ i x) (L9 M (kO M) (qj hM) ht _) (fun q=>by rw[q];rfl) fun q1=> ?_
 refine gi (D:=D6 3 M) (fun i x=>Hz M hM.bW _ i x) (Ma M hM.bW _) (fun q=>by rw[q,Bool.or_true];rfl) fun q2=> ?_
 refine gi (D:=D6 6 M) (fun i x=>HA M hM.bX _ i x) (Mb M hM.bX _) (fun q=>by rw[q,Bool.or_true];rfl) fun q3=> ?_
 refine gi (D:=D6 9 M) (fun i x=>HB M hM.exs hi _ i x) (Mc M hM.exs hi _) (fun q=>by rw[q,Bool.or_true];rfl) fun q4=> ?_
 rw[q1,q2,q3,q4];rfl
theorem Ec (M:Mo) (hM:M.fit) (hs:M.qk) (h5:M.els.length≤5000) (ht:eH M=false→AI M):aC Tryz.prog env 13 [.agg (M.aE.map .p)] [] (sI .i64 (yj M)) []:=by
 have hov:=yN M.aW 0 (by decide) (by decide)
 refine ah names (LV M (eT M||fC M 141) (eH M||kI 0 M.aW) (!(M.tys.any rF||M.aI.any oP||M.fns.any oQ)) (!((kO M).any uN||M.bW.any (gW 1048576)||M.bX.any (gW 65536)||M.exs.any oS)&&((M.st||M.sn==0) && !fC M 2))) ?_
 simp only[FQ,Tree.ok]
 have hm:yj M=if(eT M||fC M 141)=true then 141 else if(eH M||kI 0 M.aW)=true then 3 else if(uO M||fC M 2)=true then 2 else 0:=by
  have ho:(lZ 1048576 M.aW<0∨eH M=true)↔(eH M||kI 0 M.aW)=true:=by
   rw[Bool.or_eq_true,hov]
   exact⟨fun h=>h.elim .inr .inl,fun h=>h.elim .inr .inl⟩
  unfold yj x8 Cb Cg
  simp only[ho]
  cases eT M<;>cases fC M 141<;>cases(eH M||kI 0 M.aW)<;>cases uO M<;>cases fC M 2<;>rfl
 have hr:(uO M||fC M 2) = !((!(M.tys.any rF||M.aI.any oP||M.fns.any oQ))&&(!((kO M).any uN||M.bW.any (gW 1048576)||M.bX.any (gW 65536)||M.exs.any oS)&&((M.st||M.sn==0) && !fC M 2))):=by
  unfold uO
  have hz:(M.sn != 0) = !(M.sn==0):=rfl
  rw[hz]
  cases M.tys.any rF<;>cases M.aI.any oP<;>cases M.fns.any oQ<;>cases(kO M).any uN<;>cases M.bW.any (gW 1048576)<;>cases M.bX.any (gW 65536)<;>cases M.exs.any oS<;>cases M.st<;>cases(M.sn==0)<;>cases fC M 2<;>rfl
 rw[hm,hr]
 refine⟨D9 M hM hs h5,fun q=> ?_,fun q1=>⟨Ea M hM,fun q=> ?_,fun q2=>⟨wH M hM,fun q=> ?_,fun q3=>⟨Eb M hM hs (ht (by rw[Bool.or_eq_false_iff] at q2;exact q2.1)),fun q=> ?_,fun q4=> ?_⟩⟩⟩⟩
 · rw[if_pos q]
 · rw[if_neg (by rw[q1];decide),if_pos q]
 · rw[if_neg (by rw[q1];decide),if_neg (by rw[q2];decide),if_pos (by rw[Bool.not_eq_true'] at q;rw[q];rfl)]
 · rw[if_neg (by rw[q1];decide),if_neg (by rw[q2];decide),if_pos (by rw[Bool.not_eq_true'] at q;rw[q,Bool.and_false];rfl)]
 · rw[if_neg (by rw[q1];decide),if_neg (by rw[q2];decide),if_neg (by rw[Bool.not_eq_false'] at q3 q4;rw[q3,q4];decide)]
end Go.Proofs.YtdmmllcjgjmbbaaGreatDoor.N
end
