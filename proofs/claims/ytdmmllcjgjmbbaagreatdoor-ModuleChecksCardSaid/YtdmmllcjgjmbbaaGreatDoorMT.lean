/-
gimletkit.CopyWasm: what is told is the same module.
-/
import Derived.Test.YtdmmllcjgjmbbaaGreatDoorMS
section
set_option linter.unusedSimpArgs false
set_option linter.unusedVariables false
namespace Go.Proofs.YtdmmllcjgjmbbaaGreatDoor.N
open Go Go.Am
def zsO:List AV:=[.os none 0 0 [],.os none 0 0 [],.os none 0 0 [],.os none 0 0 [],.os none 0 0 [],.os none 0 0 [],.os none 0 0 [],sB false,sI .u32 0,.os none 0 0 [],.os none 0 0 []]
noncomputable def CU (M:Mo) (f g e d:AV):List AV:=[.p (.ps M.tys.length 2 (M.tys.flatMap aZ)),.p (.ps M.aI.length 3 (M.aI.flatMap aQ)),f,.p (.ps M.bW.length 3 (M.bW.flatMap aF)),.p (.ps M.bX.length 3 (M.bX.flatMap aF)),g,.p (.ps M.exs.length 3 (M.exs.flatMap aP)),sB M.st,sI .u32 M.sn,e,d]
noncomputable def CV (M:Mo) (f g e d:AV):Mem:=[.pc M.aE,.ac zsO,.ac (CU M f g e d)]
def cwC (M:Mo) (a i:Nat) (cs:List PV) (l:List Ins) (f:FuncId) (_:List AV) (m:Mem):Option (AV×Mem):=cond (Nat.beq f 24) (some (.p (pL l),m)) none
def V7 (M:Mo) (a i:Nat) (cs:List PV) (l:List Ins) (k:Nat) (f:FuncId) (_:List AV) (m:Mem):Option (AV×Mem):=cond (Nat.beq f 24) (some (.p (pL l),m)) none
noncomputable def Va:bu:=aK av az [(7,0)] [] [(7,3,3),(7,4,3),(7,5,3),(7,6,3),(7,7,3)]
def YO:Sc:= .fin
noncomputable def F1 (M:Mo):Tree:=
 (.must (((0+M.tys.length)*16).ble dh&&(0+M.tys.length).ble dh&&true)
 (.must (((0+M.aI.length)*40).ble dh&&(0+M.aI.length).ble dh&&true)
 (.must (((0+M.bW.length)*12).ble dh&&(0+M.bW.length).ble dh&&true)
 (.must (((0+M.bX.length)*12).ble dh&&(0+M.bX.length).ble dh&&true)
 (.must (((0+M.exs.length)*32).ble dh&&(0+M.exs.length).ble dh&&true)
 (.at (af Tryz.prog env 7 0 [.mp 0 0,.mp 1 0,.mp 2 0,sI .i64 0] ([.pc M.aE,.ac [.os none 0 0 [],.os none 0 0 [],.os none 0 0 [],.os none 0 0 [],.os none 0 0 [],.os none 0 0 [],.os none 0 0 [],sB false,sI .u32 0,.os none 0 0 [],.os none 0 0 []],.ac [.os (some 3) (0+M.tys.length) 2 ([]++List.flatMap aZ M.tys),.os (some 4) (0+M.aI.length) 3 ([]++List.flatMap aQ M.aI),.os none 0 0 [],.os (some 5) (0+M.bW.length) 3 ([]++List.flatMap aF M.bW),.os (some 6) (0+M.bX.length) 3 ([]++List.flatMap aF M.bX),.os none 0 0 [],.os (some 7) (0+M.exs.length) 3 ([]++List.flatMap aP M.exs),.p (.sc (.bool M.st)),sI .u32 M.sn,.os none 0 0 [],.os none 0 0 []],.tok,.tok,.tok,.tok,.tok]) 0 146)))))))
theorem Mz (M:Mo):aR Tryz.prog env Va 1000000 7 ([AV.agg (List.map AV.p M.aE)]) ([]) YO=F1 M:=by kernel_rfl
noncomputable def Vb (M:Mo) (a:Nat) (i:Nat) (cs:List PV) (l:List Ins):bu:=aK (cwC M a i cs l) az [(7,0),(7,2)] [(7,0,1)] [(7,15,3),(7,15,4)]
def YP:Sc:= .fin
noncomputable def AN (M:Mo) (a:Nat) (i:Nat) (cs:List PV) (l:List Ins):Tree:=
 (.test (decide ((↑i:Int)<(↑M.fns.length:Int)))
 (.must (aG (↑i:Int) M.fns.length&&true&&true)
 (.must (isInt IntKind.i64 ((List.flatMap aB M.fns).getD ((↑i:Int).toNat*3) PV.bad)&&(isInt IntKind.i64 ((List.flatMap aB M.fns).getD ((↑i:Int).toNat*3+1) PV.bad)&&(aH ((List.flatMap aB M.fns).getD ((↑i:Int).toNat*3+1+1) PV.bad)&&true))&&true)
 (.call ⟨24,[.p (.ps (aq ((List.flatMap aB M.fns).getD ((↑i:Int).toNat*3+1+1) PV.bad)) (aA ((List.flatMap aB M.fns).getD ((↑i:Int).toNat*3+1+1) PV.bad)) (aj ((List.flatMap aB M.fns).getD ((↑i:Int).toNat*3+1+1) PV.bad)))],[],.p (.ps l.length 8 (ak l)),[]⟩
 (.at (af Tryz.prog env 7 0 [.mp 0 0,.mp 1 0,.mp 2 0,sI .i64 (IntKind.i64.wrap ((↑i:Int)+1))] ([.pc M.aE,.ac [.os none 0 0 [],.os none 0 0 [],.os none 0 0 [],.os none 0 0 [],.os none 0 0 [],.os none 0 0 [],.os none 0 0 [],sB false,sI .u32 0,.os none 0 0 [],.os none 0 0 []],.ac [.p (.ps M.tys.length 2 (List.flatMap aZ M.tys)),.p (.ps M.aI.length 3 (List.flatMap aQ M.aI)),.os (some 3) 1 3 [sP (au ((List.flatMap aB M.fns).getD ((↑i:Int).toNat*3) PV.bad)),sP (au ((List.flatMap aB M.fns).getD ((↑i:Int).toNat*3+1) PV.bad)),.ps l.length 8 (ak l)],.p (.ps M.bW.length 3 (List.flatMap aF M.bW)),.p (.ps M.bX.length 3 (List.flatMap aF M.bX)),.os none 0 0 [],.p (.ps M.exs.length 3 (List.flatMap aP M.exs)),.p (.sc (.bool M.st)),sI .u32 M.sn,.os none 0 0 [],.os none 0 0 []],.tok]) 0 146)))))
 (.at (af Tryz.prog env 7 2 [.mp 0 0,.mp 1 0,.mp 2 0,sI .i64 0] ([.pc M.aE,.ac [.os none 0 0 [],.os none 0 0 [],.os none 0 0 [],.os none 0 0 [],.os none 0 0 [],.os none 0 0 [],.os none 0 0 [],sB false,sI .u32 0,.os none 0 0 [],.os none 0 0 []],.ac [.p (.ps M.tys.length 2 (List.flatMap aZ M.tys)),.p (.ps M.aI.length 3 (List.flatMap aQ M.aI)),.os none 0 0 [],.p (.ps M.bW.length 3 (List.flatMap aF M.bW)),.p (.ps M.bX.length 3 (List.flatMap aF M.bX)),.os none 0 0 [],.p (.ps M.exs.length 3 (List.flatMap aP M.exs)),.p (.sc (.bool M.st)),sI .u32 M.sn,.os none 0 0 [],.os none 0 0 []]]) 0 146)))
theorem Cy (M:Mo) (a:Nat) (i:Nat) (cs:List PV) (l:List Ins):grow Tryz.prog env (Vb M a i cs l) 1000000 true (af Tryz.prog env 7 0 ([AV.mp 0 0,AV.mp 1 0,AV.mp 2 0,sI IntKind.i64 (↑i:Int)]) (CV M (AV.os Option.none 0 0 []) (AV.os Option.none 0 0 []) (AV.os Option.none 0 0 []) (AV.os Option.none 0 0 [])) 0 146) YP atEnd=AN M a i cs l:=by kernel_rfl
noncomputable def Vc (M:Mo) (a:Nat) (i:Nat) (cs:List PV) (l:List Ins):bu:=aK (cwC M a i cs l) az [(7,0),(7,2)] [(7,0,1)] [(7,15,3),(7,15,4),(7,17,4)]
def YQ:Sc:= .fin
noncomputable def AO (M:Mo) (a:Nat) (i:Nat) (cs:List PV) (l:List Ins):Tree:=
 (.test (decide ((↑i:Int)<(↑M.fns.length:Int)))
 (.must (aG (↑i:Int) M.fns.length&&true&&true)
 (.must (isInt IntKind.i64 ((List.flatMap aB M.fns).getD ((↑i:Int).toNat*3) PV.bad)&&(isInt IntKind.i64 ((List.flatMap aB M.fns).getD ((↑i:Int).toNat*3+1) PV.bad)&&(aH ((List.flatMap aB M.fns).getD ((↑i:Int).toNat*3+1+1) PV.bad)&&true))&&true)
 (.call ⟨24,[.p (.ps (aq ((List.flatMap aB M.fns).getD ((↑i:Int).toNat*3+1+1) PV.bad)) (aA ((List.flatMap aB M.fns).getD ((↑i:Int).toNat*3+1+1) PV.bad)) (aj ((List.flatMap aB M.fns).getD ((↑i:Int).toNat*3+1+1) PV.bad)))],[],.p (.ps l.length 8 (ak l)),[]⟩
 (.must (((a+1)*40).ble dh&&(a+1).ble dh&&true)
 (.at (af Tryz.prog env 7 0 [.mp 0 0,.mp 1 0,.mp 2 0,sI .i64 (IntKind.i64.wrap ((↑i:Int)+1))] ([.pc M.aE,.ac [.os none 0 0 [],.os none 0 0 [],.os none 0 0 [],.os none 0 0 [],.os none 0 0 [],.os none 0 0 [],.os none 0 0 [],sB false,sI .u32 0,.os none 0 0 [],.os none 0 0 []],.ac [.p (.ps M.tys.length 2 (List.flatMap aZ M.tys)),.p (.ps M.aI.length 3 (List.flatMap aQ M.aI)),.os (some 3) (a+1) 3 (cs++[sP (au ((List.flatMap aB M.fns).getD ((↑i:Int).toNat*3) PV.bad)),sP (au ((List.flatMap aB M.fns).getD ((↑i:Int).toNat*3+1) PV.bad)),.ps l.length 8 (ak l)]),.p (.ps M.bW.length 3 (List.flatMap aF M.bW)),.p (.ps M.bX.length 3 (List.flatMap aF M.bX)),.os none 0 0 [],.p (.ps M.exs.length 3 (List.flatMap aP M.exs)),.p (.sc (.bool M.st)),sI .u32 M.sn,.os none 0 0 [],.os none 0 0 []],.tok]) 0 146))))))
 (.at (af Tryz.prog env 7 2 [.mp 0 0,.mp 1 0,.mp 2 0,sI .i64 0] ([.pc M.aE,.ac [.os none 0 0 [],.os none 0 0 [],.os none 0 0 [],.os none 0 0 [],.os none 0 0 [],.os none 0 0 [],.os none 0 0 [],sB false,sI .u32 0,.os none 0 0 [],.os none 0 0 []],.ac [.p (.ps M.tys.length 2 (List.flatMap aZ M.tys)),.p (.ps M.aI.length 3 (List.flatMap aQ M.aI)),.os (some 3) a 3 cs,.p (.ps M.bW.length 3 (List.flatMap aF M.bW)),.p (.ps M.bX.length 3 (List.flatMap aF M.bX)),.os none 0 0 [],.p (.ps M.exs.length 3 (List.flatMap aP M.exs)),.p (.sc (.bool M.st)),sI .u32 M.sn,.os none 0 0 [],.os none 0 0 []],.tok]) 0 146)))
theorem Cz (M:Mo) (a:Nat) (i:Nat) (cs:List PV) (l:List Ins):grow Tryz.prog env (Vc M a i cs l) 1000000 true (af Tryz.prog env 7 0 ([AV.mp 0 0,AV.mp 1 0,AV.mp 2 0,sI IntKind.i64 (↑i:Int)]) (CV M (AV.os (Option.some 3) a 3 cs) (AV.os Option.none 0 0 []) (AV.os Option.none 0 0 []) (AV.os Option.none 0 0 [])++[bg.tok]) 0 146) YQ atEnd=AO M a i cs l:=by kernel_rfl
noncomputable def Vd:bu:=aK av az [(7,2),(7,4)] [(7,0,3)] [(7,0,4)]
noncomputable def YR (M:Mo) (a:Nat) (i:Nat) (cs:List PV) (l:List Ins):Sc:=(.fork (.tU 7 20 (V7 M a i cs l 0) .fin) .fin)
noncomputable def AP (M:Mo) (a:Nat) (i:Nat) (cs:List PV) (l:List Ins):Tree:=
 (.test (decide ((↑i:Int)<(↑M.gls.length:Int)))
 (.call ⟨24,[.p (.ps (aq ((List.flatMap aY M.gls).getD ((↑i:Int).toNat*2+1) PV.bad)) (aA ((List.flatMap aY M.gls).getD ((↑i:Int).toNat*2+1) PV.bad)) (aj ((List.flatMap aY M.gls).getD ((↑i:Int).toNat*2+1) PV.bad)))],[],.p (.ps l.length 8 (ak l)),[]⟩
 (.must (aG (↑i:Int) M.gls.length&&true&&true&&(isBool ((List.flatMap aY M.gls).getD ((↑i:Int).toNat*2+0) PV.bad)&&true&&(aG (↑i:Int) M.gls.length&&true&&true&&(aH ((List.flatMap aY M.gls).getD ((↑i:Int).toNat*2+1) PV.bad)&&true&&true)))&&true)
 (.at (af Tryz.prog env 7 2 [.mp 0 0,.mp 1 0,.mp 2 0,sI .i64 (IntKind.i64.wrap ((↑i:Int)+1))] ([.pc M.aE,.ac [.os none 0 0 [],.os none 0 0 [],.os none 0 0 [],.os none 0 0 [],.os none 0 0 [],.os none 0 0 [],.os none 0 0 [],sB false,sI .u32 0,.os none 0 0 [],.os none 0 0 []],.ac [.p (.ps M.tys.length 2 (List.flatMap aZ M.tys)),.p (.ps M.aI.length 3 (List.flatMap aQ M.aI)),.p (.ps M.fns.length 3 (List.flatMap aB M.fns)),.p (.ps M.bW.length 3 (List.flatMap aF M.bW)),.p (.ps M.bX.length 3 (List.flatMap aF M.bX)),.os (some 3) 1 2 [.sc (.bool (aT ((List.flatMap aY M.gls).getD ((↑i:Int).toNat*2+0) PV.bad))),.ps l.length 8 (ak l)],.p (.ps M.exs.length 3 (List.flatMap aP M.exs)),.p (.sc (.bool M.st)),sI .u32 M.sn,.os none 0 0 [],.os none 0 0 []],.tok]) 0 146))))
 (.at (af Tryz.prog env 7 4 [.mp 0 0,.mp 1 0,.mp 2 0,sI .i64 0] ([.pc M.aE,.ac [.os none 0 0 [],.os none 0 0 [],.os none 0 0 [],.os none 0 0 [],.os none 0 0 [],.os none 0 0 [],.os none 0 0 [],sB false,sI .u32 0,.os none 0 0 [],.os none 0 0 []],.ac [.p (.ps M.tys.length 2 (List.flatMap aZ M.tys)),.p (.ps M.aI.length 3 (List.flatMap aQ M.aI)),.p (.ps M.fns.length 3 (List.flatMap aB M.fns)),.p (.ps M.bW.length 3 (List.flatMap aF M.bW)),.p (.ps M.bX.length 3 (List.flatMap aF M.bX)),.os none 0 0 [],.p (.ps M.exs.length 3 (List.flatMap aP M.exs)),.p (.sc (.bool M.st)),sI .u32 M.sn,.os none 0 0 [],.os none 0 0 []]]) 0 146)))
theorem CA (M:Mo) (a:Nat) (i:Nat) (cs:List PV) (l:List Ins):grow Tryz.prog env Vd 1000000 true (af Tryz.prog env 7 2 ([AV.mp 0 0,AV.mp 1 0,AV.mp 2 0,sI IntKind.i64 (↑i:Int)]) (CV M (AV.p (PV.ps M.fns.length 3 (List.flatMap aB M.fns))) (AV.os Option.none 0 0 []) (AV.os Option.none 0 0 []) (AV.os Option.none 0 0 [])) 0 146) (YR M a i cs l) atEnd=AP M a i cs l:=by kernel_rfl
noncomputable def Ve:bu:=aK av az [(7,2),(7,4)] [(7,0,3)] [(7,0,4)]
noncomputable def YS (M:Mo) (a:Nat) (i:Nat) (cs:List PV) (l:List Ins):Sc:=(.fork (.tU 7 20 (V7 M a i cs l 0) .fin) .fin)
noncomputable def AQ (M:Mo) (a:Nat) (i:Nat) (cs:List PV) (l:List Ins):Tree:=
 (.test (decide ((↑i:Int)<(↑M.gls.length:Int)))
 (.call ⟨24,[.p (.ps (aq ((List.flatMap aY M.gls).getD ((↑i:Int).toNat*2+1) PV.bad)) (aA ((List.flatMap aY M.gls).getD ((↑i:Int).toNat*2+1) PV.bad)) (aj ((List.flatMap aY M.gls).getD ((↑i:Int).toNat*2+1) PV.bad)))],[],.p (.ps l.length 8 (ak l)),[]⟩
 (.must (aG (↑i:Int) M.gls.length&&true&&true&&(isBool ((List.flatMap aY M.gls).getD ((↑i:Int).toNat*2+0) PV.bad)&&true&&(aG (↑i:Int) M.gls.length&&true&&true&&(aH ((List.flatMap aY M.gls).getD ((↑i:Int).toNat*2+1) PV.bad)&&true&&(((a+1)*32).ble dh&&(a+1).ble dh&&true&&true))))&&true)
 (.at (af Tryz.prog env 7 2 [.mp 0 0,.mp 1 0,.mp 2 0,sI .i64 (IntKind.i64.wrap ((↑i:Int)+1))] ([.pc M.aE,.ac [.os none 0 0 [],.os none 0 0 [],.os none 0 0 [],.os none 0 0 [],.os none 0 0 [],.os none 0 0 [],.os none 0 0 [],sB false,sI .u32 0,.os none 0 0 [],.os none 0 0 []],.ac [.p (.ps M.tys.length 2 (List.flatMap aZ M.tys)),.p (.ps M.aI.length 3 (List.flatMap aQ M.aI)),.p (.ps M.fns.length 3 (List.flatMap aB M.fns)),.p (.ps M.bW.length 3 (List.flatMap aF M.bW)),.p (.ps M.bX.length 3 (List.flatMap aF M.bX)),.os (some 3) (a+1) 2 (cs++[.sc (.bool (aT ((List.flatMap aY M.gls).getD ((↑i:Int).toNat*2+0) PV.bad))),.ps l.length 8 (ak l)]),.p (.ps M.exs.length 3 (List.flatMap aP M.exs)),.p (.sc (.bool M.st)),sI .u32 M.sn,.os none 0 0 [],.os none 0 0 []],.tok]) 0 146))))
 (.at (af Tryz.prog env 7 4 [.mp 0 0,.mp 1 0,.mp 2 0,sI .i64 0] ([.pc M.aE,.ac [.os none 0 0 [],.os none 0 0 [],.os none 0 0 [],.os none 0 0 [],.os none 0 0 [],.os none 0 0 [],.os none 0 0 [],sB false,sI .u32 0,.os none 0 0 [],.os none 0 0 []],.ac [.p (.ps M.tys.length 2 (List.flatMap aZ M.tys)),.p (.ps M.aI.length 3 (List.flatMap aQ M.aI)),.p (.ps M.fns.length 3 (List.flatMap aB M.fns)),.p (.ps M.bW.length 3 (List.flatMap aF M.bW)),.p (.ps M.bX.length 3 (List.flatMap aF M.bX)),.os (some 3) a 2 cs,.p (.ps M.exs.length 3 (List.flatMap aP M.exs)),.p (.sc (.bool M.st)),sI .u32 M.sn,.os none 0 0 [],.os none 0 0 []],.tok]) 0 146)))
theorem CB (M:Mo) (a:Nat) (i:Nat) (cs:List PV) (l:List Ins):grow Tryz.prog env Ve 1000000 true (af Tryz.prog env 7 2 ([AV.mp 0 0,AV.mp 1 0,AV.mp 2 0,sI IntKind.i64 (↑i:Int)]) (CV M (AV.p (PV.ps M.fns.length 3 (List.flatMap aB M.fns))) (AV.os (Option.some 3) a 2 cs) (AV.os Option.none 0 0 []) (AV.os Option.none 0 0 [])++[bg.tok]) 0 146) (YS M a i cs l) atEnd=AQ M a i cs l:=by kernel_rfl
noncomputable def Vf:bu:=aK av az [(7,4),(7,6)] [(7,0,5)] [(7,0,6)]
noncomputable def YT (M:Mo) (a:Nat) (i:Nat) (cs:List PV) (l:List Ins):Sc:=(.fork (.tU 7 24 (V7 M a i cs l 0) .fin) .fin)
noncomputable def AR (M:Mo) (a:Nat) (i:Nat) (cs:List PV) (l:List Ins):Tree:=
 (.test (decide ((↑i:Int)<(↑M.els.length:Int)))
 (.call ⟨24,[.p (.ps (aq ((List.flatMap aJ M.els).getD ((↑i:Int).toNat*2+0) PV.bad)) (aA ((List.flatMap aJ M.els).getD ((↑i:Int).toNat*2+0) PV.bad)) (aj ((List.flatMap aJ M.els).getD ((↑i:Int).toNat*2+0) PV.bad)))],[],.p (.ps l.length 8 (ak l)),[]⟩
 (.must (aG (↑i:Int) M.els.length&&true&&true&&(aH ((List.flatMap aJ M.els).getD ((↑i:Int).toNat*2+0) PV.bad)&&true&&(aG (↑i:Int) M.els.length&&true&&true&&(aH ((List.flatMap aJ M.els).getD ((↑i:Int).toNat*2+1) PV.bad)&&true&&(((aA ((List.flatMap aJ M.els).getD ((↑i:Int).toNat*2+1) PV.bad)).beq 1||(aq ((List.flatMap aJ M.els).getD ((↑i:Int).toNat*2+1) PV.bad)).beq 0&&Nat.ble 1 1)&&true&&true&&true&&((0+aq ((List.flatMap aJ M.els).getD ((↑i:Int).toNat*2+1) PV.bad))*4).ble dh&&(0+aq ((List.flatMap aJ M.els).getD ((↑i:Int).toNat*2+1) PV.bad)).ble dh&&true&&true))))&&true)
 (.at (af Tryz.prog env 7 4 [.mp 0 0,.mp 1 0,.mp 2 0,sI .i64 (IntKind.i64.wrap ((↑i:Int)+1))] ([.pc M.aE,.ac [.os none 0 0 [],.os none 0 0 [],.os none 0 0 [],.os none 0 0 [],.os none 0 0 [],.os none 0 0 [],.os none 0 0 [],sB false,sI .u32 0,.os none 0 0 [],.os none 0 0 []],.ac [.p (.ps M.tys.length 2 (List.flatMap aZ M.tys)),.p (.ps M.aI.length 3 (List.flatMap aQ M.aI)),.p (.ps M.fns.length 3 (List.flatMap aB M.fns)),.p (.ps M.bW.length 3 (List.flatMap aF M.bW)),.p (.ps M.bX.length 3 (List.flatMap aF M.bX)),.p (.ps M.gls.length 2 (List.flatMap aY M.gls)),.p (.ps M.exs.length 3 (List.flatMap aP M.exs)),.p (.sc (.bool M.st)),sI .u32 M.sn,.os (some 3) 1 2 [.ps l.length 8 (ak l),.ps (0+aq ((List.flatMap aJ M.els).getD ((↑i:Int).toNat*2+1) PV.bad)) 1 ([]++aj ((List.flatMap aJ M.els).getD ((↑i:Int).toNat*2+1) PV.bad))],.os none 0 0 []],.tok]) 0 146))))
 (.at (af Tryz.prog env 7 6 [.mp 0 0,.mp 1 0,.mp 2 0,sI .i64 0] ([.pc M.aE,.ac [.os none 0 0 [],.os none 0 0 [],.os none 0 0 [],.os none 0 0 [],.os none 0 0 [],.os none 0 0 [],.os none 0 0 [],sB false,sI .u32 0,.os none 0 0 [],.os none 0 0 []],.ac [.p (.ps M.tys.length 2 (List.flatMap aZ M.tys)),.p (.ps M.aI.length 3 (List.flatMap aQ M.aI)),.p (.ps M.fns.length 3 (List.flatMap aB M.fns)),.p (.ps M.bW.length 3 (List.flatMap aF M.bW)),.p (.ps M.bX.length 3 (List.flatMap aF M.bX)),.p (.ps M.gls.length 2 (List.flatMap aY M.gls)),.p (.ps M.exs.length 3 (List.flatMap aP M.exs)),.p (.sc (.bool M.st)),sI .u32 M.sn,.os none 0 0 [],.os none 0 0 []]]) 0 146)))
theorem CC (M:Mo) (a:Nat) (i:Nat) (cs:List PV) (l:List Ins):grow Tryz.prog env Vf 1000000 true (af Tryz.prog env 7 4 ([AV.mp 0 0,AV.mp 1 0,AV.mp 2 0,sI IntKind.i64 (↑i:Int)]) (CV M (AV.p (PV.ps M.fns.length 3 (List.flatMap aB M.fns))) (AV.p (PV.ps M.gls.length 2 (List.flatMap aY M.gls))) (AV.os Option.none 0 0 []) (AV.os Option.none 0 0 [])) 0 146) (YT M a i cs l) atEnd=AR M a i cs l:=by kernel_rfl
noncomputable def Vg:bu:=aK av az [(7,4),(7,6)] [(7,0,5)] [(7,0,6)]
noncomputable def YU (M:Mo) (a:Nat) (i:Nat) (cs:List PV) (l:List Ins):Sc:=(.fork (.tU 7 24 (V7 M a i cs l 0) .fin) .fin)
noncomputable def AS (M:Mo) (a:Nat) (i:Nat) (cs:List PV) (l:List Ins):Tree:=
 (.test (decide ((↑i:Int)<(↑M.els.length:Int)))
 (.call ⟨24,[.p (.ps (aq ((List.flatMap aJ M.els).getD ((↑i:Int).toNat*2+0) PV.bad)) (aA ((List.flatMap aJ M.els).getD ((↑i:Int).toNat*2+0) PV.bad)) (aj ((List.flatMap aJ M.els).getD ((↑i:Int).toNat*2+0) PV.bad)))],[],.p (.ps l.length 8 (ak l)),[]⟩
 (.must (aG (↑i:Int) M.els.length&&true&&true&&(aH ((List.flatMap aJ M.els).getD ((↑i:Int).toNat*2+0) PV.bad)&&true&&(aG (↑i:Int) M.els.length&&true&&true&&(aH ((List.flatMap aJ M.els).getD ((↑i:Int).toNat*2+1) PV.bad)&&true&&(((aA ((List.flatMap aJ M.els).getD ((↑i:Int).toNat*2+1) PV.bad)).beq 1||(aq ((List.flatMap aJ M.els).getD ((↑i:Int).toNat*2+1) PV.bad)).beq 0&&Nat.ble 1 1)&&true&&true&&true&&((0+aq ((List.flatMap aJ M.els).getD ((↑i:Int).toNat*2+1) PV.bad))*4).ble dh&&(0+aq ((List.flatMap aJ M.els).getD ((↑i:Int).toNat*2+1) PV.bad)).ble dh&&true&&(((a+1)*48).ble dh&&(a+1).ble dh&&true&&true)))))&&true)
 (.at (af Tryz.prog env 7 4 [.mp 0 0,.mp 1 0,.mp 2 0,sI .i64 (IntKind.i64.wrap ((↑i:Int)+1))] ([.pc M.aE,.ac [.os none 0 0 [],.os none 0 0 [],.os none 0 0 [],.os none 0 0 [],.os none 0 0 [],.os none 0 0 [],.os none 0 0 [],sB false,sI .u32 0,.os none 0 0 [],.os none 0 0 []],.ac [.p (.ps M.tys.length 2 (List.flatMap aZ M.tys)),.p (.ps M.aI.length 3 (List.flatMap aQ M.aI)),.p (.ps M.fns.length 3 (List.flatMap aB M.fns)),.p (.ps M.bW.length 3 (List.flatMap aF M.bW)),.p (.ps M.bX.length 3 (List.flatMap aF M.bX)),.p (.ps M.gls.length 2 (List.flatMap aY M.gls)),.p (.ps M.exs.length 3 (List.flatMap aP M.exs)),.p (.sc (.bool M.st)),sI .u32 M.sn,.os (some 3) (a+1) 2 (cs++[.ps l.length 8 (ak l),.ps (0+aq ((List.flatMap aJ M.els).getD ((↑i:Int).toNat*2+1) PV.bad)) 1 ([]++aj ((List.flatMap aJ M.els).getD ((↑i:Int).toNat*2+1) PV.bad))]),.os none 0 0 []],.tok]) 0 146))))
 (.at (af Tryz.prog env 7 6 [.mp 0 0,.mp 1 0,.mp 2 0,sI .i64 0] ([.pc M.aE,.ac [.os none 0 0 [],.os none 0 0 [],.os none 0 0 [],.os none 0 0 [],.os none 0 0 [],.os none 0 0 [],.os none 0 0 [],sB false,sI .u32 0,.os none 0 0 [],.os none 0 0 []],.ac [.p (.ps M.tys.length 2 (List.flatMap aZ M.tys)),.p (.ps M.aI.length 3 (List.flatMap aQ M.aI)),.p (.ps M.fns.length 3 (List.flatMap aB M.fns)),.p (.ps M.bW.length 3 (List.flatMap aF M.bW)),.p (.ps M.bX.length 3 (List.flatMap aF M.bX)),.p (.ps M.gls.length 2 (List.flatMap aY M.gls)),.p (.ps M.exs.length 3 (List.flatMap aP M.exs)),.p (.sc (.bool M.st)),sI .u32 M.sn,.os (some 3) a 2 cs,.os none 0 0 []],.tok]) 0 146)))
theorem CD (M:Mo) (a:Nat) (i:Nat) (cs:List PV) (l:List Ins):grow Tryz.prog env Vg 1000000 true (af Tryz.prog env 7 4 ([AV.mp 0 0,AV.mp 1 0,AV.mp 2 0,sI IntKind.i64 (↑i:Int)]) (CV M (AV.p (PV.ps M.fns.length 3 (List.flatMap aB M.fns))) (AV.p (PV.ps M.gls.length 2 (List.flatMap aY M.gls))) (AV.os (Option.some 3) a 2 cs) (AV.os Option.none 0 0 [])++[bg.tok]) 0 146) (YU M a i cs l) atEnd=AS M a i cs l:=by kernel_rfl
noncomputable def Vh:bu:=aK av az [(7,6)] [(7,0,7)] [(7,0,8)]
noncomputable def YV (M:Mo) (a:Nat) (i:Nat) (cs:List PV) (l:List Ins):Sc:=(.fork (.tU 7 28 (V7 M a i cs l 0) .fin) .fin)
noncomputable def AT (M:Mo) (a:Nat) (i:Nat) (cs:List PV) (l:List Ins):Tree:=
 (.test (decide ((↑i:Int)<(↑M.aW.length:Int)))
 (.call ⟨24,[.p (.ps (aq ((List.flatMap aV M.aW).getD ((↑i:Int).toNat*2+0) PV.bad)) (aA ((List.flatMap aV M.aW).getD ((↑i:Int).toNat*2+0) PV.bad)) (aj ((List.flatMap aV M.aW).getD ((↑i:Int).toNat*2+0) PV.bad)))],[],.p (.ps l.length 8 (ak l)),[]⟩
 (.must (aG (↑i:Int) M.aW.length&&true&&true&&(aH ((List.flatMap aV M.aW).getD ((↑i:Int).toNat*2+0) PV.bad)&&true&&(aG (↑i:Int) M.aW.length&&true&&true&&(aH ((List.flatMap aV M.aW).getD ((↑i:Int).toNat*2+1) PV.bad)&&true&&(((aA ((List.flatMap aV M.aW).getD ((↑i:Int).toNat*2+1) PV.bad)).beq 1||(aq ((List.flatMap aV M.aW).getD ((↑i:Int).toNat*2+1) PV.bad)).beq 0&&Nat.ble 1 1)&&true&&true&&true&&((0+aq ((List.flatMap aV M.aW).getD ((↑i:Int).toNat*2+1) PV.bad))*1).ble dh&&(0+aq ((List.flatMap aV M.aW).getD ((↑i:Int).toNat*2+1) PV.bad)).ble dh&&true&&true))))&&true)
 (.at (af Tryz.prog env 7 6 [.mp 0 0,.mp 1 0,.mp 2 0,sI .i64 (IntKind.i64.wrap ((↑i:Int)+1))] ([.pc M.aE,.ac [.os none 0 0 [],.os none 0 0 [],.os none 0 0 [],.os none 0 0 [],.os none 0 0 [],.os none 0 0 [],.os none 0 0 [],sB false,sI .u32 0,.os none 0 0 [],.os none 0 0 []],.ac [.p (.ps M.tys.length 2 (List.flatMap aZ M.tys)),.p (.ps M.aI.length 3 (List.flatMap aQ M.aI)),.p (.ps M.fns.length 3 (List.flatMap aB M.fns)),.p (.ps M.bW.length 3 (List.flatMap aF M.bW)),.p (.ps M.bX.length 3 (List.flatMap aF M.bX)),.p (.ps M.gls.length 2 (List.flatMap aY M.gls)),.p (.ps M.exs.length 3 (List.flatMap aP M.exs)),.p (.sc (.bool M.st)),sI .u32 M.sn,.p (.ps M.els.length 2 (List.flatMap aJ M.els)),.os (some 3) 1 2 [.ps l.length 8 (ak l),.ps (0+aq ((List.flatMap aV M.aW).getD ((↑i:Int).toNat*2+1) PV.bad)) 1 ([]++aj ((List.flatMap aV M.aW).getD ((↑i:Int).toNat*2+1) PV.bad))]],.tok]) 0 146))))
 (.must true
 (.out (.ret (.agg [.p (.ps M.tys.length 2 (List.flatMap aZ M.tys)),.p (.ps M.aI.length 3 (List.flatMap aQ M.aI)),.p (.ps M.fns.length 3 (List.flatMap aB M.fns)),.p (.ps M.bW.length 3 (List.flatMap aF M.bW)),.p (.ps M.bX.length 3 (List.flatMap aF M.bX)),.p (.ps M.gls.length 2 (List.flatMap aY M.gls)),.p (.ps M.exs.length 3 (List.flatMap aP M.exs)),.p (.sc (.bool M.st)),sI .u32 M.sn,.p (.ps M.els.length 2 (List.flatMap aJ M.els)),.os none 0 0 []]) []))))
theorem CE (M:Mo) (a:Nat) (i:Nat) (cs:List PV) (l:List Ins):grow Tryz.prog env Vh 1000000 true (af Tryz.prog env 7 6 ([AV.mp 0 0,AV.mp 1 0,AV.mp 2 0,sI IntKind.i64 (↑i:Int)]) (CV M (AV.p (PV.ps M.fns.length 3 (List.flatMap aB M.fns))) (AV.p (PV.ps M.gls.length 2 (List.flatMap aY M.gls))) (AV.p (PV.ps M.els.length 2 (List.flatMap aJ M.els))) (AV.os Option.none 0 0 [])) 0 146) (YV M a i cs l) atEnd=AT M a i cs l:=by kernel_rfl
noncomputable def Vi:bu:=aK av az [(7,6)] [(7,0,7)] [(7,0,8)]
noncomputable def YW (M:Mo) (a:Nat) (i:Nat) (cs:List PV) (l:List Ins):Sc:=(.fork (.tU 7 28 (V7 M a i cs l 0) .fin) .fin)
noncomputable def AU (M:Mo) (a:Nat) (i:Nat) (cs:List PV) (l:List Ins):Tree:=
 (.test (decide ((↑i:Int)<(↑M.aW.length:Int)))
 (.call ⟨24,[.p (.ps (aq ((List.flatMap aV M.aW).getD ((↑i:Int).toNat*2+0) PV.bad)) (aA ((List.flatMap aV M.aW).getD ((↑i:Int).toNat*2+0) PV.bad)) (aj ((List.flatMap aV M.aW).getD ((↑i:Int).toNat*2+0) PV.bad)))],[],.p (.ps l.length 8 (ak l)),[]⟩
 (.must (aG (↑i:Int) M.aW.length&&true&&true&&(aH ((List.flatMap aV M.aW).getD ((↑i:Int).toNat*2+0) PV.bad)&&true&&(aG (↑i:Int) M.aW.length&&true&&true&&(aH ((List.flatMap aV M.aW).getD ((↑i:Int).toNat*2+1) PV.bad)&&true&&(((aA ((List.flatMap aV M.aW).getD ((↑i:Int).toNat*2+1) PV.bad)).beq 1||(aq ((List.flatMap aV M.aW).getD ((↑i:Int).toNat*2+1) PV.bad)).beq 0&&Nat.ble 1 1)&&true&&true&&true&&((0+aq ((List.flatMap aV M.aW).getD ((↑i:Int).toNat*2+1) PV.bad))*1).ble dh&&(0+aq ((List.flatMap aV M.aW).getD ((↑i:Int).toNat*2+1) PV.bad)).ble dh&&true&&(((a+1)*48).ble dh&&(a+1).ble dh&&true&&true)))))&&true)
 (.at (af Tryz.prog env 7 6 [.mp 0 0,.mp 1 0,.mp 2 0,sI .i64 (IntKind.i64.wrap ((↑i:Int)+1))] ([.pc M.aE,.ac [.os none 0 0 [],.os none 0 0 [],.os none 0 0 [],.os none 0 0 [],.os none 0 0 [],.os none 0 0 [],.os none 0 0 [],sB false,sI .u32 0,.os none 0 0 [],.os none 0 0 []],.ac [.p (.ps M.tys.length 2 (List.flatMap aZ M.tys)),.p (.ps M.aI.length 3 (List.flatMap aQ M.aI)),.p (.ps M.fns.length 3 (List.flatMap aB M.fns)),.p (.ps M.bW.length 3 (List.flatMap aF M.bW)),.p (.ps M.bX.length 3 (List.flatMap aF M.bX)),.p (.ps M.gls.length 2 (List.flatMap aY M.gls)),.p (.ps M.exs.length 3 (List.flatMap aP M.exs)),.p (.sc (.bool M.st)),sI .u32 M.sn,.p (.ps M.els.length 2 (List.flatMap aJ M.els)),.os (some 3) (a+1) 2 (cs++[.ps l.length 8 (ak l),.ps (0+aq ((List.flatMap aV M.aW).getD ((↑i:Int).toNat*2+1) PV.bad)) 1 ([]++aj ((List.flatMap aV M.aW).getD ((↑i:Int).toNat*2+1) PV.bad))])],.tok]) 0 146))))
 (.must true
 (.out (.ret (.agg [.p (.ps M.tys.length 2 (List.flatMap aZ M.tys)),.p (.ps M.aI.length 3 (List.flatMap aQ M.aI)),.p (.ps M.fns.length 3 (List.flatMap aB M.fns)),.p (.ps M.bW.length 3 (List.flatMap aF M.bW)),.p (.ps M.bX.length 3 (List.flatMap aF M.bX)),.p (.ps M.gls.length 2 (List.flatMap aY M.gls)),.p (.ps M.exs.length 3 (List.flatMap aP M.exs)),.p (.sc (.bool M.st)),sI .u32 M.sn,.p (.ps M.els.length 2 (List.flatMap aJ M.els)),.os (some 0) a 2 cs]) [.tok]))))
theorem CF (M:Mo) (a:Nat) (i:Nat) (cs:List PV) (l:List Ins):grow Tryz.prog env Vi 1000000 true (af Tryz.prog env 7 6 ([AV.mp 0 0,AV.mp 1 0,AV.mp 2 0,sI IntKind.i64 (↑i:Int)]) (CV M (AV.p (PV.ps M.fns.length 3 (List.flatMap aB M.fns))) (AV.p (PV.ps M.gls.length 2 (List.flatMap aY M.gls))) (AV.p (PV.ps M.els.length 2 (List.flatMap aJ M.els))) (AV.os (Option.some 3) a 2 cs)++[bg.tok]) 0 146) (YW M a i cs l) atEnd=AU M a i cs l:=by kernel_rfl
theorem FZ.Vj {n z:Nat} {y:PV} (h:CR (.ps 0 0 []) y):FZ (.os none 0 0 []) (.p y):=FZ.nil h
structure _root_.Go.Am.Mo.HL (M:Mo):Prop where
 fns : ∀x∈M.fns,dU x.l≤1000000
 gls : ∀x∈M.gls,dU x.l≤1000000
 els : ∀x∈M.els,dU x.l≤1000000∧x.fs.length≤1000000
 aW : ∀x∈M.aW,dU x.l≤1000000∧x.bs.length≤1000000
theorem AW {α:Type} {l:List α} {D:List α→Nat→bJ} {o:Out} (step : ∀(i:Nat) (x:α),l[i]? = some x→Am.Good Tryz.prog env (D (l.take i++[x]) (i+1)) o→Am.Good Tryz.prog env (D (l.take i) i) o)
  (fin:Am.Good Tryz.prog env (D l l.length) o) : ∀r i:Nat,i+r=l.length→Am.Good Tryz.prog env (D (l.take i) i) o:=by
 intro r
 induction r with
 |zero=>
  intro i hi
  obtain rfl:i=l.length:=by omega
  rw[List.take_length]
  exact fin
 |succ r ih=>
  intro i hi
  have hl:i<l.length:=by omega
  refine step i l[i] (List.getElem?_eq_getElem hl) ?_
  rw[←List.take_succ_eq_append_getElem hl]
  exact ih (i+1) (by omega)
noncomputable def CG (M:Mo) (p:List Fu) (i:Nat):bJ:=
 if p=[] then af Tryz.prog env 7 0 [.mp 0 0,.mp 1 0,.mp 2 0,sI .i64 i] (CV M (.os none 0 0 []) (.os none 0 0 []) (.os none 0 0 []) (.os none 0 0 [])) 0 146
 else af Tryz.prog env 7 0 [.mp 0 0,.mp 1 0,.mp 2 0,sI .i64 i] ((CV M (.os (some 3) p.length 3 (p.flatMap aB)) (.os none 0 0 []) (.os none 0 0 []) (.os none 0 0 []))++[.tok]) 0 146
noncomputable def wI (M:Mo) (p:List Gl) (i:Nat):bJ:=
 if p=[] then af Tryz.prog env 7 2 [.mp 0 0,.mp 1 0,.mp 2 0,sI .i64 i] (CV M (.p (.ps M.fns.length 3 (M.fns.flatMap aB))) (.os none 0 0 []) (.os none 0 0 []) (.os none 0 0 [])) 0 146
 else af Tryz.prog env 7 2 [.mp 0 0,.mp 1 0,.mp 2 0,sI .i64 i] ((CV M (.p (.ps M.fns.length 3 (M.fns.flatMap aB))) (.os (some 3) p.length 2 (p.flatMap aY)) (.os none 0 0 []) (.os none 0 0 []))++[.tok]) 0 146
noncomputable def wJ (M:Mo) (p:List El) (i:Nat):bJ:=
 if p=[] then af Tryz.prog env 7 4 [.mp 0 0,.mp 1 0,.mp 2 0,sI .i64 i] (CV M (.p (.ps M.fns.length 3 (M.fns.flatMap aB))) (.p (.ps M.gls.length 2 (M.gls.flatMap aY))) (.os none 0 0 []) (.os none 0 0 [])) 0 146
 else af Tryz.prog env 7 4 [.mp 0 0,.mp 1 0,.mp 2 0,sI .i64 i] ((CV M (.p (.ps M.fns.length 3 (M.fns.flatMap aB))) (.p (.ps M.gls.length 2 (M.gls.flatMap aY))) (.os (some 3) p.length 2 (p.flatMap aJ)) (.os none 0 0 []))++[.tok]) 0 146
noncomputable def wK (M:Mo) (p:List Da) (i:Nat):bJ:=
 if p=[] then af Tryz.prog env 7 6 [.mp 0 0,.mp 1 0,.mp 2 0,sI .i64 i] (CV M (.p (.ps M.fns.length 3 (M.fns.flatMap aB))) (.p (.ps M.gls.length 2 (M.gls.flatMap aY))) (.p (.ps M.els.length 2 (M.els.flatMap aJ))) (.os none 0 0 [])) 0 146
 else af Tryz.prog env 7 6 [.mp 0 0,.mp 1 0,.mp 2 0,sI .i64 i] ((CV M (.p (.ps M.fns.length 3 (M.fns.flatMap aB))) (.p (.ps M.gls.length 2 (M.gls.flatMap aY))) (.p (.ps M.els.length 2 (M.els.flatMap aJ))) (.os (some 3) p.length 2 (p.flatMap aV)))++[.tok]) 0 146
theorem YX {vs:List AV} {m:Mem}:iK (af Tryz.prog env 7 2 vs m 0 146)=true:=by kernel_rfl
theorem MA (M:Mo) (hl:M.fns.length≤1000000) (hc : ∀x∈M.fns,dU x.l≤1000000) (o:Out) (p:List Fu) (hp:p.length≤1000000) (i:Nat) (x:Fu) (hx:M.fns[i]? = some x) (h:Am.Good Tryz.prog env (CG M (p++[x]) (i+1)) o):Am.Good Tryz.prog env (CG M p i) o:=by
 have hi:i<M.fns.length:=(List.getElem?_eq_some_iff.1 hx).1
 have hmem:=List.mem_of_getElem? hx
 have c:=aM (z:=3) (enc:=aB) (fun _=>rfl) hx
 have gj:(M.fns.flatMap aB).getD (i*3) .bad = .sc (.int .i64 x.ty):=c 0 (by decide)
 have hH:(M.fns.flatMap aB).getD (i*3+1) .bad = .sc (.int .i64 x.lo):=c 1 (by decide)
 have pH:(M.fns.flatMap aB).getD (i*3+1+1) .bad=pL x.l:=c 2 (by decide)
 have hL:dh=70368744177664:=rfl
 have w:IntKind.i64.wrap ((i:Int)+1)=((i+1:Nat):Int):=by rw[aD (by omega) (by omega)];rfl
 have hd:decide ((i:Int)<(M.fns.length:Int))=true:=decide_eq_true (by omega)
 have hin:aG (i:Int) M.fns.length=true:=by simp only[aG,Bool.and_eq_true,decide_eq_true_eq];omega
 unfold CG at h ⊢
 by_cases e:p=[]
 · subst e
   rw[if_neg (by simp),List.nil_append] at h
   rw[if_pos rfl]
   refine aa names (Cy M 0 i [] x.l) ?_
   simp only[AN,Tree.ok,isStr,isInt,aH,isBool,aN,au,aT,aq,aA,aj,Int.toNat_natCast,gj,hH,pH,hd,hin,w,Nat.zero_add,List.nil_append,Bool.and_true,Bool.true_and]
   exact⟨fun _=>⟨(by first | rfl | trivial),(by first | rfl | trivial),ef _ x.l (Nat.le_refl _) (hc x hmem),h⟩,fun q=>(by cases q)⟩
 · rw[if_neg (by simp),List.length_append,List.flatMap_append] at h
   rw[if_neg e]
   refine aa names (Cz M p.length i (p.flatMap aB) x.l) ?_
   simp only[AO,Tree.ok,isStr,isInt,aH,isBool,aN,au,aT,aq,aA,aj,Int.toNat_natCast,gj,hH,pH,hd,hin,w,Nat.zero_add,List.nil_append,Bool.and_true,Bool.true_and]
   exact⟨fun _=>⟨(by first | rfl | trivial),(by first | rfl | trivial),ef _ x.l (Nat.le_refl _) (hc x hmem),(by first | rfl | trivial | (simp only[Bool.and_eq_true,Bool.or_eq_true,Nat.ble_eq,Nat.beq_eq];omega) | (simp[Nat.ble_eq];omega)),h⟩,fun q=>(by cases q)⟩
theorem P0 (M:Mo) (o:Out) (p:List Fu) (hp:p=M.fns) (h:Am.Good Tryz.prog env (wI M [] 0) o):Am.Good Tryz.prog env (CG M p M.fns.length) o:=by
 have hd:decide ((M.fns.length:Int)<(M.fns.length:Int))=false:=decide_eq_false (by omega)
 unfold CG
 by_cases e:p=[]
 · subst e
   have Bd:CR (.ps 0 0 []) (.ps M.fns.length 3 (M.fns.flatMap aB)):=by rw[←hp];exact .nil
   rw[if_pos rfl]
   refine aa names (Cy M 0 M.fns.length [] []) ?_
   simp only[AN,Tree.ok,hd]
   refine⟨fun q=>(by cases q),fun _=> ?_⟩
   rw[wI,if_pos rfl] at h
   refine Good.vr (l:=(CU M (.os none 0 0 []) (.os none 0 0 []) (.os none 0 0 []) (.os none 0 0 []))) (l':=(CU M (.p (.ps M.fns.length 3 (M.fns.flatMap aB))) (.os none 0 0 []) (.os none 0 0 []) (.os none 0 0 []))) (r:=[]) YX ⟨FZ.refl _,FZ.refl _,(FZ.Vj (n:=0) (z:=0) Bd),FZ.refl _,FZ.refl _,FZ.refl _,FZ.refl _,FZ.refl _,FZ.refl _,FZ.refl _,FZ.refl _,trivial⟩ rfl rfl rfl h
 · rw[if_neg e]
   have hfz:FZ (.os (some 3) p.length 3 (p.flatMap aB)) (.p (.ps M.fns.length 3 (M.fns.flatMap aB))):=by rw[←hp];exact FZ.os
   refine aa names (Cz M p.length M.fns.length (p.flatMap aB) []) ?_
   simp only[AO,Tree.ok,hd]
   refine⟨fun q=>(by cases q),fun _=> ?_⟩
   rw[wI,if_pos rfl] at h
   refine Good.vr (l:=(CU M (.os (some 3) p.length 3 (p.flatMap aB)) (.os none 0 0 []) (.os none 0 0 []) (.os none 0 0 []))) (l':=(CU M (.p (.ps M.fns.length 3 (M.fns.flatMap aB))) (.os none 0 0 []) (.os none 0 0 []) (.os none 0 0 []))) (r:=[.tok]) YX ⟨FZ.refl _,FZ.refl _,hfz,FZ.refl _,FZ.refl _,FZ.refl _,FZ.refl _,FZ.refl _,FZ.refl _,FZ.refl _,FZ.refl _,trivial⟩ rfl rfl rfl h
theorem YY {vs:List AV} {m:Mem}:iK (af Tryz.prog env 7 4 vs m 0 146)=true:=by kernel_rfl
theorem MB (M:Mo) (hl:M.gls.length≤1000000) (hc : ∀x∈M.gls,dU x.l≤1000000) (o:Out) (p:List Gl) (hp:p.length≤1000000) (i:Nat) (x:Gl) (hx:M.gls[i]? = some x) (h:Am.Good Tryz.prog env (wI M (p++[x]) (i+1)) o):Am.Good Tryz.prog env (wI M p i) o:=by
 have hi:i<M.gls.length:=(List.getElem?_eq_some_iff.1 hx).1
 have hmem:=List.mem_of_getElem? hx
 have c:=aM (z:=2) (enc:=aY) (fun _=>rfl) hx
 have gj:(M.gls.flatMap aY).getD (i*2+0) .bad = .sc (.bool x.mu):=c 0 (by decide)
 have hH:(M.gls.flatMap aY).getD (i*2+1) .bad=pL x.l:=c 1 (by decide)
 have hL:dh=70368744177664:=rfl
 have w:IntKind.i64.wrap ((i:Int)+1)=((i+1:Nat):Int):=by rw[aD (by omega) (by omega)];rfl
 have hd:decide ((i:Int)<(M.gls.length:Int))=true:=decide_eq_true (by omega)
 have hin:aG (i:Int) M.gls.length=true:=by simp only[aG,Bool.and_eq_true,decide_eq_true_eq];omega
 unfold wI at h ⊢
 by_cases e:p=[]
 · subst e
   rw[if_neg (by simp),List.nil_append] at h
   rw[if_pos rfl]
   refine aa names (CA M 0 i [] x.l) ?_
   simp only[AP,Tree.ok,isStr,isInt,aH,isBool,aN,au,aT,aq,aA,aj,Int.toNat_natCast,gj,hH,hd,hin,w,Nat.zero_add,List.nil_append,Bool.and_true,Bool.true_and]
   exact⟨fun _=>⟨ef _ x.l (Nat.le_refl _) (hc x hmem),(by first | rfl | trivial | (simp only[Bool.and_eq_true,Bool.or_eq_true,Nat.ble_eq,Nat.beq_eq];omega) | (simp[Nat.ble_eq];omega)),h⟩,fun q=>(by cases q)⟩
 · rw[if_neg (by simp),List.length_append,List.flatMap_append] at h
   rw[if_neg e]
   refine aa names (CB M p.length i (p.flatMap aY) x.l) ?_
   simp only[AQ,Tree.ok,isStr,isInt,aH,isBool,aN,au,aT,aq,aA,aj,Int.toNat_natCast,gj,hH,hd,hin,w,Nat.zero_add,List.nil_append,Bool.and_true,Bool.true_and]
   exact⟨fun _=>⟨ef _ x.l (Nat.le_refl _) (hc x hmem),(by first | rfl | trivial | (simp only[Bool.and_eq_true,Bool.or_eq_true,Nat.ble_eq,Nat.beq_eq];omega) | (simp[Nat.ble_eq];omega)),h⟩,fun q=>(by cases q)⟩
theorem P1 (M:Mo) (o:Out) (p:List Gl) (hp:p=M.gls) (h:Am.Good Tryz.prog env (wJ M [] 0) o):Am.Good Tryz.prog env (wI M p M.gls.length) o:=by
 have hd:decide ((M.gls.length:Int)<(M.gls.length:Int))=false:=decide_eq_false (by omega)
 unfold wI
 by_cases e:p=[]
 · subst e
   have Bd:CR (.ps 0 0 []) (.ps M.gls.length 2 (M.gls.flatMap aY)):=by rw[←hp];exact .nil
   rw[if_pos rfl]
   refine aa names (CA M 0 M.gls.length [] []) ?_
   simp only[AP,Tree.ok,hd]
   refine⟨fun q=>(by cases q),fun _=> ?_⟩
   rw[wJ,if_pos rfl] at h
   refine Good.vr (l:=(CU M (.p (.ps M.fns.length 3 (M.fns.flatMap aB))) (.os none 0 0 []) (.os none 0 0 []) (.os none 0 0 []))) (l':=(CU M (.p (.ps M.fns.length 3 (M.fns.flatMap aB))) (.p (.ps M.gls.length 2 (M.gls.flatMap aY))) (.os none 0 0 []) (.os none 0 0 []))) (r:=[]) YY ⟨FZ.refl _,FZ.refl _,FZ.refl _,FZ.refl _,FZ.refl _,(FZ.Vj (n:=0) (z:=0) Bd),FZ.refl _,FZ.refl _,FZ.refl _,FZ.refl _,FZ.refl _,trivial⟩ rfl rfl rfl h
 · rw[if_neg e]
   have hfz:FZ (.os (some 3) p.length 2 (p.flatMap aY)) (.p (.ps M.gls.length 2 (M.gls.flatMap aY))):=by rw[←hp];exact FZ.os
   refine aa names (CB M p.length M.gls.length (p.flatMap aY) []) ?_
   simp only[AQ,Tree.ok,hd]
   refine⟨fun q=>(by cases q),fun _=> ?_⟩
   rw[wJ,if_pos rfl] at h
   refine Good.vr (l:=(CU M (.p (.ps M.fns.length 3 (M.fns.flatMap aB))) (.os (some 3) p.length 2 (p.flatMap aY)) (.os none 0 0 []) (.os none 0 0 []))) (l':=(CU M (.p (.ps M.fns.length 3 (M.fns.flatMap aB))) (.p (.ps M.gls.length 2 (M.gls.flatMap aY))) (.os none 0 0 []) (.os none 0 0 []))) (r:=[.tok]) YY ⟨FZ.refl _,FZ.refl _,FZ.refl _,FZ.refl _,FZ.refl _,hfz,FZ.refl _,FZ.refl _,FZ.refl _,FZ.refl _,FZ.refl _,trivial⟩ rfl rfl rfl h
theorem YZ {vs:List AV} {m:Mem}:iK (af Tryz.prog env 7 6 vs m 0 146)=true:=by kernel_rfl
theorem MC (M:Mo) (hl:M.els.length≤1000000) (hc : ∀x∈M.els,dU x.l≤1000000∧x.fs.length≤1000000) (o:Out) (p:List El) (hp:p.length≤1000000) (i:Nat) (x:El) (hx:M.els[i]? = some x) (h:Am.Good Tryz.prog env (wJ M (p++[x]) (i+1)) o):Am.Good Tryz.prog env (wJ M p i) o:=by
 have hi:i<M.els.length:=(List.getElem?_eq_some_iff.1 hx).1
 have hmem:=List.mem_of_getElem? hx
 have c:=aM (z:=2) (enc:=aJ) (fun _=>rfl) hx
 have gj:(M.els.flatMap aJ).getD (i*2+0) .bad=pL x.l:=c 0 (by decide)
 have hH:(M.els.flatMap aJ).getD (i*2+1) .bad=pT .u32 x.fs:=c 1 (by decide)
 have hL:dh=70368744177664:=rfl
 have fI:=(hc x hmem).2
 have w:IntKind.i64.wrap ((i:Int)+1)=((i+1:Nat):Int):=by rw[aD (by omega) (by omega)];rfl
 have hd:decide ((i:Int)<(M.els.length:Int))=true:=decide_eq_true (by omega)
 have hin:aG (i:Int) M.els.length=true:=by simp only[aG,Bool.and_eq_true,decide_eq_true_eq];omega
 unfold wJ at h ⊢
 by_cases e:p=[]
 · subst e
   rw[if_neg (by simp),List.nil_append] at h
   rw[if_pos rfl]
   refine aa names (CC M 0 i [] x.l) ?_
   simp only[AR,Tree.ok,isStr,isInt,aH,isBool,aN,au,aT,aq,aA,aj,Int.toNat_natCast,gj,hH,hd,hin,w,Nat.zero_add,List.nil_append,Bool.and_true,Bool.true_and]
   exact⟨fun _=>⟨ef _ x.l (Nat.le_refl _) ((hc x hmem).1),(by first | rfl | trivial | (simp only[Bool.and_eq_true,Bool.or_eq_true,Nat.ble_eq,Nat.beq_eq];omega) | (simp[Nat.ble_eq];omega)),h⟩,fun q=>(by cases q)⟩
 · rw[if_neg (by simp),List.length_append,List.flatMap_append] at h
   rw[if_neg e]
   refine aa names (CD M p.length i (p.flatMap aJ) x.l) ?_
   simp only[AS,Tree.ok,isStr,isInt,aH,isBool,aN,au,aT,aq,aA,aj,Int.toNat_natCast,gj,hH,hd,hin,w,Nat.zero_add,List.nil_append,Bool.and_true,Bool.true_and]
   exact⟨fun _=>⟨ef _ x.l (Nat.le_refl _) ((hc x hmem).1),(by first | rfl | trivial | (simp only[Bool.and_eq_true,Bool.or_eq_true,Nat.ble_eq,Nat.beq_eq];omega) | (simp[Nat.ble_eq];omega)),h⟩,fun q=>(by cases q)⟩
theorem P2 (M:Mo) (o:Out) (p:List El) (hp:p=M.els) (h:Am.Good Tryz.prog env (wK M [] 0) o):Am.Good Tryz.prog env (wJ M p M.els.length) o:=by
 have hd:decide ((M.els.length:Int)<(M.els.length:Int))=false:=decide_eq_false (by omega)
 unfold wJ
 by_cases e:p=[]
 · subst e
   have Bd:CR (.ps 0 0 []) (.ps M.els.length 2 (M.els.flatMap aJ)):=by rw[←hp];exact .nil
   rw[if_pos rfl]
   refine aa names (CC M 0 M.els.length [] []) ?_
   simp only[AR,Tree.ok,hd]
   refine⟨fun q=>(by cases q),fun _=> ?_⟩
   rw[wK,if_pos rfl] at h
   refine Good.vr (l:=(CU M (.p (.ps M.fns.length 3 (M.fns.flatMap aB))) (.p (.ps M.gls.length 2 (M.gls.flatMap aY))) (.os none 0 0 []) (.os none 0 0 []))) (l':=(CU M (.p (.ps M.fns.length 3 (M.fns.flatMap aB))) (.p (.ps M.gls.length 2 (M.gls.flatMap aY))) (.p (.ps M.els.length 2 (M.els.flatMap aJ))) (.os none 0 0 []))) (r:=[]) YZ ⟨FZ.refl _,FZ.refl _,FZ.refl _,FZ.refl _,FZ.refl _,FZ.refl _,FZ.refl _,FZ.refl _,FZ.refl _,(FZ.Vj (n:=0) (z:=0) Bd),FZ.refl _,trivial⟩ rfl rfl rfl h
 · rw[if_neg e]
   have hfz:FZ (.os (some 3) p.length 2 (p.flatMap aJ)) (.p (.ps M.els.length 2 (M.els.flatMap aJ))):=by rw[←hp];exact FZ.os
   refine aa names (CD M p.length M.els.length (p.flatMap aJ) []) ?_
   simp only[AS,Tree.ok,hd]
   refine⟨fun q=>(by cases q),fun _=> ?_⟩
   rw[wK,if_pos rfl] at h
   refine Good.vr (l:=(CU M (.p (.ps M.fns.length 3 (M.fns.flatMap aB))) (.p (.ps M.gls.length 2 (M.gls.flatMap aY))) (.os (some 3) p.length 2 (p.flatMap aJ)) (.os none 0 0 []))) (l':=(CU M (.p (.ps M.fns.length 3 (M.fns.flatMap aB))) (.p (.ps M.gls.length 2 (M.gls.flatMap aY))) (.p (.ps M.els.length 2 (M.els.flatMap aJ))) (.os none 0 0 []))) (r:=[.tok]) YZ ⟨FZ.refl _,FZ.refl _,FZ.refl _,FZ.refl _,FZ.refl _,FZ.refl _,FZ.refl _,FZ.refl _,FZ.refl _,hfz,FZ.refl _,trivial⟩ rfl rfl rfl h
noncomputable def wL (M:Mo) (p:List Da):Out:=
 if p=[] then .ret (.agg (CU M (.p (.ps M.fns.length 3 (M.fns.flatMap aB))) (.p (.ps M.gls.length 2 (M.gls.flatMap aY))) (.p (.ps M.els.length 2 (M.els.flatMap aJ))) (.os none 0 0 []))) [] else .ret (.agg (CU M (.p (.ps M.fns.length 3 (M.fns.flatMap aB))) (.p (.ps M.gls.length 2 (M.gls.flatMap aY))) (.p (.ps M.els.length 2 (M.els.flatMap aJ))) (.os (some 0) p.length 2 (p.flatMap aV)))) [.tok]
theorem MD (M:Mo) (hl:M.aW.length≤1000000) (hc : ∀x∈M.aW,dU x.l≤1000000∧x.bs.length≤1000000) (o:Out) (p:List Da) (hp:p.length≤1000000) (i:Nat) (x:Da) (hx:M.aW[i]? = some x) (h:Am.Good Tryz.prog env (wK M (p++[x]) (i+1)) o):Am.Good Tryz.prog env (wK M p i) o:=by
 have hi:i<M.aW.length:=(List.getElem?_eq_some_iff.1 hx).1
 have hmem:=List.mem_of_getElem? hx
 have c:=aM (z:=2) (enc:=aV) (fun _=>rfl) hx
 have gj:(M.aW.flatMap aV).getD (i*2+0) .bad=pL x.l:=c 0 (by decide)
 have hH:(M.aW.flatMap aV).getD (i*2+1) .bad=pT .u8 x.bs:=c 1 (by decide)
 have hL:dh=70368744177664:=rfl
 have fI:=(hc x hmem).2
 have w:IntKind.i64.wrap ((i:Int)+1)=((i+1:Nat):Int):=by rw[aD (by omega) (by omega)];rfl
 have hd:decide ((i:Int)<(M.aW.length:Int))=true:=decide_eq_true (by omega)
 have hin:aG (i:Int) M.aW.length=true:=by simp only[aG,Bool.and_eq_true,decide_eq_true_eq];omega
 unfold wK at h ⊢
 by_cases e:p=[]
 · subst e
   rw[if_neg (by simp),List.nil_append] at h
   rw[if_pos rfl]
   refine aa names (CE M 0 i [] x.l) ?_
   simp only[AT,Tree.ok,isStr,isInt,aH,isBool,aN,au,aT,aq,aA,aj,Int.toNat_natCast,gj,hH,hd,hin,w,Nat.zero_add,List.nil_append,Bool.and_true,Bool.true_and]
   exact⟨fun _=>⟨ef _ x.l (Nat.le_refl _) ((hc x hmem).1),(by first | rfl | trivial | (simp only[Bool.and_eq_true,Bool.or_eq_true,Nat.ble_eq,Nat.beq_eq];omega) | (simp[Nat.ble_eq];omega)),h⟩,fun q=>(by cases q)⟩
 · rw[if_neg (by simp),List.length_append,List.flatMap_append] at h
   rw[if_neg e]
   refine aa names (CF M p.length i (p.flatMap aV) x.l) ?_
   simp only[AU,Tree.ok,isStr,isInt,aH,isBool,aN,au,aT,aq,aA,aj,Int.toNat_natCast,gj,hH,hd,hin,w,Nat.zero_add,List.nil_append,Bool.and_true,Bool.true_and]
   exact⟨fun _=>⟨ef _ x.l (Nat.le_refl _) ((hc x hmem).1),(by first | rfl | trivial | (simp only[Bool.and_eq_true,Bool.or_eq_true,Nat.ble_eq,Nat.beq_eq];omega) | (simp[Nat.ble_eq];omega)),h⟩,fun q=>(by cases q)⟩
theorem P3 (M:Mo) (o:Out) (p:List Da) (hp:p=M.aW) (h:wL M p=o):Am.Good Tryz.prog env (wK M p M.aW.length) o:=by
 have hd:decide ((M.aW.length:Int)<(M.aW.length:Int))=false:=decide_eq_false (by omega)
 unfold wK
 by_cases e:p=[]
 · subst e
   rw[if_pos rfl]
   refine aa names (CE M 0 M.aW.length [] []) ?_
   rw[wL,if_pos rfl] at h
   simp only[AT,Tree.ok,hd]
   exact⟨fun q=>(by cases q),fun _=>⟨(by first | rfl | trivial),h⟩⟩
 · rw[if_neg e]
   refine aa names (CF M p.length M.aW.length (p.flatMap aV) []) ?_
   rw[wL,if_neg e] at h
   simp only[AU,Tree.ok,hd]
   exact⟨fun q=>(by cases q),fun _=>⟨(by first | rfl | trivial),h⟩⟩
def Vk (a b:AV):Prop:= ∀(g:Gh) (w:World) (v:Value),VA g w a v→VA {g with bE:=fun _=>none} w b v
theorem Vk.p {x y:PV} (h:CR x y):Vk (.p x) (.p y):=fun g w v hv=>by
 cases hv with
 |p _ _ hv=>exact .p _ _ (VP.mono (g:=g) (g':={g with bE:=fun _=>none}) (w:=w) (w':=w) (fun _ _ q=>⟨q,rfl⟩) (h _ _ _ hv))
theorem Vk.os {tok:Option Nat} {n z:Nat} {cs:List PV} {y:PV} (h:CR (.ps n z cs) y):Vk (.os tok n z cs) (.p y):=fun g w v hv=>by
 cases hv with
 |os _ _ _ _ a cap hv _=>exact .p _ _ (VP.mono (g:=g) (g':={g with bE:=fun _=>none}) (w:=w) (w':=w) (fun _ _ q=>⟨q,rfl⟩) (h _ _ _ hv))
theorem aa6 {l l':List AV} (h:bq Vk l l') (g:Gh) (w:World) : ∀{vs:List Value},cj g w l vs→cj {g with bE:=fun _=>none} w l' vs:=by
 induction l generalizing l' with
 |nil=>intro vs hv;cases l' with
  |nil=>cases vs with
   |nil=>trivial
   |cons _ _=>exact hv.elim
  |cons _ _=>exact h.elim
 |cons a l ih=>intro vs hv;cases l' with
  |nil=>exact h.elim
  |cons b l'=>cases vs with
   |nil=>exact hv.elim
   |cons v vs=>exact⟨h.1 g w v hv.1,ih h.2 hv.2⟩
theorem aC.QT {f:FuncId} {args l l':List AV} {m':Mem} (h:aC Tryz.prog env f args [] (.agg l) m') (hl:bq Vk l l'):aC Tryz.prog env f args [] (.agg l') []:=
 h.weak fun g w cv q=>by
   cases q with
   |agg _ cs hn hc=>exact VA.sD.2 (aa6 hl g w (bq.ct hn hc))
theorem aa7 {vs:List AV} {m:Mem}:iK (af Tryz.prog env 7 0 vs m 0 146)=true:=by kernel_rfl
theorem Ei (M:Mo) (hM:M.fit) (hn:M.HL):Am.Good Tryz.prog env (CG M [] 0) (wL M M.aW):=by
 have tk : ∀{α:Type} (l:List α) (i:Nat),l.length≤1000000→(l.take i).length≤1000000:=fun l i h=>by rw[List.length_take];omega
 have k4:Am.Good Tryz.prog env (wK M [] 0) (wL M M.aW):=AW (D:=wK M) (fun i x hx h=>MD M hM.aW hn.aW _ (M.aW.take i) (tk _ _ hM.aW) i x hx h) (P3 M _ M.aW rfl rfl) M.aW.length 0 (by omega)
 have k3:Am.Good Tryz.prog env (wJ M [] 0) (wL M M.aW):=AW (D:=wJ M) (fun i x hx h=>MC M hM.els hn.els _ (M.els.take i) (tk _ _ hM.els) i x hx h) (P2 M _ M.els rfl k4) M.els.length 0 (by omega)
 have k2:Am.Good Tryz.prog env (wI M [] 0) (wL M M.aW):=AW (D:=wI M) (fun i x hx h=>MB M hM.gls hn.gls _ (M.gls.take i) (tk _ _ hM.gls) i x hx h) (P1 M _ M.gls rfl k3) M.gls.length 0 (by omega)
 exact AW (D:=CG M) (fun i x hx h=>MA M hM.fns hn.fns _ (M.fns.take i) (tk _ _ hM.fns) i x hx h) (P0 M _ M.fns rfl k2) M.fns.length 0 (by omega)
set_option maxRecDepth 20000 in
theorem vu (M:Mo) (hM:M.fit) (hn:M.HL) {v:AV} {m':Mem} (e:wL M M.aW = .ret v m'):aC Tryz.prog env 7 [.agg (M.aE.map .p)] [] v m':=by
 have k:=Ei M hM hn
 rw[e,CG,if_pos rfl] at k
 have h1:=hM.tys;have h2:=hM.aI;have h3:=hM.bW;have h4:=hM.bX;have h5:=hM.exs
 have hL:dh=70368744177664:=rfl
 refine ah names (Mz M) ?_
 simp only[F1,Tree.ok,Nat.zero_add,List.nil_append]
 refine⟨(by simp[Nat.ble_eq];omega),(by simp[Nat.ble_eq];omega),(by simp[Nat.ble_eq];omega),(by simp[Nat.ble_eq];omega),(by simp[Nat.ble_eq];omega),?_⟩
 exact Good.vr (l:=[.os (some 3) M.tys.length 2 (M.tys.flatMap aZ),.os (some 4) M.aI.length 3 (M.aI.flatMap aQ),.os none 0 0 [],.os (some 5) M.bW.length 3 (M.bW.flatMap aF),.os (some 6) M.bX.length 3 (M.bX.flatMap aF),.os none 0 0 [],.os (some 7) M.exs.length 3 (M.exs.flatMap aP),sB M.st,sI .u32 M.sn,.os none 0 0 [],.os none 0 0 []])
  (l':=CU M (.os none 0 0 []) (.os none 0 0 []) (.os none 0 0 []) (.os none 0 0 [])) (r:=[.tok,.tok,.tok,.tok,.tok]) aa7 ⟨FZ.os,FZ.os,FZ.refl _,FZ.os,FZ.os,FZ.refl _,FZ.os,FZ.refl _,FZ.refl _,FZ.refl _,FZ.refl _,trivial⟩ rfl rfl rfl k
theorem Ej (M:Mo) (hM:M.fit) (hn:M.HL):aC Tryz.prog env 7 [.agg (M.aE.map .p)] [] (.agg (M.aE.map .p)) []:=by
 have rf : ∀x:PV,Vk (.p x) (.p x):=fun x=> .p (.refl _)
 by_cases e:M.aW=[]
 · have h:=vu M hM hn (by rw[wL,if_pos e])
   refine aC.QT h ⟨rf _,rf _,rf _,rf _,rf _,rf _,rf _,rf _,rf _,rf _,?_,trivial⟩
   rw[e]
   exact .os .nil
 · have h:=vu M hM hn (by rw[wL,if_neg e])
   exact aC.QT h ⟨rf _,rf _,rf _,rf _,rf _,rf _,rf _,rf _,rf _,rf _,.os (.refl _),trivial⟩
theorem P4 {M:Mo} (h:l8 M=false):M.HL:=by
 unfold l8 at h
 split at h
 · cases h
 rename_i q
 have h : ¬Ho M>5000:=by simpa using h
 have q:lens M≤5000:=by omega
 have q':=q
 unfold lens at q'
 have r1:=bQ yl M.fns (lens M)
 have r2:=bQ ym M.gls (bG mK (lens M) M.fns)
 have r3:=bQ yp M.els (bG pG (bG mK (lens M) M.fns) M.gls)
 have r4:=bQ yq M.aW (bG vQ (bG pG (bG mK (lens M) M.fns) M.gls) M.els)
 have r5:=bQ FK M.aI (bG CT (bG vQ (bG pG (bG mK (lens M) M.fns) M.gls) M.els) M.aW)
 have r6:=bQ Lw M.exs (bG Nj (bG CT (bG vQ (bG pG (bG mK (lens M) M.fns) M.gls) M.els) M.aW) M.aI)
 unfold Ho at h
 have hl:0≤lens M:=by unfold lens;omega
 have cnt : ∀l:List Ins,bZ l 5000 0≤5000→dU l≤1000000:=fun l hl=>by
  have:=lV l 5000 0 (by decide) (by decide) hl
  omega
 have rng : ∀l:List Ins,0≤bZ l 5000 0:=fun l=>(bO l 5000 0 (by decide) (by decide) (by decide)).1
 refine⟨fun x hx=> ?_,fun x hx=> ?_,fun x hx=> ?_,fun x hx=> ?_⟩
 · have:=hG yl M.fns (lens M) x hx
   exact cnt _ (by have e:mK x=bZ x.l 5000 0:=rfl;omega)
 · have:=hG ym M.gls (bG mK (lens M) M.fns) x hx
   exact cnt _ (by have e:pG x=bZ x.l 5000 0:=rfl;omega)
 · have:=hG yp M.els (bG pG (bG mK (lens M) M.fns) M.gls) x hx
   have e:vQ x=bZ x.l 5000 0+min (x.fs.length:Int) 5000:=rfl
   have hp:0<M.els.length:=List.length_pos_of_mem hx
   have:=rng x.l
   have hs:1≤lens M:=by unfold lens;omega
   exact⟨cnt _ (by omega),by omega⟩
 · have:=hG yq M.aW (bG vQ (bG pG (bG mK (lens M) M.fns) M.gls) M.els) x hx
   have e:CT x=bZ x.l 5000 0+min (x.bs.length:Int) 5000:=rfl
   have hp:0<M.aW.length:=List.length_pos_of_mem hx
   have:=rng x.l
   have hs:1≤lens M:=by unfold lens;omega
   exact⟨cnt _ (by omega),by omega⟩
end Go.Proofs.YtdmmllcjgjmbbaaGreatDoor.N
end
