import Derived.Test.YtncncijedmfpjaaGreatDoorMX
import Derived.Test.YtncncijedmfpjaaGreatDoorMP
open Go.Proofs.Tryz renaming prog→ae
open List renaming flatMap→ajO,nil_append→Hm,getElem?_eq_some_iff→dT,mem_of_getElem?→mv,flatMap_append→ajT,length_append→dC,length_pos_of_mem→amC
open Go.IntKind renaming i64→re
open Option renaming none→ae1,some→ae2
open Nat renaming ble_eq→ajp,zero_add→pn,le_refl→c9,beq_eq→fi,ble→bc
open Bool renaming and_eq_true→di,or_eq_true→iu,and_true→ajQ,true_and→ajX
open Int renaming toNat_natCast→afm
noncomputable section
section
set_option linter.unusedSimpArgs false
set_option linter.unusedVariables false
namespace Go.Proofs.YtncncijedmfpjaaGreatDoor.N
open Go Go.Am
def zsO:List AV:=[.os none 0 0 [],.os none 0 0 [],.os none 0 0 [],.os none 0 0 [],.os none 0 0 [],.os none 0 0 [],.os none 0 0 [],sB false,sI .u32 0,.os none 0 0 [],.os none 0 0 []]
def HN (M:Mo) (f g e d:AV):List AV:=[.p (.ps M.tys.length 2 (M.tys.flatMap bK)),.p (.ps M.aX.length 3 (M.aX.flatMap bh)),f,.p (.ps M.b8.length 3 (M.b8.flatMap aF)),.p (.ps M.b9.length 3 (M.b9.flatMap aF)),g,.p (.ps M.exs.length 3 (M.exs.flatMap bu)),sB M.st,sI .u32 M.sn,e,d]
def HO (M:Mo) (f g e d:AV):Mem:=[.pc M.aJ,.ac zsO,.ac (HN M f g e d)]
def cwC (M:Mo) (a i:Nat) (cs:List PV) (l:List Ins) (f:FuncId) (_:List AV) (m:Mem):Option (AV×Mem):=cond (Nat.beq f 23) (some (.p (pL l),m)) none
def cwQ (M:Mo) (a i:Nat) (cs:List PV) (l:List Ins) (k:Nat) (f:FuncId) (_:List AV) (m:Mem):Option (AV×Mem):=cond (Nat.beq f 23) (some (.p (pL l),m)) none
def ad2:bA:=aM aE aC [(10,0)] [] [(10,3,3),(10,4,3),(10,5,3),(10,6,3),(10,7,3)]
def aiY:Sc:= .fin
def Lm (M:Mo):aA:=
 (.must (((0+M.tys.length)*16).ble aR&&(0+M.tys.length).ble aR&&true)
 (.must (((0+M.aX.length)*40).ble aR&&(0+M.aX.length).ble aR&&true)
 (.must (((0+M.b8.length)*12).ble aR&&(0+M.b8.length).ble aR&&true)
 (.must (((0+M.b9.length)*12).ble aR&&(0+M.b9.length).ble aR&&true)
 (.must (((0+M.exs.length)*32).ble aR&&(0+M.exs.length).ble aR&&true)
 (.at (ah ae env 10 0 [.mp 0 0,.mp 1 0,.mp 2 0,sI .i64 0] ([.pc M.aJ,.ac [bB,bB,bB,bB,bB,bB,bB,sB false,sI .u32 0,bB,bB],.ac [.os (some 3) (0+M.tys.length) 2 ([]++ajO bK M.tys),.os (some 4) (0+M.aX.length) 3 ([]++ajO bh M.aX),bB,.os (some 5) (0+M.b8.length) 3 ([]++ajO aF M.b8),.os (some 6) (0+M.b9.length) 3 ([]++ajO aF M.b9),bB,.os (some 7) (0+M.exs.length) 3 ([]++ajO bu M.exs),.p (.sc (.bool M.st)),sI .u32 M.sn,bB,bB],.tok,.tok,.tok,.tok,.tok]) 0 146)))))))
theorem SZ (M:Mo):aI ae env ad2 1000000 10 ([AV.agg (List.map AV.p M.aJ)]) ([]) aiY=Lm M:=by kernel_rfl
def ad3 (M:Mo) (a:Nat) (i:Nat) (cs:List PV) (l:List Ins):bA:=aM (cwC M a i cs l) aC [(10,0),(10,2)] [(10,0,1)] [(10,15,3),(10,15,4)]
def aiZ:Sc:= .fin
def Em (M:Mo) (a:Nat) (i:Nat) (cs:List PV) (l:List Ins):aA:=
 (.test (decide ((↑i:Int)<(↑M.fns.length:Int)))
 (.must (aP (↑i:Int) M.fns.length&&true&&true)
 (.must (isInt re (aq (ajO aG M.fns) (aB i*3))&&(isInt re (aq (ajO aG M.fns) (aB i*3+1))&&(aO (aq (ajO aG M.fns) (aB i*3+1+1))&&true))&&true)
 (.call ⟨23,[.p (.ps (an (aq (ajO aG M.fns) (aB i*3+1+1))) (aD (aq (ajO aG M.fns) (aB i*3+1+1))) (ak (aq (ajO aG M.fns) (aB i*3+1+1))))],[],.p (.ps l.length 8 (aj l)),[]⟩
 (.at (ah ae env 10 0 [.mp 0 0,.mp 1 0,.mp 2 0,sI .i64 (re.wrap ((↑i:Int)+1))] ([.pc M.aJ,.ac [bB,bB,bB,bB,bB,bB,bB,sB false,sI .u32 0,bB,bB],.ac [.p (.ps M.tys.length 2 (ajO bK M.tys)),.p (.ps M.aX.length 3 (ajO bh M.aX)),.os (some 3) 1 3 [sP (au (aq (ajO aG M.fns) (aB i*3))),sP (au (aq (ajO aG M.fns) (aB i*3+1))),.ps l.length 8 (aj l)],.p (.ps M.b8.length 3 (ajO aF M.b8)),.p (.ps M.b9.length 3 (ajO aF M.b9)),bB,.p (.ps M.exs.length 3 (ajO bu M.exs)),.p (.sc (.bool M.st)),sI .u32 M.sn,bB,bB],.tok]) 0 146)))))
 (.at (ah ae env 10 2 [.mp 0 0,.mp 1 0,.mp 2 0,sI .i64 0] ([.pc M.aJ,.ac [bB,bB,bB,bB,bB,bB,bB,sB false,sI .u32 0,bB,bB],.ac [.p (.ps M.tys.length 2 (ajO bK M.tys)),.p (.ps M.aX.length 3 (ajO bh M.aX)),bB,.p (.ps M.b8.length 3 (ajO aF M.b8)),.p (.ps M.b9.length 3 (ajO aF M.b9)),bB,.p (.ps M.exs.length 3 (ajO bu M.exs)),.p (.sc (.bool M.st)),sI .u32 M.sn,bB,bB]]) 0 146)))
theorem Hu (M:Mo) (a:Nat) (i:Nat) (cs:List PV) (l:List Ins):grow ae env (ad3 M a i cs l) 1000000 true (ah ae env 10 0 ([AV.mp 0 0,AV.mp 1 0,AV.mp 2 0,sI re (↑i:Int)]) (HO M (AV.os ae1 0 0 []) (AV.os ae1 0 0 []) (AV.os ae1 0 0 []) (AV.os ae1 0 0 [])) 0 146) aiZ atEnd=Em M a i cs l:=by kernel_rfl
def ad4 (M:Mo) (a:Nat) (i:Nat) (cs:List PV) (l:List Ins):bA:=aM (cwC M a i cs l) aC [(10,0),(10,2)] [(10,0,1)] [(10,15,3),(10,15,4),(10,17,4)]
def ai0:Sc:= .fin
def En (M:Mo) (a:Nat) (i:Nat) (cs:List PV) (l:List Ins):aA:=
 (.test (decide ((↑i:Int)<(↑M.fns.length:Int)))
 (.must (aP (↑i:Int) M.fns.length&&true&&true)
 (.must (isInt re (aq (ajO aG M.fns) (aB i*3))&&(isInt re (aq (ajO aG M.fns) (aB i*3+1))&&(aO (aq (ajO aG M.fns) (aB i*3+1+1))&&true))&&true)
 (.call ⟨23,[.p (.ps (an (aq (ajO aG M.fns) (aB i*3+1+1))) (aD (aq (ajO aG M.fns) (aB i*3+1+1))) (ak (aq (ajO aG M.fns) (aB i*3+1+1))))],[],.p (.ps l.length 8 (aj l)),[]⟩
 (.must (((a+1)*40).ble aR&&(a+1).ble aR&&true)
 (.at (ah ae env 10 0 [.mp 0 0,.mp 1 0,.mp 2 0,sI .i64 (re.wrap ((↑i:Int)+1))] ([.pc M.aJ,.ac [bB,bB,bB,bB,bB,bB,bB,sB false,sI .u32 0,bB,bB],.ac [.p (.ps M.tys.length 2 (ajO bK M.tys)),.p (.ps M.aX.length 3 (ajO bh M.aX)),.os (some 3) (a+1) 3 (cs++[sP (au (aq (ajO aG M.fns) (aB i*3))),sP (au (aq (ajO aG M.fns) (aB i*3+1))),.ps l.length 8 (aj l)]),.p (.ps M.b8.length 3 (ajO aF M.b8)),.p (.ps M.b9.length 3 (ajO aF M.b9)),bB,.p (.ps M.exs.length 3 (ajO bu M.exs)),.p (.sc (.bool M.st)),sI .u32 M.sn,bB,bB],.tok]) 0 146))))))
 (.at (ah ae env 10 2 [.mp 0 0,.mp 1 0,.mp 2 0,sI .i64 0] ([.pc M.aJ,.ac [bB,bB,bB,bB,bB,bB,bB,sB false,sI .u32 0,bB,bB],.ac [.p (.ps M.tys.length 2 (ajO bK M.tys)),.p (.ps M.aX.length 3 (ajO bh M.aX)),.os (some 3) a 3 cs,.p (.ps M.b8.length 3 (ajO aF M.b8)),.p (.ps M.b9.length 3 (ajO aF M.b9)),bB,.p (.ps M.exs.length 3 (ajO bu M.exs)),.p (.sc (.bool M.st)),sI .u32 M.sn,bB,bB],.tok]) 0 146)))
theorem Hv (M:Mo) (a:Nat) (i:Nat) (cs:List PV) (l:List Ins):grow ae env (ad4 M a i cs l) 1000000 true (ah ae env 10 0 ([AV.mp 0 0,AV.mp 1 0,AV.mp 2 0,sI re (↑i:Int)]) (HO M (AV.os (ae2 3) a 3 cs) (AV.os ae1 0 0 []) (AV.os ae1 0 0 []) (AV.os ae1 0 0 [])++[bq.tok]) 0 146) ai0 atEnd=En M a i cs l:=by kernel_rfl
def ad5:bA:=aM aE aC [(10,2),(10,4)] [(10,0,3)] [(10,0,4)]
def ai1 (M:Mo) (a:Nat) (i:Nat) (cs:List PV) (l:List Ins):Sc:=(.fork (.z7 10 20 (cwQ M a i cs l 0) .fin) .fin)
def Eo (M:Mo) (a:Nat) (i:Nat) (cs:List PV) (l:List Ins):aA:=
 (.test (decide ((↑i:Int)<(↑M.gls.length:Int)))
 (.call ⟨23,[.p (.ps (an (aq (ajO bn M.gls) (aB i*2+1))) (aD (aq (ajO bn M.gls) (aB i*2+1))) (ak (aq (ajO bn M.gls) (aB i*2+1))))],[],.p (.ps l.length 8 (aj l)),[]⟩
 (.must (aP (↑i:Int) M.gls.length&&true&&true&&(isBool (aq (ajO bn M.gls) (aB i*2+0))&&true&&(aP (↑i:Int) M.gls.length&&true&&true&&(aO (aq (ajO bn M.gls) (aB i*2+1))&&true&&true)))&&true)
 (.at (ah ae env 10 2 [.mp 0 0,.mp 1 0,.mp 2 0,sI .i64 (re.wrap ((↑i:Int)+1))] ([.pc M.aJ,.ac [bB,bB,bB,bB,bB,bB,bB,sB false,sI .u32 0,bB,bB],.ac [.p (.ps M.tys.length 2 (ajO bK M.tys)),.p (.ps M.aX.length 3 (ajO bh M.aX)),.p (.ps M.fns.length 3 (ajO aG M.fns)),.p (.ps M.b8.length 3 (ajO aF M.b8)),.p (.ps M.b9.length 3 (ajO aF M.b9)),.os (some 3) 1 2 [.sc (.bool (bf (aq (ajO bn M.gls) (aB i*2+0)))),.ps l.length 8 (aj l)],.p (.ps M.exs.length 3 (ajO bu M.exs)),.p (.sc (.bool M.st)),sI .u32 M.sn,bB,bB],.tok]) 0 146))))
 (.at (ah ae env 10 4 [.mp 0 0,.mp 1 0,.mp 2 0,sI .i64 0] ([.pc M.aJ,.ac [bB,bB,bB,bB,bB,bB,bB,sB false,sI .u32 0,bB,bB],.ac [.p (.ps M.tys.length 2 (ajO bK M.tys)),.p (.ps M.aX.length 3 (ajO bh M.aX)),.p (.ps M.fns.length 3 (ajO aG M.fns)),.p (.ps M.b8.length 3 (ajO aF M.b8)),.p (.ps M.b9.length 3 (ajO aF M.b9)),bB,.p (.ps M.exs.length 3 (ajO bu M.exs)),.p (.sc (.bool M.st)),sI .u32 M.sn,bB,bB]]) 0 146)))
theorem Hw (M:Mo) (a:Nat) (i:Nat) (cs:List PV) (l:List Ins):grow ae env ad5 1000000 true (ah ae env 10 2 ([AV.mp 0 0,AV.mp 1 0,AV.mp 2 0,sI re (↑i:Int)]) (HO M (AV.p (PV.ps M.fns.length 3 (ajO aG M.fns))) (AV.os ae1 0 0 []) (AV.os ae1 0 0 []) (AV.os ae1 0 0 [])) 0 146) (ai1 M a i cs l) atEnd=Eo M a i cs l:=by kernel_rfl
def ad6:bA:=aM aE aC [(10,2),(10,4)] [(10,0,3)] [(10,0,4)]
def ai2 (M:Mo) (a:Nat) (i:Nat) (cs:List PV) (l:List Ins):Sc:=(.fork (.z7 10 20 (cwQ M a i cs l 0) .fin) .fin)
def Ep (M:Mo) (a:Nat) (i:Nat) (cs:List PV) (l:List Ins):aA:=
 (.test (decide ((↑i:Int)<(↑M.gls.length:Int)))
 (.call ⟨23,[.p (.ps (an (aq (ajO bn M.gls) (aB i*2+1))) (aD (aq (ajO bn M.gls) (aB i*2+1))) (ak (aq (ajO bn M.gls) (aB i*2+1))))],[],.p (.ps l.length 8 (aj l)),[]⟩
 (.must (aP (↑i:Int) M.gls.length&&true&&true&&(isBool (aq (ajO bn M.gls) (aB i*2+0))&&true&&(aP (↑i:Int) M.gls.length&&true&&true&&(aO (aq (ajO bn M.gls) (aB i*2+1))&&true&&(((a+1)*32).ble aR&&(a+1).ble aR&&true&&true))))&&true)
 (.at (ah ae env 10 2 [.mp 0 0,.mp 1 0,.mp 2 0,sI .i64 (re.wrap ((↑i:Int)+1))] ([.pc M.aJ,.ac [bB,bB,bB,bB,bB,bB,bB,sB false,sI .u32 0,bB,bB],.ac [.p (.ps M.tys.length 2 (ajO bK M.tys)),.p (.ps M.aX.length 3 (ajO bh M.aX)),.p (.ps M.fns.length 3 (ajO aG M.fns)),.p (.ps M.b8.length 3 (ajO aF M.b8)),.p (.ps M.b9.length 3 (ajO aF M.b9)),.os (some 3) (a+1) 2 (cs++[.sc (.bool (bf (aq (ajO bn M.gls) (aB i*2+0)))),.ps l.length 8 (aj l)]),.p (.ps M.exs.length 3 (ajO bu M.exs)),.p (.sc (.bool M.st)),sI .u32 M.sn,bB,bB],.tok]) 0 146))))
 (.at (ah ae env 10 4 [.mp 0 0,.mp 1 0,.mp 2 0,sI .i64 0] ([.pc M.aJ,.ac [bB,bB,bB,bB,bB,bB,bB,sB false,sI .u32 0,bB,bB],.ac [.p (.ps M.tys.length 2 (ajO bK M.tys)),.p (.ps M.aX.length 3 (ajO bh M.aX)),.p (.ps M.fns.length 3 (ajO aG M.fns)),.p (.ps M.b8.length 3 (ajO aF M.b8)),.p (.ps M.b9.length 3 (ajO aF M.b9)),.os (some 3) a 2 cs,.p (.ps M.exs.length 3 (ajO bu M.exs)),.p (.sc (.bool M.st)),sI .u32 M.sn,bB,bB],.tok]) 0 146)))
theorem Hx (M:Mo) (a:Nat) (i:Nat) (cs:List PV) (l:List Ins):grow ae env ad6 1000000 true (ah ae env 10 2 ([AV.mp 0 0,AV.mp 1 0,AV.mp 2 0,sI re (↑i:Int)]) (HO M (AV.p (PV.ps M.fns.length 3 (ajO aG M.fns))) (AV.os (ae2 3) a 2 cs) (AV.os ae1 0 0 []) (AV.os ae1 0 0 [])++[bq.tok]) 0 146) (ai2 M a i cs l) atEnd=Ep M a i cs l:=by kernel_rfl
def ad7:bA:=aM aE aC [(10,4),(10,6)] [(10,0,5)] [(10,0,6)]
def ai3 (M:Mo) (a:Nat) (i:Nat) (cs:List PV) (l:List Ins):Sc:=(.fork (.z7 10 24 (cwQ M a i cs l 0) .fin) .fin)
def Er (M:Mo) (a:Nat) (i:Nat) (cs:List PV) (l:List Ins):aA:=
 (.test (decide ((↑i:Int)<(↑M.els.length:Int)))
 (.call ⟨23,[.p (.ps (an (aq (ajO aN M.els) (aB i*2+0))) (aD (aq (ajO aN M.els) (aB i*2+0))) (ak (aq (ajO aN M.els) (aB i*2+0))))],[],.p (.ps l.length 8 (aj l)),[]⟩
 (.must (aP (↑i:Int) M.els.length&&true&&true&&(aO (aq (ajO aN M.els) (aB i*2+0))&&true&&(aP (↑i:Int) M.els.length&&true&&true&&(aO (aq (ajO aN M.els) (aB i*2+1))&&true&&(((aD (aq (ajO aN M.els) (aB i*2+1))).beq 1||(an (aq (ajO aN M.els) (aB i*2+1))).beq 0&&bc 1 1)&&true&&true&&true&&((0+an (aq (ajO aN M.els) (aB i*2+1)))*4).ble aR&&(0+an (aq (ajO aN M.els) (aB i*2+1))).ble aR&&true&&true))))&&true)
 (.at (ah ae env 10 4 [.mp 0 0,.mp 1 0,.mp 2 0,sI .i64 (re.wrap ((↑i:Int)+1))] ([.pc M.aJ,.ac [bB,bB,bB,bB,bB,bB,bB,sB false,sI .u32 0,bB,bB],.ac [.p (.ps M.tys.length 2 (ajO bK M.tys)),.p (.ps M.aX.length 3 (ajO bh M.aX)),.p (.ps M.fns.length 3 (ajO aG M.fns)),.p (.ps M.b8.length 3 (ajO aF M.b8)),.p (.ps M.b9.length 3 (ajO aF M.b9)),.p (.ps M.gls.length 2 (ajO bn M.gls)),.p (.ps M.exs.length 3 (ajO bu M.exs)),.p (.sc (.bool M.st)),sI .u32 M.sn,.os (some 3) 1 2 [.ps l.length 8 (aj l),.ps (0+an (aq (ajO aN M.els) (aB i*2+1))) 1 ([]++ak (aq (ajO aN M.els) (aB i*2+1)))],bB],.tok]) 0 146))))
 (.at (ah ae env 10 6 [.mp 0 0,.mp 1 0,.mp 2 0,sI .i64 0] ([.pc M.aJ,.ac [bB,bB,bB,bB,bB,bB,bB,sB false,sI .u32 0,bB,bB],.ac [.p (.ps M.tys.length 2 (ajO bK M.tys)),.p (.ps M.aX.length 3 (ajO bh M.aX)),.p (.ps M.fns.length 3 (ajO aG M.fns)),.p (.ps M.b8.length 3 (ajO aF M.b8)),.p (.ps M.b9.length 3 (ajO aF M.b9)),.p (.ps M.gls.length 2 (ajO bn M.gls)),.p (.ps M.exs.length 3 (ajO bu M.exs)),.p (.sc (.bool M.st)),sI .u32 M.sn,bB,bB]]) 0 146)))
theorem Hy (M:Mo) (a:Nat) (i:Nat) (cs:List PV) (l:List Ins):grow ae env ad7 1000000 true (ah ae env 10 4 ([AV.mp 0 0,AV.mp 1 0,AV.mp 2 0,sI re (↑i:Int)]) (HO M (AV.p (PV.ps M.fns.length 3 (ajO aG M.fns))) (AV.p (PV.ps M.gls.length 2 (ajO bn M.gls))) (AV.os ae1 0 0 []) (AV.os ae1 0 0 [])) 0 146) (ai3 M a i cs l) atEnd=Er M a i cs l:=by kernel_rfl
def ad8:bA:=aM aE aC [(10,4),(10,6)] [(10,0,5)] [(10,0,6)]
def ai4 (M:Mo) (a:Nat) (i:Nat) (cs:List PV) (l:List Ins):Sc:=(.fork (.z7 10 24 (cwQ M a i cs l 0) .fin) .fin)
def Es (M:Mo) (a:Nat) (i:Nat) (cs:List PV) (l:List Ins):aA:=
 (.test (decide ((↑i:Int)<(↑M.els.length:Int)))
 (.call ⟨23,[.p (.ps (an (aq (ajO aN M.els) (aB i*2+0))) (aD (aq (ajO aN M.els) (aB i*2+0))) (ak (aq (ajO aN M.els) (aB i*2+0))))],[],.p (.ps l.length 8 (aj l)),[]⟩
 (.must (aP (↑i:Int) M.els.length&&true&&true&&(aO (aq (ajO aN M.els) (aB i*2+0))&&true&&(aP (↑i:Int) M.els.length&&true&&true&&(aO (aq (ajO aN M.els) (aB i*2+1))&&true&&(((aD (aq (ajO aN M.els) (aB i*2+1))).beq 1||(an (aq (ajO aN M.els) (aB i*2+1))).beq 0&&bc 1 1)&&true&&true&&true&&((0+an (aq (ajO aN M.els) (aB i*2+1)))*4).ble aR&&(0+an (aq (ajO aN M.els) (aB i*2+1))).ble aR&&true&&(((a+1)*48).ble aR&&(a+1).ble aR&&true&&true)))))&&true)
 (.at (ah ae env 10 4 [.mp 0 0,.mp 1 0,.mp 2 0,sI .i64 (re.wrap ((↑i:Int)+1))] ([.pc M.aJ,.ac [bB,bB,bB,bB,bB,bB,bB,sB false,sI .u32 0,bB,bB],.ac [.p (.ps M.tys.length 2 (ajO bK M.tys)),.p (.ps M.aX.length 3 (ajO bh M.aX)),.p (.ps M.fns.length 3 (ajO aG M.fns)),.p (.ps M.b8.length 3 (ajO aF M.b8)),.p (.ps M.b9.length 3 (ajO aF M.b9)),.p (.ps M.gls.length 2 (ajO bn M.gls)),.p (.ps M.exs.length 3 (ajO bu M.exs)),.p (.sc (.bool M.st)),sI .u32 M.sn,.os (some 3) (a+1) 2 (cs++[.ps l.length 8 (aj l),.ps (0+an (aq (ajO aN M.els) (aB i*2+1))) 1 ([]++ak (aq (ajO aN M.els) (aB i*2+1)))]),bB],.tok]) 0 146))))
 (.at (ah ae env 10 6 [.mp 0 0,.mp 1 0,.mp 2 0,sI .i64 0] ([.pc M.aJ,.ac [bB,bB,bB,bB,bB,bB,bB,sB false,sI .u32 0,bB,bB],.ac [.p (.ps M.tys.length 2 (ajO bK M.tys)),.p (.ps M.aX.length 3 (ajO bh M.aX)),.p (.ps M.fns.length 3 (ajO aG M.fns)),.p (.ps M.b8.length 3 (ajO aF M.b8)),.p (.ps M.b9.length 3 (ajO aF M.b9)),.p (.ps M.gls.length 2 (ajO bn M.gls)),.p (.ps M.exs.length 3 (ajO bu M.exs)),.p (.sc (.bool M.st)),sI .u32 M.sn,.os (some 3) a 2 cs,bB],.tok]) 0 146)))
theorem Hz (M:Mo) (a:Nat) (i:Nat) (cs:List PV) (l:List Ins):grow ae env ad8 1000000 true (ah ae env 10 4 ([AV.mp 0 0,AV.mp 1 0,AV.mp 2 0,sI re (↑i:Int)]) (HO M (AV.p (PV.ps M.fns.length 3 (ajO aG M.fns))) (AV.p (PV.ps M.gls.length 2 (ajO bn M.gls))) (AV.os (ae2 3) a 2 cs) (AV.os ae1 0 0 [])++[bq.tok]) 0 146) (ai4 M a i cs l) atEnd=Es M a i cs l:=by kernel_rfl
def ad9:bA:=aM aE aC [(10,6)] [(10,0,7)] [(10,0,8)]
def ai5 (M:Mo) (a:Nat) (i:Nat) (cs:List PV) (l:List Ins):Sc:=(.fork (.z7 10 28 (cwQ M a i cs l 0) .fin) .fin)
def Et (M:Mo) (a:Nat) (i:Nat) (cs:List PV) (l:List Ins):aA:=
 (.test (decide ((↑i:Int)<(↑M.bp.length:Int)))
 (.call ⟨23,[.p (.ps (an (aq (ajO aZ M.bp) (aB i*2+0))) (aD (aq (ajO aZ M.bp) (aB i*2+0))) (ak (aq (ajO aZ M.bp) (aB i*2+0))))],[],.p (.ps l.length 8 (aj l)),[]⟩
 (.must (aP (↑i:Int) M.bp.length&&true&&true&&(aO (aq (ajO aZ M.bp) (aB i*2+0))&&true&&(aP (↑i:Int) M.bp.length&&true&&true&&(aO (aq (ajO aZ M.bp) (aB i*2+1))&&true&&(((aD (aq (ajO aZ M.bp) (aB i*2+1))).beq 1||(an (aq (ajO aZ M.bp) (aB i*2+1))).beq 0&&bc 1 1)&&true&&true&&true&&((0+an (aq (ajO aZ M.bp) (aB i*2+1)))*1).ble aR&&(0+an (aq (ajO aZ M.bp) (aB i*2+1))).ble aR&&true&&true))))&&true)
 (.at (ah ae env 10 6 [.mp 0 0,.mp 1 0,.mp 2 0,sI .i64 (re.wrap ((↑i:Int)+1))] ([.pc M.aJ,.ac [bB,bB,bB,bB,bB,bB,bB,sB false,sI .u32 0,bB,bB],.ac [.p (.ps M.tys.length 2 (ajO bK M.tys)),.p (.ps M.aX.length 3 (ajO bh M.aX)),.p (.ps M.fns.length 3 (ajO aG M.fns)),.p (.ps M.b8.length 3 (ajO aF M.b8)),.p (.ps M.b9.length 3 (ajO aF M.b9)),.p (.ps M.gls.length 2 (ajO bn M.gls)),.p (.ps M.exs.length 3 (ajO bu M.exs)),.p (.sc (.bool M.st)),sI .u32 M.sn,.p (.ps M.els.length 2 (ajO aN M.els)),.os (some 3) 1 2 [.ps l.length 8 (aj l),.ps (0+an (aq (ajO aZ M.bp) (aB i*2+1))) 1 ([]++ak (aq (ajO aZ M.bp) (aB i*2+1)))]],.tok]) 0 146))))
 (.must true
 (.out (.ret (.agg [.p (.ps M.tys.length 2 (ajO bK M.tys)),.p (.ps M.aX.length 3 (ajO bh M.aX)),.p (.ps M.fns.length 3 (ajO aG M.fns)),.p (.ps M.b8.length 3 (ajO aF M.b8)),.p (.ps M.b9.length 3 (ajO aF M.b9)),.p (.ps M.gls.length 2 (ajO bn M.gls)),.p (.ps M.exs.length 3 (ajO bu M.exs)),.p (.sc (.bool M.st)),sI .u32 M.sn,.p (.ps M.els.length 2 (ajO aN M.els)),bB]) []))))
theorem HA (M:Mo) (a:Nat) (i:Nat) (cs:List PV) (l:List Ins):grow ae env ad9 1000000 true (ah ae env 10 6 ([AV.mp 0 0,AV.mp 1 0,AV.mp 2 0,sI re (↑i:Int)]) (HO M (AV.p (PV.ps M.fns.length 3 (ajO aG M.fns))) (AV.p (PV.ps M.gls.length 2 (ajO bn M.gls))) (AV.p (PV.ps M.els.length 2 (ajO aN M.els))) (AV.os ae1 0 0 [])) 0 146) (ai5 M a i cs l) atEnd=Et M a i cs l:=by kernel_rfl
def aea:bA:=aM aE aC [(10,6)] [(10,0,7)] [(10,0,8)]
def ai6 (M:Mo) (a:Nat) (i:Nat) (cs:List PV) (l:List Ins):Sc:=(.fork (.z7 10 28 (cwQ M a i cs l 0) .fin) .fin)
def Eu (M:Mo) (a:Nat) (i:Nat) (cs:List PV) (l:List Ins):aA:=
 (.test (decide ((↑i:Int)<(↑M.bp.length:Int)))
 (.call ⟨23,[.p (.ps (an (aq (ajO aZ M.bp) (aB i*2+0))) (aD (aq (ajO aZ M.bp) (aB i*2+0))) (ak (aq (ajO aZ M.bp) (aB i*2+0))))],[],.p (.ps l.length 8 (aj l)),[]⟩
 (.must (aP (↑i:Int) M.bp.length&&true&&true&&(aO (aq (ajO aZ M.bp) (aB i*2+0))&&true&&(aP (↑i:Int) M.bp.length&&true&&true&&(aO (aq (ajO aZ M.bp) (aB i*2+1))&&true&&(((aD (aq (ajO aZ M.bp) (aB i*2+1))).beq 1||(an (aq (ajO aZ M.bp) (aB i*2+1))).beq 0&&bc 1 1)&&true&&true&&true&&((0+an (aq (ajO aZ M.bp) (aB i*2+1)))*1).ble aR&&(0+an (aq (ajO aZ M.bp) (aB i*2+1))).ble aR&&true&&(((a+1)*48).ble aR&&(a+1).ble aR&&true&&true)))))&&true)
 (.at (ah ae env 10 6 [.mp 0 0,.mp 1 0,.mp 2 0,sI .i64 (re.wrap ((↑i:Int)+1))] ([.pc M.aJ,.ac [bB,bB,bB,bB,bB,bB,bB,sB false,sI .u32 0,bB,bB],.ac [.p (.ps M.tys.length 2 (ajO bK M.tys)),.p (.ps M.aX.length 3 (ajO bh M.aX)),.p (.ps M.fns.length 3 (ajO aG M.fns)),.p (.ps M.b8.length 3 (ajO aF M.b8)),.p (.ps M.b9.length 3 (ajO aF M.b9)),.p (.ps M.gls.length 2 (ajO bn M.gls)),.p (.ps M.exs.length 3 (ajO bu M.exs)),.p (.sc (.bool M.st)),sI .u32 M.sn,.p (.ps M.els.length 2 (ajO aN M.els)),.os (some 3) (a+1) 2 (cs++[.ps l.length 8 (aj l),.ps (0+an (aq (ajO aZ M.bp) (aB i*2+1))) 1 ([]++ak (aq (ajO aZ M.bp) (aB i*2+1)))])],.tok]) 0 146))))
 (.must true
 (.out (.ret (.agg [.p (.ps M.tys.length 2 (ajO bK M.tys)),.p (.ps M.aX.length 3 (ajO bh M.aX)),.p (.ps M.fns.length 3 (ajO aG M.fns)),.p (.ps M.b8.length 3 (ajO aF M.b8)),.p (.ps M.b9.length 3 (ajO aF M.b9)),.p (.ps M.gls.length 2 (ajO bn M.gls)),.p (.ps M.exs.length 3 (ajO bu M.exs)),.p (.sc (.bool M.st)),sI .u32 M.sn,.p (.ps M.els.length 2 (ajO aN M.els)),.os (some 0) a 2 cs]) [.tok]))))
theorem HB (M:Mo) (a:Nat) (i:Nat) (cs:List PV) (l:List Ins):grow ae env aea 1000000 true (ah ae env 10 6 ([AV.mp 0 0,AV.mp 1 0,AV.mp 2 0,sI re (↑i:Int)]) (HO M (AV.p (PV.ps M.fns.length 3 (ajO aG M.fns))) (AV.p (PV.ps M.gls.length 2 (ajO bn M.gls))) (AV.p (PV.ps M.els.length 2 (ajO aN M.els))) (AV.os (ae2 3) a 2 cs)++[bq.tok]) 0 146) (ai6 M a i cs l) atEnd=Eu M a i cs l:=by kernel_rfl
theorem FZ.aeb {n z:Nat} {y:PV} (h:HK (.ps 0 0 []) y):FZ (.os none 0 0 []) (.p y):=FZ.nil h
structure _root_.Go.Am.Mo.NL (M:Mo):Prop where
 fns : ∀x∈M.fns,cz x.l≤1000000
 gls : ∀x∈M.gls,cz x.l≤1000000
 els : ∀x∈M.els,cz x.l≤1000000∧x.fs.length≤1000000
 bp : ∀x∈M.bp,cz x.l≤1000000∧x.bs.length≤1000000
theorem Ew {α:Type} {l:List α} {D:List α→Nat→cm} {o:Out} (step : ∀(i:Nat) (x:α),l[i]? = some x→aU ae env (D (l.take i++[x]) (i+1)) o→aU ae env (D (l.take i) i) o)
  (fin:aU ae env (D l l.length) o) : ∀r i:Nat,i+r=l.length→aU ae env (D (l.take i) i) o:=by
 intro r
 induction r with
 |zero=>
  intro i hi
  obtain rfl:i=l.length:=by omega
  rw[List.take_length]
  exact fin
 |succ r ih=>
  intro i hi
  have hl:i<l.length:=by omega
  refine step i l[i] (List.getElem?_eq_getElem hl) ?_
  rw[←List.take_succ_eq_append_getElem hl]
  exact ih (i+1) (by omega)
def HC (M:Mo) (p:List Fu) (i:Nat):cm:=
 if p=[] then ah ae env 10 0 [.mp 0 0,.mp 1 0,.mp 2 0,sI .i64 i] (HO M (.os none 0 0 []) (.os none 0 0 []) (.os none 0 0 []) (.os none 0 0 [])) 0 146
 else ah ae env 10 0 [.mp 0 0,.mp 1 0,.mp 2 0,sI .i64 i] ((HO M (.os (some 3) p.length 3 (p.flatMap aG)) (.os none 0 0 []) (.os none 0 0 []) (.os none 0 0 []))++[.tok]) 0 146
def AJ (M:Mo) (p:List Gl) (i:Nat):cm:=
 if p=[] then ah ae env 10 2 [.mp 0 0,.mp 1 0,.mp 2 0,sI .i64 i] (HO M (.p (.ps M.fns.length 3 (M.fns.flatMap aG))) (.os none 0 0 []) (.os none 0 0 []) (.os none 0 0 [])) 0 146
 else ah ae env 10 2 [.mp 0 0,.mp 1 0,.mp 2 0,sI .i64 i] ((HO M (.p (.ps M.fns.length 3 (M.fns.flatMap aG))) (.os (some 3) p.length 2 (p.flatMap bn)) (.os none 0 0 []) (.os none 0 0 []))++[.tok]) 0 146
def AK (M:Mo) (p:List El) (i:Nat):cm:=
 if p=[] then ah ae env 10 4 [.mp 0 0,.mp 1 0,.mp 2 0,sI .i64 i] (HO M (.p (.ps M.fns.length 3 (M.fns.flatMap aG))) (.p (.ps M.gls.length 2 (M.gls.flatMap bn))) (.os none 0 0 []) (.os none 0 0 [])) 0 146
 else ah ae env 10 4 [.mp 0 0,.mp 1 0,.mp 2 0,sI .i64 i] ((HO M (.p (.ps M.fns.length 3 (M.fns.flatMap aG))) (.p (.ps M.gls.length 2 (M.gls.flatMap bn))) (.os (some 3) p.length 2 (p.flatMap aN)) (.os none 0 0 []))++[.tok]) 0 146
def AL (M:Mo) (p:List Da) (i:Nat):cm:=
 if p=[] then ah ae env 10 6 [.mp 0 0,.mp 1 0,.mp 2 0,sI .i64 i] (HO M (.p (.ps M.fns.length 3 (M.fns.flatMap aG))) (.p (.ps M.gls.length 2 (M.gls.flatMap bn))) (.p (.ps M.els.length 2 (M.els.flatMap aN))) (.os none 0 0 [])) 0 146
 else ah ae env 10 6 [.mp 0 0,.mp 1 0,.mp 2 0,sI .i64 i] ((HO M (.p (.ps M.fns.length 3 (M.fns.flatMap aG))) (.p (.ps M.gls.length 2 (M.gls.flatMap bn))) (.p (.ps M.els.length 2 (M.els.flatMap aN))) (.os (some 3) p.length 2 (p.flatMap aZ)))++[.tok]) 0 146
theorem ai7 {vs:List AV} {m:Mem}:gU (ah ae env 10 2 vs m 0 146)=true:=by kernel_rfl
theorem S0 (M:Mo) (hl:M.fns.length≤1000000) (hc : ∀x∈M.fns,cz x.l≤1000000) (o:Out) (p:List Fu) (hp:p.length≤1000000) (i:Nat) (x:Fu) (hx:M.fns[i]? = some x) (h:aU ae env (HC M (p++[x]) (i+1)) o):aU ae env (HC M p i) o:=by
 have hi:i<M.fns.length:=(dT.1 hx).1
 have hmem:=mv hx
 have c:=aW (z:=3) (enc:=aG) (fun _=>rfl) hx
 have ew:(M.fns.flatMap aG).getD (i*3) .bz = .sc (.int .i64 x.ty):=c 0 (by decide)
 have eD:(M.fns.flatMap aG).getD (i*3+1) .bz = .sc (.int .i64 x.lo):=c 1 (by decide)
 have gq:(M.fns.flatMap aG).getD (i*3+1+1) .bz=pL x.l:=c 2 (by decide)
 have hL:aR=70368744177664:=rfl
 have w:re.wrap ((i:Int)+1)=((i+1:Nat):Int):=by rw[aQ (by omega) (by omega)];rfl
 have hd:decide ((i:Int)<(M.fns.length:Int))=true:=decide_eq_true (by omega)
 have hin:aP (i:Int) M.fns.length=true:=by simp only[aP,di,decide_eq_true_eq];omega
 unfold HC at h ⊢
 by_cases e:p=[]
 · subst e
   rw[if_neg (by simp),Hm] at h
   rw[if_pos rfl]
   refine af aH (Hu M 0 i [] x.l) ?_
   simp only[Em,aV,aA.ok,isStr,isInt,aO,isBool,bg,au,bf,an,aD,ak,afm,ew,eD,gq,hd,hin,w,pn,Hm,ajQ,ajX]
   exact⟨fun _=>⟨(by first | rfl | trivial),(by first | rfl | trivial),fG _ x.l (c9 _) (hc x hmem),h⟩,fun q=>(by cases q)⟩
 · rw[if_neg (by simp),dC,ajT] at h
   rw[if_neg e]
   refine af aH (Hv M p.length i (p.flatMap aG) x.l) ?_
   simp only[En,aV,aA.ok,isStr,isInt,aO,isBool,bg,au,bf,an,aD,ak,afm,ew,eD,gq,hd,hin,w,pn,Hm,ajQ,ajX]
   exact⟨fun _=>⟨(by first | rfl | trivial),(by first | rfl | trivial),fG _ x.l (c9 _) (hc x hmem),(by first | rfl | trivial | (simp only[di,iu,ajp,fi];omega) | (simp[ajp];omega)),h⟩,fun q=>(by cases q)⟩
theorem XB (M:Mo) (o:Out) (p:List Fu) (hp:p=M.fns) (h:aU ae env (AJ M [] 0) o):aU ae env (HC M p M.fns.length) o:=by
 have hd:decide ((M.fns.length:Int)<(M.fns.length:Int))=false:=decide_eq_false (by omega)
 unfold HC
 by_cases e:p=[]
 · subst e
   have Ey:HK (.ps 0 0 []) (.ps M.fns.length 3 (M.fns.flatMap aG)):=by rw[←hp];exact .nil
   rw[if_pos rfl]
   refine af aH (Hu M 0 M.fns.length [] []) ?_
   simp only[Em,aV,aA.ok,hd]
   refine⟨fun q=>(by cases q),fun _=> ?_⟩
   rw[AJ,if_pos rfl] at h
   refine aU.zG (l:=(HN M (.os none 0 0 []) (.os none 0 0 []) (.os none 0 0 []) (.os none 0 0 []))) (l':=(HN M (.p (.ps M.fns.length 3 (M.fns.flatMap aG))) (.os none 0 0 []) (.os none 0 0 []) (.os none 0 0 []))) (r:=[]) ai7 ⟨FZ.refl _,FZ.refl _,(FZ.aeb (n:=0) (z:=0) Ey),FZ.refl _,FZ.refl _,FZ.refl _,FZ.refl _,FZ.refl _,FZ.refl _,FZ.refl _,FZ.refl _,trivial⟩ rfl rfl rfl h
 · rw[if_neg e]
   have hfz:FZ (.os (some 3) p.length 3 (p.flatMap aG)) (.p (.ps M.fns.length 3 (M.fns.flatMap aG))):=by rw[←hp];exact FZ.os
   refine af aH (Hv M p.length M.fns.length (p.flatMap aG) []) ?_
   simp only[En,aV,aA.ok,hd]
   refine⟨fun q=>(by cases q),fun _=> ?_⟩
   rw[AJ,if_pos rfl] at h
   refine aU.zG (l:=(HN M (.os (some 3) p.length 3 (p.flatMap aG)) (.os none 0 0 []) (.os none 0 0 []) (.os none 0 0 []))) (l':=(HN M (.p (.ps M.fns.length 3 (M.fns.flatMap aG))) (.os none 0 0 []) (.os none 0 0 []) (.os none 0 0 []))) (r:=[.tok]) ai7 ⟨FZ.refl _,FZ.refl _,hfz,FZ.refl _,FZ.refl _,FZ.refl _,FZ.refl _,FZ.refl _,FZ.refl _,FZ.refl _,FZ.refl _,trivial⟩ rfl rfl rfl h
theorem ai8 {vs:List AV} {m:Mem}:gU (ah ae env 10 4 vs m 0 146)=true:=by kernel_rfl
theorem S1 (M:Mo) (hl:M.gls.length≤1000000) (hc : ∀x∈M.gls,cz x.l≤1000000) (o:Out) (p:List Gl) (hp:p.length≤1000000) (i:Nat) (x:Gl) (hx:M.gls[i]? = some x) (h:aU ae env (AJ M (p++[x]) (i+1)) o):aU ae env (AJ M p i) o:=by
 have hi:i<M.gls.length:=(dT.1 hx).1
 have hmem:=mv hx
 have c:=aW (z:=2) (enc:=bn) (fun _=>rfl) hx
 have ew:(M.gls.flatMap bn).getD (i*2+0) .bz = .sc (.bool x.mu):=c 0 (by decide)
 have eD:(M.gls.flatMap bn).getD (i*2+1) .bz=pL x.l:=c 1 (by decide)
 have hL:aR=70368744177664:=rfl
 have w:re.wrap ((i:Int)+1)=((i+1:Nat):Int):=by rw[aQ (by omega) (by omega)];rfl
 have hd:decide ((i:Int)<(M.gls.length:Int))=true:=decide_eq_true (by omega)
 have hin:aP (i:Int) M.gls.length=true:=by simp only[aP,di,decide_eq_true_eq];omega
 unfold AJ at h ⊢
 by_cases e:p=[]
 · subst e
   rw[if_neg (by simp),Hm] at h
   rw[if_pos rfl]
   refine af aH (Hw M 0 i [] x.l) ?_
   simp only[Eo,aV,aA.ok,isStr,isInt,aO,isBool,bg,au,bf,an,aD,ak,afm,ew,eD,hd,hin,w,pn,Hm,ajQ,ajX]
   exact⟨fun _=>⟨fG _ x.l (c9 _) (hc x hmem),(by first | rfl | trivial | (simp only[di,iu,ajp,fi];omega) | (simp[ajp];omega)),h⟩,fun q=>(by cases q)⟩
 · rw[if_neg (by simp),dC,ajT] at h
   rw[if_neg e]
   refine af aH (Hx M p.length i (p.flatMap bn) x.l) ?_
   simp only[Ep,aV,aA.ok,isStr,isInt,aO,isBool,bg,au,bf,an,aD,ak,afm,ew,eD,hd,hin,w,pn,Hm,ajQ,ajX]
   exact⟨fun _=>⟨fG _ x.l (c9 _) (hc x hmem),(by first | rfl | trivial | (simp only[di,iu,ajp,fi];omega) | (simp[ajp];omega)),h⟩,fun q=>(by cases q)⟩
theorem XC (M:Mo) (o:Out) (p:List Gl) (hp:p=M.gls) (h:aU ae env (AK M [] 0) o):aU ae env (AJ M p M.gls.length) o:=by
 have hd:decide ((M.gls.length:Int)<(M.gls.length:Int))=false:=decide_eq_false (by omega)
 unfold AJ
 by_cases e:p=[]
 · subst e
   have Ey:HK (.ps 0 0 []) (.ps M.gls.length 2 (M.gls.flatMap bn)):=by rw[←hp];exact .nil
   rw[if_pos rfl]
   refine af aH (Hw M 0 M.gls.length [] []) ?_
   simp only[Eo,aV,aA.ok,hd]
   refine⟨fun q=>(by cases q),fun _=> ?_⟩
   rw[AK,if_pos rfl] at h
   refine aU.zG (l:=(HN M (.p (.ps M.fns.length 3 (M.fns.flatMap aG))) (.os none 0 0 []) (.os none 0 0 []) (.os none 0 0 []))) (l':=(HN M (.p (.ps M.fns.length 3 (M.fns.flatMap aG))) (.p (.ps M.gls.length 2 (M.gls.flatMap bn))) (.os none 0 0 []) (.os none 0 0 []))) (r:=[]) ai8 ⟨FZ.refl _,FZ.refl _,FZ.refl _,FZ.refl _,FZ.refl _,(FZ.aeb (n:=0) (z:=0) Ey),FZ.refl _,FZ.refl _,FZ.refl _,FZ.refl _,FZ.refl _,trivial⟩ rfl rfl rfl h
 · rw[if_neg e]
   have hfz:FZ (.os (some 3) p.length 2 (p.flatMap bn)) (.p (.ps M.gls.length 2 (M.gls.flatMap bn))):=by rw[←hp];exact FZ.os
   refine af aH (Hx M p.length M.gls.length (p.flatMap bn) []) ?_
   simp only[Ep,aV,aA.ok,hd]
   refine⟨fun q=>(by cases q),fun _=> ?_⟩
   rw[AK,if_pos rfl] at h
   refine aU.zG (l:=(HN M (.p (.ps M.fns.length 3 (M.fns.flatMap aG))) (.os (some 3) p.length 2 (p.flatMap bn)) (.os none 0 0 []) (.os none 0 0 []))) (l':=(HN M (.p (.ps M.fns.length 3 (M.fns.flatMap aG))) (.p (.ps M.gls.length 2 (M.gls.flatMap bn))) (.os none 0 0 []) (.os none 0 0 []))) (r:=[.tok]) ai8 ⟨FZ.refl _,FZ.refl _,FZ.refl _,FZ.refl _,FZ.refl _,hfz,FZ.refl _,FZ.refl _,FZ.refl _,FZ.refl _,FZ.refl _,trivial⟩ rfl rfl rfl h
theorem ai9 {vs:List AV} {m:Mem}:gU (ah ae env 10 6 vs m 0 146)=true:=by kernel_rfl
theorem S2 (M:Mo) (hl:M.els.length≤1000000) (hc : ∀x∈M.els,cz x.l≤1000000∧x.fs.length≤1000000) (o:Out) (p:List El) (hp:p.length≤1000000) (i:Nat) (x:El) (hx:M.els[i]? = some x) (h:aU ae env (AK M (p++[x]) (i+1)) o):aU ae env (AK M p i) o:=by
 have hi:i<M.els.length:=(dT.1 hx).1
 have hmem:=mv hx
 have c:=aW (z:=2) (enc:=aN) (fun _=>rfl) hx
 have ew:(M.els.flatMap aN).getD (i*2+0) .bz=pL x.l:=c 0 (by decide)
 have eD:(M.els.flatMap aN).getD (i*2+1) .bz=pT .u32 x.fs:=c 1 (by decide)
 have hL:aR=70368744177664:=rfl
 have gQ:=(hc x hmem).2
 have w:re.wrap ((i:Int)+1)=((i+1:Nat):Int):=by rw[aQ (by omega) (by omega)];rfl
 have hd:decide ((i:Int)<(M.els.length:Int))=true:=decide_eq_true (by omega)
 have hin:aP (i:Int) M.els.length=true:=by simp only[aP,di,decide_eq_true_eq];omega
 unfold AK at h ⊢
 by_cases e:p=[]
 · subst e
   rw[if_neg (by simp),Hm] at h
   rw[if_pos rfl]
   refine af aH (Hy M 0 i [] x.l) ?_
   simp only[Er,aV,aA.ok,isStr,isInt,aO,isBool,bg,au,bf,an,aD,ak,afm,ew,eD,hd,hin,w,pn,Hm,ajQ,ajX]
   exact⟨fun _=>⟨fG _ x.l (c9 _) ((hc x hmem).1),(by first | rfl | trivial | (simp only[di,iu,ajp,fi];omega) | (simp[ajp];omega)),h⟩,fun q=>(by cases q)⟩
 · rw[if_neg (by simp),dC,ajT] at h
   rw[if_neg e]
   refine af aH (Hz M p.length i (p.flatMap aN) x.l) ?_
   simp only[Es,aV,aA.ok,isStr,isInt,aO,isBool,bg,au,bf,an,aD,ak,afm,ew,eD,hd,hin,w,pn,Hm,ajQ,ajX]
   exact⟨fun _=>⟨fG _ x.l (c9 _) ((hc x hmem).1),(by first | rfl | trivial | (simp only[di,iu,ajp,fi];omega) | (simp[ajp];omega)),h⟩,fun q=>(by cases q)⟩
theorem XD (M:Mo) (o:Out) (p:List El) (hp:p=M.els) (h:aU ae env (AL M [] 0) o):aU ae env (AK M p M.els.length) o:=by
 have hd:decide ((M.els.length:Int)<(M.els.length:Int))=false:=decide_eq_false (by omega)
 unfold AK
 by_cases e:p=[]
 · subst e
   have Ey:HK (.ps 0 0 []) (.ps M.els.length 2 (M.els.flatMap aN)):=by rw[←hp];exact .nil
   rw[if_pos rfl]
   refine af aH (Hy M 0 M.els.length [] []) ?_
   simp only[Er,aV,aA.ok,hd]
   refine⟨fun q=>(by cases q),fun _=> ?_⟩
   rw[AL,if_pos rfl] at h
   refine aU.zG (l:=(HN M (.p (.ps M.fns.length 3 (M.fns.flatMap aG))) (.p (.ps M.gls.length 2 (M.gls.flatMap bn))) (.os none 0 0 []) (.os none 0 0 []))) (l':=(HN M (.p (.ps M.fns.length 3 (M.fns.flatMap aG))) (.p (.ps M.gls.length 2 (M.gls.flatMap bn))) (.p (.ps M.els.length 2 (M.els.flatMap aN))) (.os none 0 0 []))) (r:=[]) ai9 ⟨FZ.refl _,FZ.refl _,FZ.refl _,FZ.refl _,FZ.refl _,FZ.refl _,FZ.refl _,FZ.refl _,FZ.refl _,(FZ.aeb (n:=0) (z:=0) Ey),FZ.refl _,trivial⟩ rfl rfl rfl h
 · rw[if_neg e]
   have hfz:FZ (.os (some 3) p.length 2 (p.flatMap aN)) (.p (.ps M.els.length 2 (M.els.flatMap aN))):=by rw[←hp];exact FZ.os
   refine af aH (Hz M p.length M.els.length (p.flatMap aN) []) ?_
   simp only[Es,aV,aA.ok,hd]
   refine⟨fun q=>(by cases q),fun _=> ?_⟩
   rw[AL,if_pos rfl] at h
   refine aU.zG (l:=(HN M (.p (.ps M.fns.length 3 (M.fns.flatMap aG))) (.p (.ps M.gls.length 2 (M.gls.flatMap bn))) (.os (some 3) p.length 2 (p.flatMap aN)) (.os none 0 0 []))) (l':=(HN M (.p (.ps M.fns.length 3 (M.fns.flatMap aG))) (.p (.ps M.gls.length 2 (M.gls.flatMap bn))) (.p (.ps M.els.length 2 (M.els.flatMap aN))) (.os none 0 0 []))) (r:=[.tok]) ai9 ⟨FZ.refl _,FZ.refl _,FZ.refl _,FZ.refl _,FZ.refl _,FZ.refl _,FZ.refl _,FZ.refl _,FZ.refl _,hfz,FZ.refl _,trivial⟩ rfl rfl rfl h
def AM (M:Mo) (p:List Da):Out:=
 if p=[] then .ret (.agg (HN M (.p (.ps M.fns.length 3 (M.fns.flatMap aG))) (.p (.ps M.gls.length 2 (M.gls.flatMap bn))) (.p (.ps M.els.length 2 (M.els.flatMap aN))) (.os none 0 0 []))) [] else .ret (.agg (HN M (.p (.ps M.fns.length 3 (M.fns.flatMap aG))) (.p (.ps M.gls.length 2 (M.gls.flatMap bn))) (.p (.ps M.els.length 2 (M.els.flatMap aN))) (.os (some 0) p.length 2 (p.flatMap aZ)))) [.tok]
theorem S3 (M:Mo) (hl:M.bp.length≤1000000) (hc : ∀x∈M.bp,cz x.l≤1000000∧x.bs.length≤1000000) (o:Out) (p:List Da) (hp:p.length≤1000000) (i:Nat) (x:Da) (hx:M.bp[i]? = some x) (h:aU ae env (AL M (p++[x]) (i+1)) o):aU ae env (AL M p i) o:=by
 have hi:i<M.bp.length:=(dT.1 hx).1
 have hmem:=mv hx
 have c:=aW (z:=2) (enc:=aZ) (fun _=>rfl) hx
 have ew:(M.bp.flatMap aZ).getD (i*2+0) .bz=pL x.l:=c 0 (by decide)
 have eD:(M.bp.flatMap aZ).getD (i*2+1) .bz=pT .u8 x.bs:=c 1 (by decide)
 have hL:aR=70368744177664:=rfl
 have gQ:=(hc x hmem).2
 have w:re.wrap ((i:Int)+1)=((i+1:Nat):Int):=by rw[aQ (by omega) (by omega)];rfl
 have hd:decide ((i:Int)<(M.bp.length:Int))=true:=decide_eq_true (by omega)
 have hin:aP (i:Int) M.bp.length=true:=by simp only[aP,di,decide_eq_true_eq];omega
 unfold AL at h ⊢
 by_cases e:p=[]
 · subst e
   rw[if_neg (by simp),Hm] at h
   rw[if_pos rfl]
   refine af aH (HA M 0 i [] x.l) ?_
   simp only[Et,aV,aA.ok,isStr,isInt,aO,isBool,bg,au,bf,an,aD,ak,afm,ew,eD,hd,hin,w,pn,Hm,ajQ,ajX]
   exact⟨fun _=>⟨fG _ x.l (c9 _) ((hc x hmem).1),(by first | rfl | trivial | (simp only[di,iu,ajp,fi];omega) | (simp[ajp];omega)),h⟩,fun q=>(by cases q)⟩
 · rw[if_neg (by simp),dC,ajT] at h
   rw[if_neg e]
   refine af aH (HB M p.length i (p.flatMap aZ) x.l) ?_
   simp only[Eu,aV,aA.ok,isStr,isInt,aO,isBool,bg,au,bf,an,aD,ak,afm,ew,eD,hd,hin,w,pn,Hm,ajQ,ajX]
   exact⟨fun _=>⟨fG _ x.l (c9 _) ((hc x hmem).1),(by first | rfl | trivial | (simp only[di,iu,ajp,fi];omega) | (simp[ajp];omega)),h⟩,fun q=>(by cases q)⟩
theorem XE (M:Mo) (o:Out) (p:List Da) (hp:p=M.bp) (h:AM M p=o):aU ae env (AL M p M.bp.length) o:=by
 have hd:decide ((M.bp.length:Int)<(M.bp.length:Int))=false:=decide_eq_false (by omega)
 unfold AL
 by_cases e:p=[]
 · subst e
   rw[if_pos rfl]
   refine af aH (HA M 0 M.bp.length [] []) ?_
   rw[AM,if_pos rfl] at h
   simp only[Et,aV,aA.ok,hd]
   exact⟨fun q=>(by cases q),fun _=>⟨(by first | rfl | trivial),h⟩⟩
 · rw[if_neg e]
   refine af aH (HB M p.length M.bp.length (p.flatMap aZ) []) ?_
   rw[AM,if_neg e] at h
   simp only[Eu,aV,aA.ok,hd]
   exact⟨fun q=>(by cases q),fun _=>⟨(by first | rfl | trivial),h⟩⟩
def Wle (a b:AV):Prop:= ∀(g:Gh) (w:World) (v:Value),VA g w a v→VA {g with bX:=fun _=>none} w b v
theorem Wle.p {x y:PV} (h:HK x y):Wle (.p x) (.p y):=fun g w v hv=>by
 cases hv with
 |p _ _ hv=>exact .p _ _ (VP.mono (g:=g) (g':={g with bX:=fun _=>none}) (w:=w) (w':=w) (fun _ _ q=>⟨q,rfl⟩) (h _ _ _ hv))
theorem Wle.os {tok:Option Nat} {n z:Nat} {cs:List PV} {y:PV} (h:HK (.ps n z cs) y):Wle (.os tok n z cs) (.p y):=fun g w v hv=>by
 cases hv with
 |os _ _ _ _ a cap hv _=>exact .p _ _ (VP.mono (g:=g) (g':={g with bX:=fun _=>none}) (w:=w) (w':=w) (fun _ _ q=>⟨q,rfl⟩) (h _ _ _ hv))
theorem amA {l l':List AV} (h:bP Wle l l') (g:Gh) (w:World) : ∀{vs:List Value},dj g w l vs→dj {g with bX:=fun _=>none} w l' vs:=by
 induction l generalizing l' with
 |nil=>intro vs hv;cases l' with
  |nil=>cases vs with
   |nil=>trivial
   |cons _ _=>exact hv.elim
  |cons _ _=>exact h.elim
 |cons a l ih=>intro vs hv;cases l' with
  |nil=>exact h.elim
  |cons b l'=>cases vs with
   |nil=>exact hv.elim
   |cons v vs=>exact⟨h.1 g w v hv.1,ih h.2 hv.2⟩
theorem az.Yt {f:FuncId} {args l l':List AV} {m':Mem} (h:az ae env f args [] (.agg l) m') (hl:bP Wle l l'):az ae env f args [] (.agg l') []:=
 h.weak fun g w cv q=>by
   cases q with
   |agg _ cs hn hc=>exact VA.wD.2 (amA hl g w (bP.cY hn hc))
theorem amB {vs:List AV} {m:Mem}:gU (ah ae env 10 0 vs m 0 146)=true:=by kernel_rfl
theorem Jx (M:Mo) (hM:M.fit) (hn:M.NL):aU ae env (HC M [] 0) (AM M M.bp):=by
 have tk : ∀{α:Type} (l:List α) (i:Nat),l.length≤1000000→(l.take i).length≤1000000:=fun l i h=>by rw[List.length_take];omega
 have k4:aU ae env (AL M [] 0) (AM M M.bp):=Ew (D:=AL M) (fun i x hx h=>S3 M hM.bp hn.bp _ (M.bp.take i) (tk _ _ hM.bp) i x hx h) (XE M _ M.bp rfl rfl) M.bp.length 0 (by omega)
 have k3:aU ae env (AK M [] 0) (AM M M.bp):=Ew (D:=AK M) (fun i x hx h=>S2 M hM.els hn.els _ (M.els.take i) (tk _ _ hM.els) i x hx h) (XD M _ M.els rfl k4) M.els.length 0 (by omega)
 have k2:aU ae env (AJ M [] 0) (AM M M.bp):=Ew (D:=AJ M) (fun i x hx h=>S1 M hM.gls hn.gls _ (M.gls.take i) (tk _ _ hM.gls) i x hx h) (XC M _ M.gls rfl k3) M.gls.length 0 (by omega)
 exact Ew (D:=HC M) (fun i x hx h=>S0 M hM.fns hn.fns _ (M.fns.take i) (tk _ _ hM.fns) i x hx h) (XB M _ M.fns rfl k2) M.fns.length 0 (by omega)
set_option maxRecDepth 20000 in
theorem zH (M:Mo) (hM:M.fit) (hn:M.NL) {v:AV} {m':Mem} (e:AM M M.bp = .ret v m'):az ae env 10 [.agg (M.aJ.map .p)] [] v m':=by
 have k:=Jx M hM hn
 rw[e,HC,if_pos rfl] at k
 have h1:=hM.tys;have h2:=hM.aX;have h3:=hM.b8;have h4:=hM.b9;have h5:=hM.exs
 have hL:aR=70368744177664:=rfl
 refine aa aH (SZ M) ?_
 simp only[Lm,aV,aA.ok,pn,Hm]
 refine⟨(by simp[ajp];omega),(by simp[ajp];omega),(by simp[ajp];omega),(by simp[ajp];omega),(by simp[ajp];omega),?_⟩
 exact aU.zG (l:=[.os (some 3) M.tys.length 2 (M.tys.flatMap bK),.os (some 4) M.aX.length 3 (M.aX.flatMap bh),.os none 0 0 [],.os (some 5) M.b8.length 3 (M.b8.flatMap aF),.os (some 6) M.b9.length 3 (M.b9.flatMap aF),.os none 0 0 [],.os (some 7) M.exs.length 3 (M.exs.flatMap bu),sB M.st,sI .u32 M.sn,.os none 0 0 [],.os none 0 0 []])
  (l':=HN M (.os none 0 0 []) (.os none 0 0 []) (.os none 0 0 []) (.os none 0 0 [])) (r:=[.tok,.tok,.tok,.tok,.tok]) amB ⟨FZ.os,FZ.os,FZ.refl _,FZ.os,FZ.os,FZ.refl _,FZ.os,FZ.refl _,FZ.refl _,FZ.refl _,FZ.refl _,trivial⟩ rfl rfl rfl k
theorem Jy (M:Mo) (hM:M.fit) (hn:M.NL):az ae env 10 [.agg (M.aJ.map .p)] [] (.agg (M.aJ.map .p)) []:=by
 have rf : ∀x:PV,Wle (.p x) (.p x):=fun x=> .p (.refl _)
 by_cases e:M.bp=[]
 · have h:=zH M hM hn (by rw[AM,if_pos e])
   refine az.Yt h ⟨rf _,rf _,rf _,rf _,rf _,rf _,rf _,rf _,rf _,rf _,?_,trivial⟩
   rw[e]
   exact .os .nil
 · have h:=zH M hM hn (by rw[AM,if_neg e])
   exact az.Yt h ⟨rf _,rf _,rf _,rf _,rf _,rf _,rf _,rf _,rf _,rf _,.os (.refl _),trivial⟩
theorem Ln {M:Mo} (h:kN M=false):M.NL:=by
 unfold kN at h
 split at h
 · cases h
 rename_i q
 have h : ¬Ge M>5000:=by simpa using h
 have q:lens M≤5000:=by omega
 have q':=q
 unfold lens at q'
 have r1:=bY yO M.fns (lens M)
 have r2:=bY yP M.gls (bR mF (lens M) M.fns)
 have r3:=bY yQ M.els (bR pK (bR mF (lens M) M.fns) M.gls)
 have r4:=bY yR M.bp (bR ur (bR pK (bR mF (lens M) M.fns) M.gls) M.els)
 have r5:=bY BT M.aX (bR BS (bR ur (bR pK (bR mF (lens M) M.fns) M.gls) M.els) M.bp)
 have r6:=bY Gd M.exs (bR MD (bR BS (bR ur (bR pK (bR mF (lens M) M.fns) M.gls) M.els) M.bp) M.aX)
 unfold Ge at h
 have hl:0≤lens M:=by unfold lens;omega
 have cnt : ∀l:List Ins,dm l 5000 0≤5000→cz l≤1000000:=fun l hl=>by
  have:=oI l 5000 0 (by decide) (by decide) hl
  omega
 have rng : ∀l:List Ins,0≤dm l 5000 0:=fun l=>(cN l 5000 0 (by decide) (by decide) (by decide)).1
 refine⟨fun x hx=> ?_,fun x hx=> ?_,fun x hx=> ?_,fun x hx=> ?_⟩
 · have:=iD yO M.fns (lens M) x hx
   exact cnt _ (by have e:mF x=dm x.l 5000 0:=rfl;omega)
 · have:=iD yP M.gls (bR mF (lens M) M.fns) x hx
   exact cnt _ (by have e:pK x=dm x.l 5000 0:=rfl;omega)
 · have:=iD yQ M.els (bR pK (bR mF (lens M) M.fns) M.gls) x hx
   have e:ur x=dm x.l 5000 0+min (x.fs.length:Int) 5000:=rfl
   have hp:0<M.els.length:=amC hx
   have:=rng x.l
   have hs:1≤lens M:=by unfold lens;omega
   exact⟨cnt _ (by omega),by omega⟩
 · have:=iD yR M.bp (bR ur (bR pK (bR mF (lens M) M.fns) M.gls) M.els) x hx
   have e:BS x=dm x.l 5000 0+min (x.bs.length:Int) 5000:=rfl
   have hp:0<M.bp.length:=amC hx
   have:=rng x.l
   have hs:1≤lens M:=by unfold lens;omega
   exact⟨cnt _ (by omega),by omega⟩
end Go.Proofs.YtncncijedmfpjaaGreatDoor.N
end
