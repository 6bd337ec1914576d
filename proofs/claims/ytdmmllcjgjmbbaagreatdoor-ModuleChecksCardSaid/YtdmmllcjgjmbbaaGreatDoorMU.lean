/-
gimletkit.SameWasm: a module is the same as itself.
-/
import Derived.Test.YtdmmllcjgjmbbaaGreatDoorMT
section
set_option linter.unusedSimpArgs false
set_option linter.unusedVariables false
namespace Go.Proofs.YtdmmllcjgjmbbaaGreatDoor.N
open Go Go.Am
def Zv (M:Mo) (i:Nat) (k:Nat) (f:FuncId) (_:List AV) (m:Mem):Option (AV×Mem):=cond (Nat.beq f 80||Nat.beq f 81||Nat.beq f 37||Nat.beq f 38||Nat.beq f 82) (some (sB true,m)) none
def ME (l:List (Nat×Nat×AV)) (f d:Nat):Option AV:=match l with
 |[]=>none
 |(f',d',v)::r=>cond (Nat.beq f f'&&Nat.beq d d') (some v) (ME r f d)
def nI:Env:={env with told:=ME [(16,156,sB false),(38,66,sB false)]}
noncomputable def Vl:bu:=aK av az [(81,1)] [(81,0,0)] []
def Y0:Sc:= .fin
noncomputable def F2 (k:Nat) (cs:List PV):Tree:=
 (.test ((↑k:Int) != (↑k:Int))
 (.out (.ret (sB false) []))
 (.at (af Tryz.prog env 81 1 [.p (.ps k 1 cs),.p (.ps k 1 cs),sI .i64 0] ([]) 0 26)))
theorem MF (k:Nat) (cs:List PV):aR Tryz.prog env Vl 1000000 81 ([AV.p (PV.ps k 1 cs),AV.p (PV.ps k 1 cs)]) ([]) Y0=F2 k cs:=by kernel_rfl
noncomputable def Vm:bu:=aK av az [] [] [(82,2,1),(82,2,3)]
def Y1:Sc:= .fin
noncomputable def F3 (k:Nat) (cs:List PV):Tree:=
 (.must (cs.all isByte&&true)
 (.must (cs.all isByte&&true)
 (.out (.ret (.p (.sc (.bool ((ByteArray.mk (List.map Am.byteOf cs).toArray).data.toList==(ByteArray.mk (List.map Am.byteOf cs).toArray).data.toList)))) []))))
theorem MG (k:Nat) (cs:List PV):aR Tryz.prog env Vm 1000000 82 ([AV.p (PV.ps k 1 cs),AV.p (PV.ps k 1 cs)]) ([]) Y1=F3 k cs:=by kernel_rfl
noncomputable def Vn:bu:=aK av az [(80,1)] [(80,0,0)] []
def Y2:Sc:= .fin
noncomputable def F4 (l:List Ins):Tree:=
 (.test ((↑l.length:Int) != (↑l.length:Int))
 (.out (.ret (sB false) []))
 (.at (af Tryz.prog env 80 1 [.p (.ps l.length 8 (ak l)),.p (.ps l.length 8 (ak l)),sI .i64 0] ([]) 0 84)))
theorem MH (l:List Ins):aR Tryz.prog env Vn 1000000 80 ([aL l,aL l]) ([]) Y2=F4 l:=by kernel_rfl
noncomputable def Vo:bu:=aK av az [] [(37,2,6)] []
noncomputable def Y3 (lo:Int) (l:List Ins):Sc:=(.fork (.ans 80 (sB true) ([]) .fin) .fin)
noncomputable def F5 (lo:Int) (l:List Ins):Tree:=
 (.test (lo==lo)
 (.call ⟨80,[.p (.ps l.length 8 (ak l)),.p (.ps l.length 8 (ak l))],[],sB true,[]⟩
 (.out (.ret (sB true) [])))
 (.out (.ret (sB false) [])))
theorem MI (lo:Int) (l:List Ins):aR Tryz.prog env Vo 1000000 37 ([AV.agg [sI IntKind.i64 lo,aL l],AV.agg [sI IntKind.i64 lo,aL l]]) ([]) (Y3 lo l)=F5 lo l:=by kernel_rfl
noncomputable def Vp:bu:=aK av az [(16,1)] [(16,2,8),(16,2,17),(16,2,26),(16,2,35),(16,2,44),(16,2,53),(16,2,62),(16,2,69),(16,2,76),(16,2,85),(16,0,0)] []
def Y4:Sc:=(.fork (.lit (.lit (.lit (.lit (.lit (.lit (.lit (.lit (.lit (.lit .fin)))))))))) (.fork (.lit (.lit (.lit (.lit (.lit (.lit (.lit (.lit (.lit .fin))))))))) (.fork (.lit (.lit (.lit (.lit (.lit (.lit (.lit (.lit .fin)))))))) (.fork (.lit (.lit (.lit (.lit (.lit (.lit (.lit .fin))))))) (.fork (.lit (.lit (.lit (.lit (.lit (.lit .fin)))))) (.fork (.lit (.lit (.lit (.lit (.lit .fin))))) (.fork (.lit (.lit (.lit (.lit .fin)))) (.fork (.lit (.lit (.lit .fin))) (.fork (.lit (.lit .fin)) (.fork (.lit .fin) .fin))))))))))
noncomputable def F6 (M:Mo):Tree:=
 (.test ((↑M.tys.length:Int) != (↑M.tys.length:Int))
 (.out (.ret (sB false) []))
 (.test ((↑M.aI.length:Int) != (↑M.aI.length:Int))
 (.out (.ret (sB false) []))
 (.test ((↑M.fns.length:Int) != (↑M.fns.length:Int))
 (.out (.ret (sB false) []))
 (.test ((↑M.bW.length:Int) != (↑M.bW.length:Int))
 (.out (.ret (sB false) []))
 (.test ((↑M.bX.length:Int) != (↑M.bX.length:Int))
 (.out (.ret (sB false) []))
 (.test ((↑M.gls.length:Int) != (↑M.gls.length:Int))
 (.out (.ret (sB false) []))
 (.test ((↑M.exs.length:Int) != (↑M.exs.length:Int))
 (.out (.ret (sB false) []))
 (.test (!M.st==M.st)
 (.out (.ret (sB false) []))
 (.test (M.sn != M.sn)
 (.out (.ret (sB false) []))
 (.test ((↑M.els.length:Int) != (↑M.els.length:Int))
 (.out (.ret (sB false) []))
 (.test ((↑M.aW.length:Int) != (↑M.aW.length:Int))
 (.out (.ret (sB false) []))
 (.at (af Tryz.prog env 16 1 [.mp 0 0,.mp 1 0,sI .i64 0] ([.pc M.aE,.pc M.aE]) 0 176)))))))))))))
theorem MJ (M:Mo):aR Tryz.prog env Vp 1000000 16 ([AV.agg (List.map AV.p M.aE),AV.agg (List.map AV.p M.aE)]) ([]) Y4=F6 M:=by kernel_rfl
noncomputable def Vq:bu:=aK av az [(38,0)] [] []
def Y5:Sc:= .fin
noncomputable def P5 (M:Mo):Tree:=
 (.at (af Tryz.prog env 38 0 [.mp 0 0,.mp 1 0,sI .i64 0] ([.pc M.aE,.pc M.aE]) 0 175))
theorem MK (M:Mo):aR Tryz.prog env Vq 1000000 38 ([AV.agg (List.map AV.p M.aE),AV.agg (List.map AV.p M.aE)]) ([]) Y5=P5 M:=by kernel_rfl
noncomputable def P6:bu:=aK av az [(81,1)] [(81,0,2),(81,0,3)] [(81,0,3)]
def Vr:Sc:= .fin
noncomputable def vv (k:Nat) (i:Nat) (cs:List PV):Tree:=
 (.test (decide ((↑i:Int)<(↑k:Int)))
 (.must (aG (↑i:Int) k&&true&&(isInt IntKind.u32 (cs.getD ((↑i:Int).toNat*1) PV.bad)&&(aG (↑i:Int) k&&true&&(isInt IntKind.u32 (cs.getD ((↑i:Int).toNat*1) PV.bad)&&true)))&&true)
 (.test (au (cs.getD ((↑i:Int).toNat*1) PV.bad) != au (cs.getD ((↑i:Int).toNat*1) PV.bad))
 (.out (.ret (sB false) []))
 (.at (af Tryz.prog env 81 1 [.p (.ps k 1 cs),.p (.ps k 1 cs),sI .i64 (IntKind.i64.wrap ((↑i:Int)+1))] ([]) 0 26))))
 (.out (.ret (sB true) [])))
theorem yV (k:Nat) (i:Nat) (cs:List PV):grow Tryz.prog env P6 1000000 true (af Tryz.prog env 81 1 ([AV.p (PV.ps k 1 cs),AV.p (PV.ps k 1 cs),sI IntKind.i64 (↑i:Int)]) ([]) 0 26) Vr atEnd=vv k i cs:=by kernel_rfl
noncomputable def P7:bu:=aK av az [(80,1)] [(80,0,2),(80,8,6),(80,8,13),(80,8,20),(80,8,27),(80,8,34)] [(80,0,3)]
noncomputable def Vs (l:List Ins) (i:Nat):Sc:=(.fork (.fork (.lit (.lit (.lit (.lit .fin)))) (.fork (.lit (.lit (.lit .fin))) (.fork (.lit (.lit .fin)) (.fork (.lit .fin) (.fork .fin (.ans 81 (sB true) ([]) (.ans 80 (sB true) ([]) (.ans 80 (sB true) ([]) .fin)))))))) .fin)
noncomputable def vw (l:List Ins) (i:Nat):Tree:=
 (.test (decide ((↑i:Int)<(↑l.length:Int)))
 (.must (aG (↑i:Int) l.length&&true&&true&&(isInt IntKind.i64 ((ak l).getD ((↑i:Int).toNat*8) PV.bad)&&(isInt IntKind.i64 ((ak l).getD ((↑i:Int).toNat*8+1) PV.bad)&&(isInt IntKind.u32 ((ak l).getD ((↑i:Int).toNat*8+1+1) PV.bad)&&(isInt IntKind.u32 ((ak l).getD ((↑i:Int).toNat*8+1+1+1) PV.bad)&&(isInt IntKind.i32 ((ak l).getD ((↑i:Int).toNat*8+1+1+1+1) PV.bad)&&(aH ((ak l).getD ((↑i:Int).toNat*8+1+1+1+1+1) PV.bad)&&(aH ((ak l).getD ((↑i:Int).toNat*8+1+1+1+1+1+1) PV.bad)&&(aH ((ak l).getD ((↑i:Int).toNat*8+1+1+1+1+1+1+1) PV.bad)&&true)))))))&&true&&(aG (↑i:Int) l.length&&true&&true&&(isInt IntKind.i64 ((ak l).getD ((↑i:Int).toNat*8) PV.bad)&&(isInt IntKind.i64 ((ak l).getD ((↑i:Int).toNat*8+1) PV.bad)&&(isInt IntKind.u32 ((ak l).getD ((↑i:Int).toNat*8+1+1) PV.bad)&&(isInt IntKind.u32 ((ak l).getD ((↑i:Int).toNat*8+1+1+1) PV.bad)&&(isInt IntKind.i32 ((ak l).getD ((↑i:Int).toNat*8+1+1+1+1) PV.bad)&&(aH ((ak l).getD ((↑i:Int).toNat*8+1+1+1+1+1) PV.bad)&&(aH ((ak l).getD ((↑i:Int).toNat*8+1+1+1+1+1+1) PV.bad)&&(aH ((ak l).getD ((↑i:Int).toNat*8+1+1+1+1+1+1+1) PV.bad)&&true)))))))&&true&&true)))&&true)
 (.test (au ((ak l).getD ((↑i:Int).toNat*8) PV.bad) != au ((ak l).getD ((↑i:Int).toNat*8) PV.bad))
 (.out (.ret (sB false) []))
 (.test (au ((ak l).getD ((↑i:Int).toNat*8+1) PV.bad) != au ((ak l).getD ((↑i:Int).toNat*8+1) PV.bad))
 (.out (.ret (sB false) []))
 (.test (au ((ak l).getD ((↑i:Int).toNat*8+1+1) PV.bad) != au ((ak l).getD ((↑i:Int).toNat*8+1+1) PV.bad))
 (.out (.ret (sB false) []))
 (.test (au ((ak l).getD ((↑i:Int).toNat*8+1+1+1) PV.bad) != au ((ak l).getD ((↑i:Int).toNat*8+1+1+1) PV.bad))
 (.out (.ret (sB false) []))
 (.test (au ((ak l).getD ((↑i:Int).toNat*8+1+1+1+1) PV.bad) != au ((ak l).getD ((↑i:Int).toNat*8+1+1+1+1) PV.bad))
 (.out (.ret (sB false) []))
 (.call ⟨81,[.p (.ps (aq ((ak l).getD ((↑i:Int).toNat*8+1+1+1+1+1) PV.bad)) (aA ((ak l).getD ((↑i:Int).toNat*8+1+1+1+1+1) PV.bad)) (aj ((ak l).getD ((↑i:Int).toNat*8+1+1+1+1+1) PV.bad))),.p (.ps (aq ((ak l).getD ((↑i:Int).toNat*8+1+1+1+1+1) PV.bad)) (aA ((ak l).getD ((↑i:Int).toNat*8+1+1+1+1+1) PV.bad)) (aj ((ak l).getD ((↑i:Int).toNat*8+1+1+1+1+1) PV.bad)))],[],sB true,[]⟩
 (.call ⟨80,[.p (.ps (aq ((ak l).getD ((↑i:Int).toNat*8+1+1+1+1+1+1) PV.bad)) (aA ((ak l).getD ((↑i:Int).toNat*8+1+1+1+1+1+1) PV.bad)) (aj ((ak l).getD ((↑i:Int).toNat*8+1+1+1+1+1+1) PV.bad))),.p (.ps (aq ((ak l).getD ((↑i:Int).toNat*8+1+1+1+1+1+1) PV.bad)) (aA ((ak l).getD ((↑i:Int).toNat*8+1+1+1+1+1+1) PV.bad)) (aj ((ak l).getD ((↑i:Int).toNat*8+1+1+1+1+1+1) PV.bad)))],[],sB true,[]⟩
 (.call ⟨80,[.p (.ps (aq ((ak l).getD ((↑i:Int).toNat*8+1+1+1+1+1+1+1) PV.bad)) (aA ((ak l).getD ((↑i:Int).toNat*8+1+1+1+1+1+1+1) PV.bad)) (aj ((ak l).getD ((↑i:Int).toNat*8+1+1+1+1+1+1+1) PV.bad))),.p (.ps (aq ((ak l).getD ((↑i:Int).toNat*8+1+1+1+1+1+1+1) PV.bad)) (aA ((ak l).getD ((↑i:Int).toNat*8+1+1+1+1+1+1+1) PV.bad)) (aj ((ak l).getD ((↑i:Int).toNat*8+1+1+1+1+1+1+1) PV.bad)))],[],sB true,[]⟩
 (.at (af Tryz.prog env 80 1 [.p (.ps l.length 8 (ak l)),.p (.ps l.length 8 (ak l)),sI .i64 (IntKind.i64.wrap ((↑i:Int)+1))] ([]) 0 84)))))))))))
 (.out (.ret (sB true) [])))
theorem yW (l:List Ins) (i:Nat):grow Tryz.prog env P7 1000000 true (af Tryz.prog env 80 1 ([aL l,aL l,sI IntKind.i64 (↑i:Int)]) ([]) 0 84) (Vs l i) atEnd=vw l i:=by kernel_rfl
noncomputable def P8:bu:=aK av az [(16,1),(16,4)] [(16,0,2),(16,0,3)] [(16,0,3)]
noncomputable def Vt (M:Mo) (i:Nat):Sc:= .fin
noncomputable def vA (M:Mo) (i:Nat):Tree:=
 (.test (decide ((↑i:Int)<(↑M.tys.length:Int)))
 (.must (aG (↑i:Int) M.tys.length&&true&&(isInt IntKind.i64 ((List.flatMap aZ M.tys).getD ((↑i:Int).toNat*2) PV.bad)&&(isInt IntKind.i64 ((List.flatMap aZ M.tys).getD ((↑i:Int).toNat*2+1) PV.bad)&&true)&&(aG (↑i:Int) M.tys.length&&true&&(isInt IntKind.i64 ((List.flatMap aZ M.tys).getD ((↑i:Int).toNat*2) PV.bad)&&(isInt IntKind.i64 ((List.flatMap aZ M.tys).getD ((↑i:Int).toNat*2+1) PV.bad)&&true)&&true)))&&true)
 (.test (!(fun r=>au ((List.flatMap aZ M.tys).getD ((↑i:Int).toNat*2) PV.bad)==au ((List.flatMap aZ M.tys).getD ((↑i:Int).toNat*2) PV.bad)&&r) ((fun r=>au ((List.flatMap aZ M.tys).getD ((↑i:Int).toNat*2+1) PV.bad)==au ((List.flatMap aZ M.tys).getD ((↑i:Int).toNat*2+1) PV.bad)&&r) true))
 (.out (.ret (sB false) []))
 (.at (af Tryz.prog env 16 1 [.mp 0 0,.mp 1 0,sI .i64 (IntKind.i64.wrap ((↑i:Int)+1))] ([.pc M.aE,.pc M.aE]) 0 176))))
 (.at (af Tryz.prog env 16 4 [.mp 0 0,.mp 1 0,sI .i64 0] ([.pc M.aE,.pc M.aE]) 0 176)))
theorem yX (M:Mo) (i:Nat):grow Tryz.prog env P8 1000000 true (af Tryz.prog env 16 1 ([AV.mp 0 0,AV.mp 1 0,sI IntKind.i64 (↑i:Int)]) ([bg.pc M.aE,bg.pc M.aE]) 0 176) (Vt M i) atEnd=vA M i:=by kernel_rfl
noncomputable def P9:bu:=aK av az [(38,0),(38,3)] [(38,0,1),(38,0,2)] [(38,0,2)]
noncomputable def Vu (M:Mo) (i:Nat):Sc:= .fin
noncomputable def vB (M:Mo) (i:Nat):Tree:=
 (.test (decide ((↑i:Int)<(↑M.bW.length:Int)))
 (.must (aG (↑i:Int) M.bW.length&&true&&(isInt IntKind.u32 ((List.flatMap aF M.bW).getD ((↑i:Int).toNat*3) PV.bad)&&(isInt IntKind.u32 ((List.flatMap aF M.bW).getD ((↑i:Int).toNat*3+1) PV.bad)&&(isBool ((List.flatMap aF M.bW).getD ((↑i:Int).toNat*3+1+1) PV.bad)&&true))&&(aG (↑i:Int) M.bW.length&&true&&(isInt IntKind.u32 ((List.flatMap aF M.bW).getD ((↑i:Int).toNat*3) PV.bad)&&(isInt IntKind.u32 ((List.flatMap aF M.bW).getD ((↑i:Int).toNat*3+1) PV.bad)&&(isBool ((List.flatMap aF M.bW).getD ((↑i:Int).toNat*3+1+1) PV.bad)&&true))&&true)))&&true)
 (.test (!(fun r=>au ((List.flatMap aF M.bW).getD ((↑i:Int).toNat*3) PV.bad)==au ((List.flatMap aF M.bW).getD ((↑i:Int).toNat*3) PV.bad)&&r) ((fun r=>au ((List.flatMap aF M.bW).getD ((↑i:Int).toNat*3+1) PV.bad)==au ((List.flatMap aF M.bW).getD ((↑i:Int).toNat*3+1) PV.bad)&&r) ((fun r=>aT ((List.flatMap aF M.bW).getD ((↑i:Int).toNat*3+1+1) PV.bad)==aT ((List.flatMap aF M.bW).getD ((↑i:Int).toNat*3+1+1) PV.bad)&&r) true)))
 (.out (.ret (sB false) []))
 (.at (af Tryz.prog env 38 0 [.mp 0 0,.mp 1 0,sI .i64 (IntKind.i64.wrap ((↑i:Int)+1))] ([.pc M.aE,.pc M.aE]) 0 175))))
 (.at (af Tryz.prog env 38 3 [.mp 0 0,.mp 1 0,sI .i64 0] ([.pc M.aE,.pc M.aE]) 0 175)))
theorem yY (M:Mo) (i:Nat):grow Tryz.prog env P9 1000000 true (af Tryz.prog env 38 0 ([AV.mp 0 0,AV.mp 1 0,sI IntKind.i64 (↑i:Int)]) ([bg.pc M.aE,bg.pc M.aE]) 0 175) (Vu M i) atEnd=vB M i:=by kernel_rfl
noncomputable def Qa:bu:=aK av az [(38,3),(38,6)] [(38,0,4),(38,0,5)] [(38,0,5)]
noncomputable def Vv (M:Mo) (i:Nat):Sc:= .fin
noncomputable def vC (M:Mo) (i:Nat):Tree:=
 (.test (decide ((↑i:Int)<(↑M.bX.length:Int)))
 (.must (aG (↑i:Int) M.bX.length&&true&&(isInt IntKind.u32 ((List.flatMap aF M.bX).getD ((↑i:Int).toNat*3) PV.bad)&&(isInt IntKind.u32 ((List.flatMap aF M.bX).getD ((↑i:Int).toNat*3+1) PV.bad)&&(isBool ((List.flatMap aF M.bX).getD ((↑i:Int).toNat*3+1+1) PV.bad)&&true))&&(aG (↑i:Int) M.bX.length&&true&&(isInt IntKind.u32 ((List.flatMap aF M.bX).getD ((↑i:Int).toNat*3) PV.bad)&&(isInt IntKind.u32 ((List.flatMap aF M.bX).getD ((↑i:Int).toNat*3+1) PV.bad)&&(isBool ((List.flatMap aF M.bX).getD ((↑i:Int).toNat*3+1+1) PV.bad)&&true))&&true)))&&true)
 (.test (!(fun r=>au ((List.flatMap aF M.bX).getD ((↑i:Int).toNat*3) PV.bad)==au ((List.flatMap aF M.bX).getD ((↑i:Int).toNat*3) PV.bad)&&r) ((fun r=>au ((List.flatMap aF M.bX).getD ((↑i:Int).toNat*3+1) PV.bad)==au ((List.flatMap aF M.bX).getD ((↑i:Int).toNat*3+1) PV.bad)&&r) ((fun r=>aT ((List.flatMap aF M.bX).getD ((↑i:Int).toNat*3+1+1) PV.bad)==aT ((List.flatMap aF M.bX).getD ((↑i:Int).toNat*3+1+1) PV.bad)&&r) true)))
 (.out (.ret (sB false) []))
 (.at (af Tryz.prog env 38 3 [.mp 0 0,.mp 1 0,sI .i64 (IntKind.i64.wrap ((↑i:Int)+1))] ([.pc M.aE,.pc M.aE]) 0 175))))
 (.at (af Tryz.prog env 38 6 [.mp 0 0,.mp 1 0,sI .i64 0] ([.pc M.aE,.pc M.aE]) 0 175)))
theorem yZ (M:Mo) (i:Nat):grow Tryz.prog env Qa 1000000 true (af Tryz.prog env 38 3 ([AV.mp 0 0,AV.mp 1 0,sI IntKind.i64 (↑i:Int)]) ([bg.pc M.aE,bg.pc M.aE]) 0 175) (Vv M i) atEnd=vC M i:=by kernel_rfl
noncomputable def Qb:bu:=aK av az [(38,12),(38,15)] [(38,0,13)] [(38,0,14)]
noncomputable def Vw (M:Mo) (i:Nat):Sc:=(.fork (.tU 38 24 (Zv M i 0) .fin) .fin)
noncomputable def vD (M:Mo) (i:Nat):Tree:=
 (.test (decide ((↑i:Int)<(↑M.els.length:Int)))
 (.call ⟨80,[.p (.ps (aq ((List.flatMap aJ M.els).getD ((↑i:Int).toNat*2+0) PV.bad)) (aA ((List.flatMap aJ M.els).getD ((↑i:Int).toNat*2+0) PV.bad)) (aj ((List.flatMap aJ M.els).getD ((↑i:Int).toNat*2+0) PV.bad))),.p (.ps (aq ((List.flatMap aJ M.els).getD ((↑i:Int).toNat*2+0) PV.bad)) (aA ((List.flatMap aJ M.els).getD ((↑i:Int).toNat*2+0) PV.bad)) (aj ((List.flatMap aJ M.els).getD ((↑i:Int).toNat*2+0) PV.bad)))],[],sB true,[]⟩
 (.call ⟨81,[.p (.ps (aq ((List.flatMap aJ M.els).getD ((↑i:Int).toNat*2+1) PV.bad)) (aA ((List.flatMap aJ M.els).getD ((↑i:Int).toNat*2+1) PV.bad)) (aj ((List.flatMap aJ M.els).getD ((↑i:Int).toNat*2+1) PV.bad))),.p (.ps (aq ((List.flatMap aJ M.els).getD ((↑i:Int).toNat*2+1) PV.bad)) (aA ((List.flatMap aJ M.els).getD ((↑i:Int).toNat*2+1) PV.bad)) (aj ((List.flatMap aJ M.els).getD ((↑i:Int).toNat*2+1) PV.bad)))],[],sB true,[]⟩
 (.must (aG (↑i:Int) M.els.length&&true&&true&&(aH ((List.flatMap aJ M.els).getD ((↑i:Int).toNat*2+0) PV.bad)&&true&&(aG (↑i:Int) M.els.length&&true&&true&&(aH ((List.flatMap aJ M.els).getD ((↑i:Int).toNat*2+0) PV.bad)&&true&&(aG (↑i:Int) M.els.length&&true&&true&&(aH ((List.flatMap aJ M.els).getD ((↑i:Int).toNat*2+1) PV.bad)&&true&&(aG (↑i:Int) M.els.length&&true&&true&&(aH ((List.flatMap aJ M.els).getD ((↑i:Int).toNat*2+1) PV.bad)&&true&&true)))))))&&true)
 (.at (af Tryz.prog env 38 12 [.mp 0 0,.mp 1 0,sI .i64 (IntKind.i64.wrap ((↑i:Int)+1))] ([.pc M.aE,.pc M.aE]) 0 175)))))
 (.at (af Tryz.prog env 38 15 [.mp 0 0,.mp 1 0,sI .i64 0] ([.pc M.aE,.pc M.aE]) 0 175)))
theorem za (M:Mo) (i:Nat):grow Tryz.prog env Qb 1000000 true (af Tryz.prog env 38 12 ([AV.mp 0 0,AV.mp 1 0,sI IntKind.i64 (↑i:Int)]) ([bg.pc M.aE,bg.pc M.aE]) 0 175) (Vw M i) atEnd=vD M i:=by kernel_rfl
noncomputable def Qc:bu:=aK av az [(38,15)] [(38,0,16)] [(38,0,17)]
noncomputable def Vx (M:Mo) (i:Nat):Sc:=(.fork (.tU 38 29 (Zv M i 0) .fin) .fin)
noncomputable def vE (M:Mo) (i:Nat):Tree:=
 (.test (decide ((↑i:Int)<(↑M.aW.length:Int)))
 (.call ⟨80,[.p (.ps (aq ((List.flatMap aV M.aW).getD ((↑i:Int).toNat*2+0) PV.bad)) (aA ((List.flatMap aV M.aW).getD ((↑i:Int).toNat*2+0) PV.bad)) (aj ((List.flatMap aV M.aW).getD ((↑i:Int).toNat*2+0) PV.bad))),.p (.ps (aq ((List.flatMap aV M.aW).getD ((↑i:Int).toNat*2+0) PV.bad)) (aA ((List.flatMap aV M.aW).getD ((↑i:Int).toNat*2+0) PV.bad)) (aj ((List.flatMap aV M.aW).getD ((↑i:Int).toNat*2+0) PV.bad)))],[],sB true,[]⟩
 (.call ⟨82,[.p (.ps (aq ((List.flatMap aV M.aW).getD ((↑i:Int).toNat*2+1) PV.bad)) (aA ((List.flatMap aV M.aW).getD ((↑i:Int).toNat*2+1) PV.bad)) (aj ((List.flatMap aV M.aW).getD ((↑i:Int).toNat*2+1) PV.bad))),.p (.ps (aq ((List.flatMap aV M.aW).getD ((↑i:Int).toNat*2+1) PV.bad)) (aA ((List.flatMap aV M.aW).getD ((↑i:Int).toNat*2+1) PV.bad)) (aj ((List.flatMap aV M.aW).getD ((↑i:Int).toNat*2+1) PV.bad)))],[],sB true,[]⟩
 (.must (aG (↑i:Int) M.aW.length&&true&&true&&(aH ((List.flatMap aV M.aW).getD ((↑i:Int).toNat*2+0) PV.bad)&&true&&(aG (↑i:Int) M.aW.length&&true&&true&&(aH ((List.flatMap aV M.aW).getD ((↑i:Int).toNat*2+0) PV.bad)&&true&&(aG (↑i:Int) M.aW.length&&true&&true&&(aH ((List.flatMap aV M.aW).getD ((↑i:Int).toNat*2+1) PV.bad)&&true&&(aG (↑i:Int) M.aW.length&&true&&true&&(aH ((List.flatMap aV M.aW).getD ((↑i:Int).toNat*2+1) PV.bad)&&true&&true)))))))&&true)
 (.at (af Tryz.prog env 38 15 [.mp 0 0,.mp 1 0,sI .i64 (IntKind.i64.wrap ((↑i:Int)+1))] ([.pc M.aE,.pc M.aE]) 0 175)))))
 (.out (.ret (sB true) [])))
theorem zb (M:Mo) (i:Nat):grow Tryz.prog env Qc 1000000 true (af Tryz.prog env 38 15 ([AV.mp 0 0,AV.mp 1 0,sI IntKind.i64 (↑i:Int)]) ([bg.pc M.aE,bg.pc M.aE]) 0 175) (Vx M i) atEnd=vE M i:=by kernel_rfl
noncomputable def Qd:bu:=aK av az [(16,4),(16,7)] [(16,0,5),(16,0,6)] [(16,0,6)]
noncomputable def Vy (M:Mo) (i:Nat):Sc:= .fin
noncomputable def vF (M:Mo) (i:Nat):Tree:=
 (.test (decide ((↑i:Int)<(↑M.aI.length:Int)))
 (.must (aG (↑i:Int) M.aI.length&&true&&(isStr ((List.flatMap aQ M.aI).getD ((↑i:Int).toNat*3) PV.bad)&&(isStr ((List.flatMap aQ M.aI).getD ((↑i:Int).toNat*3+1) PV.bad)&&(isInt IntKind.i64 ((List.flatMap aQ M.aI).getD ((↑i:Int).toNat*3+1+1) PV.bad)&&true))&&(aG (↑i:Int) M.aI.length&&true&&(isStr ((List.flatMap aQ M.aI).getD ((↑i:Int).toNat*3) PV.bad)&&(isStr ((List.flatMap aQ M.aI).getD ((↑i:Int).toNat*3+1) PV.bad)&&(isInt IntKind.i64 ((List.flatMap aQ M.aI).getD ((↑i:Int).toNat*3+1+1) PV.bad)&&true))&&true)))&&true)
 (.test (!(fun r=>(aN ((List.flatMap aQ M.aI).getD ((↑i:Int).toNat*3) PV.bad)).data.toList==(aN ((List.flatMap aQ M.aI).getD ((↑i:Int).toNat*3) PV.bad)).data.toList&&r) ((fun r=>(aN ((List.flatMap aQ M.aI).getD ((↑i:Int).toNat*3+1) PV.bad)).data.toList==(aN ((List.flatMap aQ M.aI).getD ((↑i:Int).toNat*3+1) PV.bad)).data.toList&&r) ((fun r=>au ((List.flatMap aQ M.aI).getD ((↑i:Int).toNat*3+1+1) PV.bad)==au ((List.flatMap aQ M.aI).getD ((↑i:Int).toNat*3+1+1) PV.bad)&&r) true)))
 (.out (.ret (sB false) []))
 (.at (af Tryz.prog env 16 4 [.mp 0 0,.mp 1 0,sI .i64 (IntKind.i64.wrap ((↑i:Int)+1))] ([.pc M.aE,.pc M.aE]) 0 176))))
 (.at (af Tryz.prog env 16 7 [.mp 0 0,.mp 1 0,sI .i64 0] ([.pc M.aE,.pc M.aE]) 0 176)))
theorem zc (M:Mo) (i:Nat):grow Tryz.prog env Qd 1000000 true (af Tryz.prog env 16 4 ([AV.mp 0 0,AV.mp 1 0,sI IntKind.i64 (↑i:Int)]) ([bg.pc M.aE,bg.pc M.aE]) 0 176) (Vy M i) atEnd=vF M i:=by kernel_rfl
noncomputable def Qe:bu:=aK av az [(16,7)] [(16,0,8)] [(16,0,9)]
noncomputable def Vz (M:Mo) (i:Nat):Sc:=(.fork (.tU 16 16 (Zv M i 0) .fin) (.ans 38 (sB true) ([]) .fin))
noncomputable def vG (M:Mo) (i:Nat):Tree:=
 (.test (decide ((↑i:Int)<(↑M.fns.length:Int)))
 (.call ⟨37,[.agg [sI .i64 (au ((List.flatMap aB M.fns).getD ((↑i:Int).toNat*3+1) PV.bad)),.p (.ps (aq ((List.flatMap aB M.fns).getD ((↑i:Int).toNat*3+1+1) PV.bad)) (aA ((List.flatMap aB M.fns).getD ((↑i:Int).toNat*3+1+1) PV.bad)) (aj ((List.flatMap aB M.fns).getD ((↑i:Int).toNat*3+1+1) PV.bad)))],.agg [sI .i64 (au ((List.flatMap aB M.fns).getD ((↑i:Int).toNat*3+1) PV.bad)),.p (.ps (aq ((List.flatMap aB M.fns).getD ((↑i:Int).toNat*3+1+1) PV.bad)) (aA ((List.flatMap aB M.fns).getD ((↑i:Int).toNat*3+1+1) PV.bad)) (aj ((List.flatMap aB M.fns).getD ((↑i:Int).toNat*3+1+1) PV.bad)))]],[],sB true,[]⟩
 (.must (aG (↑i:Int) M.fns.length&&true&&true&&(isInt IntKind.i64 ((List.flatMap aB M.fns).getD ((↑i:Int).toNat*3+0) PV.bad)&&true&&(aG (↑i:Int) M.fns.length&&true&&true&&(isInt IntKind.i64 ((List.flatMap aB M.fns).getD ((↑i:Int).toNat*3+0) PV.bad)&&true&&(eL (.p (.sc (.bool (au ((List.flatMap aB M.fns).getD ((↑i:Int).toNat*3+0) PV.bad) != au ((List.flatMap aB M.fns).getD ((↑i:Int).toNat*3+0) PV.bad))))) (sB false)&&(aG (↑i:Int) M.fns.length&&true&&true&&(isInt IntKind.i64 ((List.flatMap aB M.fns).getD ((↑i:Int).toNat*3+1) PV.bad)&&(aH ((List.flatMap aB M.fns).getD ((↑i:Int).toNat*3+1+1) PV.bad)&&true)&&true&&(aG (↑i:Int) M.fns.length&&true&&true&&(isInt IntKind.i64 ((List.flatMap aB M.fns).getD ((↑i:Int).toNat*3+1) PV.bad)&&(aH ((List.flatMap aB M.fns).getD ((↑i:Int).toNat*3+1+1) PV.bad)&&true)&&true&&true))))))))&&true)
 (.at (af Tryz.prog nI 16 7 [.mp 0 0,.mp 1 0,sI .i64 (IntKind.i64.wrap ((↑i:Int)+1))] ([.pc M.aE,.pc M.aE]) 0 176))))
 (.call ⟨38,[.agg (List.map AV.p M.aE),.agg (List.map AV.p M.aE)],[],sB true,[]⟩
 (.out (.ret (sB true) []))))
theorem ze (M:Mo) (i:Nat):grow Tryz.prog nI Qe 1000000 true (af Tryz.prog nI 16 7 ([AV.mp 0 0,AV.mp 1 0,sI IntKind.i64 (↑i:Int)]) ([bg.pc M.aE,bg.pc M.aE]) 0 176) (Vz M i) atEnd=vG M i:=by kernel_rfl
noncomputable def Qf:bu:=aK av az [(38,6),(38,9)] [(38,0,7)] [(38,0,8)]
noncomputable def VB (M:Mo) (i:Nat):Sc:=(.fork (.tU 38 14 (Zv M i 0) .fin) .fin)
noncomputable def vH (M:Mo) (i:Nat):Tree:=
 (.test (decide ((↑i:Int)<(↑M.gls.length:Int)))
 (.call ⟨80,[.p (.ps (aq ((List.flatMap aY M.gls).getD ((↑i:Int).toNat*2+1) PV.bad)) (aA ((List.flatMap aY M.gls).getD ((↑i:Int).toNat*2+1) PV.bad)) (aj ((List.flatMap aY M.gls).getD ((↑i:Int).toNat*2+1) PV.bad))),.p (.ps (aq ((List.flatMap aY M.gls).getD ((↑i:Int).toNat*2+1) PV.bad)) (aA ((List.flatMap aY M.gls).getD ((↑i:Int).toNat*2+1) PV.bad)) (aj ((List.flatMap aY M.gls).getD ((↑i:Int).toNat*2+1) PV.bad)))],[],sB true,[]⟩
 (.must (aG (↑i:Int) M.gls.length&&true&&true&&(isBool ((List.flatMap aY M.gls).getD ((↑i:Int).toNat*2+0) PV.bad)&&true&&(aG (↑i:Int) M.gls.length&&true&&true&&(isBool ((List.flatMap aY M.gls).getD ((↑i:Int).toNat*2+0) PV.bad)&&true&&(eL (.p (.sc (.bool !aT ((List.flatMap aY M.gls).getD ((↑i:Int).toNat*2+0) PV.bad)==aT ((List.flatMap aY M.gls).getD ((↑i:Int).toNat*2+0) PV.bad)))) (sB false)&&(aG (↑i:Int) M.gls.length&&true&&true&&(aH ((List.flatMap aY M.gls).getD ((↑i:Int).toNat*2+1) PV.bad)&&true&&(aG (↑i:Int) M.gls.length&&true&&true&&(aH ((List.flatMap aY M.gls).getD ((↑i:Int).toNat*2+1) PV.bad)&&true&&true))))))))&&true)
 (.at (af Tryz.prog nI 38 6 [.mp 0 0,.mp 1 0,sI .i64 (IntKind.i64.wrap ((↑i:Int)+1))] ([.pc M.aE,.pc M.aE]) 0 175))))
 (.at (af Tryz.prog nI 38 9 [.mp 0 0,.mp 1 0,sI .i64 0] ([.pc M.aE,.pc M.aE]) 0 175)))
theorem zf (M:Mo) (i:Nat):grow Tryz.prog nI Qf 1000000 true (af Tryz.prog nI 38 6 ([AV.mp 0 0,AV.mp 1 0,sI IntKind.i64 (↑i:Int)]) ([bg.pc M.aE,bg.pc M.aE]) 0 175) (VB M i) atEnd=vH M i:=by kernel_rfl
noncomputable def Qg:bu:=aK av az [(38,9),(38,12)] [(38,0,10),(38,0,11)] [(38,0,11)]
noncomputable def VC (M:Mo) (i:Nat):Sc:= .fin
noncomputable def vI (M:Mo) (i:Nat):Tree:=
 (.test (decide ((↑i:Int)<(↑M.exs.length:Int)))
 (.must (aG (↑i:Int) M.exs.length&&true&&(isStr ((List.flatMap aP M.exs).getD ((↑i:Int).toNat*3) PV.bad)&&(isInt IntKind.i64 ((List.flatMap aP M.exs).getD ((↑i:Int).toNat*3+1) PV.bad)&&(isInt IntKind.u32 ((List.flatMap aP M.exs).getD ((↑i:Int).toNat*3+1+1) PV.bad)&&true))&&(aG (↑i:Int) M.exs.length&&true&&(isStr ((List.flatMap aP M.exs).getD ((↑i:Int).toNat*3) PV.bad)&&(isInt IntKind.i64 ((List.flatMap aP M.exs).getD ((↑i:Int).toNat*3+1) PV.bad)&&(isInt IntKind.u32 ((List.flatMap aP M.exs).getD ((↑i:Int).toNat*3+1+1) PV.bad)&&true))&&true)))&&true)
 (.test (!(fun r=>(aN ((List.flatMap aP M.exs).getD ((↑i:Int).toNat*3) PV.bad)).data.toList==(aN ((List.flatMap aP M.exs).getD ((↑i:Int).toNat*3) PV.bad)).data.toList&&r) ((fun r=>au ((List.flatMap aP M.exs).getD ((↑i:Int).toNat*3+1) PV.bad)==au ((List.flatMap aP M.exs).getD ((↑i:Int).toNat*3+1) PV.bad)&&r) ((fun r=>au ((List.flatMap aP M.exs).getD ((↑i:Int).toNat*3+1+1) PV.bad)==au ((List.flatMap aP M.exs).getD ((↑i:Int).toNat*3+1+1) PV.bad)&&r) true)))
 (.out (.ret (sB false) []))
 (.at (af Tryz.prog env 38 9 [.mp 0 0,.mp 1 0,sI .i64 (IntKind.i64.wrap ((↑i:Int)+1))] ([.pc M.aE,.pc M.aE]) 0 175))))
 (.at (af Tryz.prog env 38 12 [.mp 0 0,.mp 1 0,sI .i64 0] ([.pc M.aE,.pc M.aE]) 0 175)))
theorem zg (M:Mo) (i:Nat):grow Tryz.prog env Qg 1000000 true (af Tryz.prog env 38 9 ([AV.mp 0 0,AV.mp 1 0,sI IntKind.i64 (↑i:Int)]) ([bg.pc M.aE,bg.pc M.aE]) 0 175) (VC M i) atEnd=vI M i:=by kernel_rfl
theorem iP {α:Type} {l:List α} {D:Nat→bJ} {o:Out} (step : ∀(i:Nat) (x:α),l[i]? = some x→Am.Good Tryz.prog env (D (i+1)) o→Am.Good Tryz.prog env (D i) o)
  (fin:Am.Good Tryz.prog env (D l.length) o):Am.Good Tryz.prog env (D 0) o:=by
 have h : ∀r i:Nat,i+r=l.length→Am.Good Tryz.prog env (D i) o:=by
  intro r
  induction r with
  |zero=>
   intro i hi
   obtain rfl:i=l.length:=by omega
   exact fin
  |succ r ih=>
   intro i hi
   have hl:i<l.length:=by omega
   exact step i l[i] (List.getElem?_eq_getElem hl) (ih (i+1) (by omega))
 exact h l.length 0 (by omega)
theorem _root_.Go.Am.cw.env {P:Program} {E E':Env} (he:E.dj=E'.dj) {g:Gh} {c:bJ} {fr:Frame} {w:World}:cw P E g c fr w→cw P E' g c fr w:=by
 have key : ∀{st:St} {a:Act},bS E g st a w→bS E' g st a w:=fun h=>⟨h.tm,h.nt,h.rel,h.fix,fun i cs hi=>h.dj i cs (by rw[he];exact hi)⟩
 unfold cw
 split
 · exact id
 · exact id
 · rintro ⟨b,a,t,cv,h1,h2,h3,h4,h5,h6⟩
   exact⟨b,a,t,cv,h1,h2,h3,h4,key h5,h6⟩
 · rintro ⟨b,a,t,h1,h2,h3,h4,h5,h6,h7⟩
   exact⟨b,a,t,h1,h2,h3,h4,h5,h6,key h7⟩
 · rintro ⟨b,a,h1,h2,h3,h4,h5,h6⟩
   exact⟨b,a,h1,h2,h3,h4,key h5,h6⟩
theorem _root_.Go.Am.Good.env {P:Program} {E E':Env} (he:E.dj=E'.dj) {c:bJ} {o:Out} (h:Am.Good P E c o):Am.Good P E' c o:=
 fun g fr w cs hr=>h g fr w cs (cw.env he.symm hr)
theorem vJ {c:bJ} {o:Out} (h:Am.Good Tryz.prog env c o):Am.Good Tryz.prog nI c o:=Go.Am.Good.env (E:=env) (E':=nI) rfl h
theorem oZ {c:bJ} {o:Out} (h:Am.Good Tryz.prog nI c o):Am.Good Tryz.prog env c o:=Go.Am.Good.env (E:=nI) (E':=env) rfl h
theorem aC.toW {f:FuncId} {args:List AV} {m m':Mem} {v:AV} (h:aC Tryz.prog env f args m v m'):aC Tryz.prog nI f args m v m':=h.env fun _ _ q=>q
noncomputable def fD (f t nt:Nat) (M:Mo) (i:Nat):bJ:=af Tryz.prog env f t [.mp 0 0,.mp 1 0,sI .i64 i] [.pc M.aE,.pc M.aE] 0 nt
theorem vK (l:List Int) (hl:l.length≤1000000):aC Tryz.prog env 81 [.p (.ps l.length 1 (eK .u32 l)),.p (.ps l.length 1 (eK .u32 l))] [] (sB true) []:=by
 refine ah names (MF l.length (eK .u32 l)) ?_
 simp only[F2,Tree.ok,bne_self_eq_false]
 refine⟨fun q=>(by cases q),fun _=> ?_⟩
 refine iP (l:=l) (D:=fun i=>af Tryz.prog env 81 1 [.p (.ps l.length 1 (eK .u32 l)),.p (.ps l.length 1 (eK .u32 l)),sI .i64 i] [] 0 26) (fun i x hx h=> ?_) ?_
 · have hi:i<l.length:=(List.getElem?_eq_some_iff.1 hx).1
   have c0:(eK .u32 l).getD (i*1) .bad = .sc (.int .u32 (l.getD i 0)):=by rw[Nat.mul_one];exact qg .u32 l i hi
   have w:IntKind.i64.wrap ((i:Int)+1)=((i+1:Nat):Int):=by rw[aD (by omega) (by omega)];rfl
   have hd:decide ((i:Int)<(l.length:Int))=true:=decide_eq_true (by omega)
   have hin:aG (i:Int) l.length=true:=by simp only[aG,Bool.and_eq_true,decide_eq_true_eq];omega
   refine aa names (yV l.length i (eK .u32 l)) ?_
   simp only[vv,Tree.ok,isInt,au,Int.toNat_natCast,c0,hd,hin,w,bne_self_eq_false,Bool.and_true]
   exact⟨fun _=>⟨(by first | rfl | trivial),(fun q=>(by cases q)),fun _=>h⟩,fun q=>(by cases q)⟩
 · have hd:decide ((l.length:Int)<(l.length:Int))=false:=decide_eq_false (by omega)
   refine aa names (yV l.length l.length (eK .u32 l)) ?_
   simp only[vv,Tree.ok,hd]
   exact⟨fun q=>(by cases q),fun _=>trivial⟩
theorem CH : ∀l:List Int,(eK .u8 l).all isByte=true
 |[]=>rfl
 |x::r=>by
  have h:=CH r
  simp only[eK,List.map_cons,List.all_cons,isByte,Bool.true_and] at h ⊢
  exact h
theorem Ek (l:List Int):aC Tryz.prog env 82 [.p (.ps l.length 1 (eK .u8 l)),.p (.ps l.length 1 (eK .u8 l))] [] (sB true) []:=by
 refine ah names (MG l.length (eK .u8 l)) ?_
 simp only[F3,Tree.ok,CH,beq_self_eq_true,Bool.and_true]
 exact⟨trivial,trivial,trivial⟩
theorem gk : ∀(N:Nat) (l:List Ins),dU l≤N→dU l≤1000000→aC Tryz.prog env 80 [aL l,aL l] [] (sB true) []
 |N,l,hN,hc=>by
  have IH : ∀y∈l,aC Tryz.prog env 80 [aL y.l,aL y.l] [] (sB true) []∧aC Tryz.prog env 80 [aL y.e,aL y.e] [] (sB true) []:=by
   intro y hy
   have hcy:=iL hy
   obtain⟨op,rs,a,b,nn,tags,ll,le⟩:=y
   simp only[nF] at hcy
   match N,hN with
   |0,hN=>omega
   |N+1,hN=>exact⟨gk N ll (by omega) (by omega),gk N le (by omega) (by omega)⟩
  have IP:=lU l
  refine ah names (MH l) ?_
  simp only[F4,Tree.ok,bne_self_eq_false]
  refine⟨fun q=>(by cases q),fun _=> ?_⟩
  refine iP (l:=l) (D:=fun i=>af Tryz.prog env 80 1 [aL l,aL l,sI .i64 i] [] 0 84) (fun i x hx h=> ?_) ?_
  · have hi:i<l.length:=(List.getElem?_eq_some_iff.1 hx).1
    have hmem:=List.mem_of_getElem? hx
    have pF:=IH x hmem
    have hcx:=iL hmem
    obtain⟨op,rs,a,b,nn,tags,ll,le⟩:=x
    obtain⟨c0,c1,c2,c3,c4,c5,c6,c7⟩:=fP hx
    simp only[nF] at hcx
    have w:IntKind.i64.wrap ((i:Int)+1)=((i+1:Nat):Int):=by rw[aD (by omega) (by omega)];rfl
    have hd:decide ((i:Int)<(l.length:Int))=true:=decide_eq_true (by omega)
    have hin:aG (i:Int) l.length=true:=by simp only[aG,Bool.and_eq_true,decide_eq_true_eq];omega
    refine aa names (yW l i) ?_
    simp only[vw,Tree.ok,Nat.add_assoc,Nat.reduceAdd,c0,c1,c2,c3,c4,c5,c6,c7,isInt,aH,au,aq,aA,aj,Int.toNat_natCast,hd,hin,w,bne_self_eq_false,Bool.and_true,Bool.true_and]
    exact⟨fun _=>⟨(by first | rfl | trivial),(fun q=>(by cases q)),fun _=>⟨(fun q=>(by cases q)),fun _=>⟨(fun q=>(by cases q)),fun _=>⟨(fun q=>(by cases q)),fun _=>⟨(fun q=>(by cases q)),fun _=>⟨vK tags (by omega),pF.1,pF.2,h⟩⟩⟩⟩⟩⟩,fun q=>(by cases q)⟩
  · have hd:decide ((l.length:Int)<(l.length:Int))=false:=decide_eq_false (by omega)
    refine aa names (yW l l.length) ?_
    simp only[vw,Tree.ok,hd]
    exact⟨fun q=>(by cases q),fun _=>trivial⟩
theorem Em (lo:Int) (l:List Ins) (hc:dU l≤1000000):aC Tryz.prog env 37 [.agg [sI .i64 lo,aL l],.agg [sI .i64 lo,aL l]] [] (sB true) []:=by
 refine ah names (MI lo l) ?_
 simp only[F5,Tree.ok,beq_self_eq_true]
 exact⟨fun _=>⟨gk _ l (Nat.le_refl _) hc,trivial⟩,fun q=>(by cases q)⟩
theorem HM (M:Mo) (hl:M.tys.length≤1000000) (o:Out) (i:Nat) (x:Ty) (hx:M.tys[i]? = some x) (h:Am.Good Tryz.prog env (fD 16 1 176 M (i+1)) o):Am.Good Tryz.prog env (fD 16 1 176 M i) o:=by
 have hi:i<M.tys.length:=(List.getElem?_eq_some_iff.1 hx).1
 have hmem:=List.mem_of_getElem? hx
 have c:=aM (z:=2) (enc:=aZ) (fun _=>rfl) hx
 have gj:(M.tys.flatMap aZ).getD (i*2) .bad = .sc (.int .i64 x.p):=c 0 (by decide)
 have hH:(M.tys.flatMap aZ).getD (i*2+0) .bad = .sc (.int .i64 x.p):=c 0 (by decide)
 have pH:(M.tys.flatMap aZ).getD (i*2+1) .bad = .sc (.int .i64 x.r):=c 1 (by decide)
 have w:IntKind.i64.wrap ((i:Int)+1)=((i+1:Nat):Int):=by rw[aD (by omega) (by omega)];rfl
 have hd:decide ((i:Int)<(M.tys.length:Int))=true:=decide_eq_true (by omega)
 have hin:aG (i:Int) M.tys.length=true:=by simp only[aG,Bool.and_eq_true,decide_eq_true_eq];omega
 unfold fD at *
 refine aa names (yX M i) ?_
 simp only[vA,Tree.ok,isStr,isInt,aH,isBool,aN,au,aT,aq,aA,aj,Int.toNat_natCast,Bool.and_true,Bool.true_and,beq_self_eq_true,bne_self_eq_false,Bool.not_true,Bool.and_self,Bool.false_eq_true,Bool.true_eq_false,gj,hH,pH,hd,hin,w]
 exact⟨fun _=>⟨(by first | rfl | trivial | (simp[eL,kV,Ew];done)),(fun q=>(by cases q)),fun _=>h⟩,fun q=>(by cases q)⟩
theorem ML (M:Mo) (o:Out) (h:Am.Good Tryz.prog env (fD 16 4 176 M 0) o):Am.Good Tryz.prog env (fD 16 1 176 M M.tys.length) o:=by
 have hd:decide ((M.tys.length:Int)<(M.tys.length:Int))=false:=decide_eq_false (by omega)
 unfold fD at *
 refine aa names (yX M M.tys.length) ?_
 simp only[vA,Tree.ok,hd]
 exact⟨fun q=>(by cases q),fun _=>h⟩
theorem HN (M:Mo) (hl:M.aI.length≤1000000) (o:Out) (i:Nat) (x:Im) (hx:M.aI[i]? = some x) (h:Am.Good Tryz.prog env (fD 16 4 176 M (i+1)) o):Am.Good Tryz.prog env (fD 16 4 176 M i) o:=by
 have hi:i<M.aI.length:=(List.getElem?_eq_some_iff.1 hx).1
 have hmem:=List.mem_of_getElem? hx
 have c:=aM (z:=3) (enc:=aQ) (fun _=>rfl) hx
 have gj:(M.aI.flatMap aQ).getD (i*3) .bad = .sc (.string x.mo):=c 0 (by decide)
 have hH:(M.aI.flatMap aQ).getD (i*3+0) .bad = .sc (.string x.mo):=c 0 (by decide)
 have pH:(M.aI.flatMap aQ).getD (i*3+1) .bad = .sc (.string x.nm):=c 1 (by decide)
 have D7:(M.aI.flatMap aQ).getD (i*3+1+1) .bad = .sc (.int .i64 x.ty):=c 2 (by decide)
 have D8:(M.aI.flatMap aQ).getD (i*3+2) .bad = .sc (.int .i64 x.ty):=c 2 (by decide)
 have w:IntKind.i64.wrap ((i:Int)+1)=((i+1:Nat):Int):=by rw[aD (by omega) (by omega)];rfl
 have hd:decide ((i:Int)<(M.aI.length:Int))=true:=decide_eq_true (by omega)
 have hin:aG (i:Int) M.aI.length=true:=by simp only[aG,Bool.and_eq_true,decide_eq_true_eq];omega
 unfold fD at *
 refine aa names (zc M i) ?_
 simp only[vF,Tree.ok,isStr,isInt,aH,isBool,aN,au,aT,aq,aA,aj,Int.toNat_natCast,Bool.and_true,Bool.true_and,beq_self_eq_true,bne_self_eq_false,Bool.not_true,Bool.and_self,Bool.false_eq_true,Bool.true_eq_false,gj,hH,pH,D7,D8,hd,hin,w]
 exact⟨fun _=>⟨(by first | rfl | trivial | (simp[eL,kV,Ew];done)),(fun q=>(by cases q)),fun _=>h⟩,fun q=>(by cases q)⟩
theorem MM (M:Mo) (o:Out) (h:Am.Good Tryz.prog env (fD 16 7 176 M 0) o):Am.Good Tryz.prog env (fD 16 4 176 M M.aI.length) o:=by
 have hd:decide ((M.aI.length:Int)<(M.aI.length:Int))=false:=decide_eq_false (by omega)
 unfold fD at *
 refine aa names (zc M M.aI.length) ?_
 simp only[vF,Tree.ok,hd]
 exact⟨fun q=>(by cases q),fun _=>h⟩
theorem nJ (vs:List AV) (m:Mem):af Tryz.prog nI 16 7 vs m 0 176=af Tryz.prog env 16 7 vs m 0 176:=by kernel_rfl
theorem HO (M:Mo) (hl:M.fns.length≤1000000) (hc : ∀x∈M.fns,dU x.l≤1000000) (o:Out) (i:Nat) (x:Fu) (hx:M.fns[i]? = some x) (h:Am.Good Tryz.prog env (fD 16 7 176 M (i+1)) o):Am.Good Tryz.prog env (fD 16 7 176 M i) o:=by
 have hi:i<M.fns.length:=(List.getElem?_eq_some_iff.1 hx).1
 have hmem:=List.mem_of_getElem? hx
 have c:=aM (z:=3) (enc:=aB) (fun _=>rfl) hx
 have gj:(M.fns.flatMap aB).getD (i*3) .bad = .sc (.int .i64 x.ty):=c 0 (by decide)
 have hH:(M.fns.flatMap aB).getD (i*3+0) .bad = .sc (.int .i64 x.ty):=c 0 (by decide)
 have pH:(M.fns.flatMap aB).getD (i*3+1) .bad = .sc (.int .i64 x.lo):=c 1 (by decide)
 have D7:(M.fns.flatMap aB).getD (i*3+1+1) .bad=pL x.l:=c 2 (by decide)
 have D8:(M.fns.flatMap aB).getD (i*3+2) .bad=pL x.l:=c 2 (by decide)
 have w:IntKind.i64.wrap ((i:Int)+1)=((i+1:Nat):Int):=by rw[aD (by omega) (by omega)];rfl
 have hd:decide ((i:Int)<(M.fns.length:Int))=true:=decide_eq_true (by omega)
 have hin:aG (i:Int) M.fns.length=true:=by simp only[aG,Bool.and_eq_true,decide_eq_true_eq];omega
 unfold fD at *
 rw[←nJ]
 refine oZ ?_
 refine aa names (ze M i) ?_
 simp only[vG,Tree.ok,isStr,isInt,aH,isBool,aN,au,aT,aq,aA,aj,Int.toNat_natCast,Bool.and_true,Bool.true_and,beq_self_eq_true,bne_self_eq_false,Bool.not_true,Bool.and_self,Bool.false_eq_true,Bool.true_eq_false,gj,hH,pH,D7,D8,hd,hin,w]
 exact⟨fun _=>⟨aC.toW (Em x.lo x.l (hc x hmem)),(by first | rfl | trivial | (simp[eL,kV,Ew];done)),(by rw[nJ];exact vJ h)⟩,fun q=>(by cases q)⟩
theorem MN (M:Mo) (o:Out) (h:aC Tryz.prog env 38 [.agg (M.aE.map .p),.agg (M.aE.map .p)] [] (sB true) []∧Out.ret (sB true) []=o):Am.Good Tryz.prog env (fD 16 7 176 M M.fns.length) o:=by
 have hd:decide ((M.fns.length:Int)<(M.fns.length:Int))=false:=decide_eq_false (by omega)
 unfold fD at *
 rw[←nJ]
 refine oZ ?_
 refine aa names (ze M M.fns.length) ?_
 simp only[vG,Tree.ok,hd]
 exact⟨fun q=>(by cases q),fun _=>⟨aC.toW h.1,h.2⟩⟩
theorem HP (M:Mo) (hl:M.bW.length≤1000000) (o:Out) (i:Nat) (x:Li) (hx:M.bW[i]? = some x) (h:Am.Good Tryz.prog env (fD 38 0 175 M (i+1)) o):Am.Good Tryz.prog env (fD 38 0 175 M i) o:=by
 have hi:i<M.bW.length:=(List.getElem?_eq_some_iff.1 hx).1
 have hmem:=List.mem_of_getElem? hx
 have c:=aM (z:=3) (enc:=aF) (fun _=>rfl) hx
 have gj:(M.bW.flatMap aF).getD (i*3) .bad = .sc (.int .u32 x.mn):=c 0 (by decide)
 have hH:(M.bW.flatMap aF).getD (i*3+0) .bad = .sc (.int .u32 x.mn):=c 0 (by decide)
 have pH:(M.bW.flatMap aF).getD (i*3+1) .bad = .sc (.int .u32 x.mx):=c 1 (by decide)
 have D7:(M.bW.flatMap aF).getD (i*3+1+1) .bad = .sc (.bool x.cap):=c 2 (by decide)
 have D8:(M.bW.flatMap aF).getD (i*3+2) .bad = .sc (.bool x.cap):=c 2 (by decide)
 have w:IntKind.i64.wrap ((i:Int)+1)=((i+1:Nat):Int):=by rw[aD (by omega) (by omega)];rfl
 have hd:decide ((i:Int)<(M.bW.length:Int))=true:=decide_eq_true (by omega)
 have hin:aG (i:Int) M.bW.length=true:=by simp only[aG,Bool.and_eq_true,decide_eq_true_eq];omega
 unfold fD at *
 refine aa names (yY M i) ?_
 simp only[vB,Tree.ok,isStr,isInt,aH,isBool,aN,au,aT,aq,aA,aj,Int.toNat_natCast,Bool.and_true,Bool.true_and,beq_self_eq_true,bne_self_eq_false,Bool.not_true,Bool.and_self,Bool.false_eq_true,Bool.true_eq_false,gj,hH,pH,D7,D8,hd,hin,w]
 exact⟨fun _=>⟨(by first | rfl | trivial | (simp[eL,kV,Ew];done)),(fun q=>(by cases q)),fun _=>h⟩,fun q=>(by cases q)⟩
theorem MO (M:Mo) (o:Out) (h:Am.Good Tryz.prog env (fD 38 3 175 M 0) o):Am.Good Tryz.prog env (fD 38 0 175 M M.bW.length) o:=by
 have hd:decide ((M.bW.length:Int)<(M.bW.length:Int))=false:=decide_eq_false (by omega)
 unfold fD at *
 refine aa names (yY M M.bW.length) ?_
 simp only[vB,Tree.ok,hd]
 exact⟨fun q=>(by cases q),fun _=>h⟩
theorem HQ (M:Mo) (hl:M.bX.length≤1000000) (o:Out) (i:Nat) (x:Li) (hx:M.bX[i]? = some x) (h:Am.Good Tryz.prog env (fD 38 3 175 M (i+1)) o):Am.Good Tryz.prog env (fD 38 3 175 M i) o:=by
 have hi:i<M.bX.length:=(List.getElem?_eq_some_iff.1 hx).1
 have hmem:=List.mem_of_getElem? hx
 have c:=aM (z:=3) (enc:=aF) (fun _=>rfl) hx
 have gj:(M.bX.flatMap aF).getD (i*3) .bad = .sc (.int .u32 x.mn):=c 0 (by decide)
 have hH:(M.bX.flatMap aF).getD (i*3+0) .bad = .sc (.int .u32 x.mn):=c 0 (by decide)
 have pH:(M.bX.flatMap aF).getD (i*3+1) .bad = .sc (.int .u32 x.mx):=c 1 (by decide)
 have D7:(M.bX.flatMap aF).getD (i*3+1+1) .bad = .sc (.bool x.cap):=c 2 (by decide)
 have D8:(M.bX.flatMap aF).getD (i*3+2) .bad = .sc (.bool x.cap):=c 2 (by decide)
 have w:IntKind.i64.wrap ((i:Int)+1)=((i+1:Nat):Int):=by rw[aD (by omega) (by omega)];rfl
 have hd:decide ((i:Int)<(M.bX.length:Int))=true:=decide_eq_true (by omega)
 have hin:aG (i:Int) M.bX.length=true:=by simp only[aG,Bool.and_eq_true,decide_eq_true_eq];omega
 unfold fD at *
 refine aa names (yZ M i) ?_
 simp only[vC,Tree.ok,isStr,isInt,aH,isBool,aN,au,aT,aq,aA,aj,Int.toNat_natCast,Bool.and_true,Bool.true_and,beq_self_eq_true,bne_self_eq_false,Bool.not_true,Bool.and_self,Bool.false_eq_true,Bool.true_eq_false,gj,hH,pH,D7,D8,hd,hin,w]
 exact⟨fun _=>⟨(by first | rfl | trivial | (simp[eL,kV,Ew];done)),(fun q=>(by cases q)),fun _=>h⟩,fun q=>(by cases q)⟩
theorem MP (M:Mo) (o:Out) (h:Am.Good Tryz.prog env (fD 38 6 175 M 0) o):Am.Good Tryz.prog env (fD 38 3 175 M M.bX.length) o:=by
 have hd:decide ((M.bX.length:Int)<(M.bX.length:Int))=false:=decide_eq_false (by omega)
 unfold fD at *
 refine aa names (yZ M M.bX.length) ?_
 simp only[vC,Tree.ok,hd]
 exact⟨fun q=>(by cases q),fun _=>h⟩
theorem nK (vs:List AV) (m:Mem):af Tryz.prog nI 38 6 vs m 0 175=af Tryz.prog env 38 6 vs m 0 175:=by kernel_rfl
theorem CI (vs:List AV) (m:Mem):af Tryz.prog nI 38 9 vs m 0 175=af Tryz.prog env 38 9 vs m 0 175:=by kernel_rfl
theorem HR (M:Mo) (hl:M.gls.length≤1000000) (hc : ∀x∈M.gls,dU x.l≤1000000) (o:Out) (i:Nat) (x:Gl) (hx:M.gls[i]? = some x) (h:Am.Good Tryz.prog env (fD 38 6 175 M (i+1)) o):Am.Good Tryz.prog env (fD 38 6 175 M i) o:=by
 have hi:i<M.gls.length:=(List.getElem?_eq_some_iff.1 hx).1
 have hmem:=List.mem_of_getElem? hx
 have c:=aM (z:=2) (enc:=aY) (fun _=>rfl) hx
 have gj:(M.gls.flatMap aY).getD (i*2) .bad = .sc (.bool x.mu):=c 0 (by decide)
 have hH:(M.gls.flatMap aY).getD (i*2+0) .bad = .sc (.bool x.mu):=c 0 (by decide)
 have pH:(M.gls.flatMap aY).getD (i*2+1) .bad=pL x.l:=c 1 (by decide)
 have w:IntKind.i64.wrap ((i:Int)+1)=((i+1:Nat):Int):=by rw[aD (by omega) (by omega)];rfl
 have hd:decide ((i:Int)<(M.gls.length:Int))=true:=decide_eq_true (by omega)
 have hin:aG (i:Int) M.gls.length=true:=by simp only[aG,Bool.and_eq_true,decide_eq_true_eq];omega
 unfold fD at *
 rw[←nK]
 refine oZ ?_
 refine aa names (zf M i) ?_
 simp only[vH,Tree.ok,isStr,isInt,aH,isBool,aN,au,aT,aq,aA,aj,Int.toNat_natCast,Bool.and_true,Bool.true_and,beq_self_eq_true,bne_self_eq_false,Bool.not_true,Bool.and_self,Bool.false_eq_true,Bool.true_eq_false,gj,hH,pH,hd,hin,w]
 exact⟨fun _=>⟨aC.toW (gk _ x.l (Nat.le_refl _) (hc x hmem)),(by first | rfl | trivial | (simp[eL,kV,Ew];done)),(by rw[nK];exact vJ h)⟩,fun q=>(by cases q)⟩
theorem MQ (M:Mo) (o:Out) (h:Am.Good Tryz.prog env (fD 38 9 175 M 0) o):Am.Good Tryz.prog env (fD 38 6 175 M M.gls.length) o:=by
 have hd:decide ((M.gls.length:Int)<(M.gls.length:Int))=false:=decide_eq_false (by omega)
 unfold fD at *
 rw[←nK]
 refine oZ ?_
 refine aa names (zf M M.gls.length) ?_
 simp only[vH,Tree.ok,hd]
 exact⟨fun q=>(by cases q),fun _=>(by rw[CI];exact vJ h)⟩
theorem HS (M:Mo) (hl:M.exs.length≤1000000) (o:Out) (i:Nat) (x:Ex) (hx:M.exs[i]? = some x) (h:Am.Good Tryz.prog env (fD 38 9 175 M (i+1)) o):Am.Good Tryz.prog env (fD 38 9 175 M i) o:=by
 have hi:i<M.exs.length:=(List.getElem?_eq_some_iff.1 hx).1
 have hmem:=List.mem_of_getElem? hx
 have c:=aM (z:=3) (enc:=aP) (fun _=>rfl) hx
 have gj:(M.exs.flatMap aP).getD (i*3) .bad = .sc (.string x.nm):=c 0 (by decide)
 have hH:(M.exs.flatMap aP).getD (i*3+0) .bad = .sc (.string x.nm):=c 0 (by decide)
 have pH:(M.exs.flatMap aP).getD (i*3+1) .bad = .sc (.int .i64 x.kind):=c 1 (by decide)
 have D7:(M.exs.flatMap aP).getD (i*3+1+1) .bad = .sc (.int .u32 x.ix):=c 2 (by decide)
 have D8:(M.exs.flatMap aP).getD (i*3+2) .bad = .sc (.int .u32 x.ix):=c 2 (by decide)
 have w:IntKind.i64.wrap ((i:Int)+1)=((i+1:Nat):Int):=by rw[aD (by omega) (by omega)];rfl
 have hd:decide ((i:Int)<(M.exs.length:Int))=true:=decide_eq_true (by omega)
 have hin:aG (i:Int) M.exs.length=true:=by simp only[aG,Bool.and_eq_true,decide_eq_true_eq];omega
 unfold fD at *
 refine aa names (zg M i) ?_
 simp only[vI,Tree.ok,isStr,isInt,aH,isBool,aN,au,aT,aq,aA,aj,Int.toNat_natCast,Bool.and_true,Bool.true_and,beq_self_eq_true,bne_self_eq_false,Bool.not_true,Bool.and_self,Bool.false_eq_true,Bool.true_eq_false,gj,hH,pH,D7,D8,hd,hin,w]
 exact⟨fun _=>⟨(by first | rfl | trivial | (simp[eL,kV,Ew];done)),(fun q=>(by cases q)),fun _=>h⟩,fun q=>(by cases q)⟩
theorem MR (M:Mo) (o:Out) (h:Am.Good Tryz.prog env (fD 38 12 175 M 0) o):Am.Good Tryz.prog env (fD 38 9 175 M M.exs.length) o:=by
 have hd:decide ((M.exs.length:Int)<(M.exs.length:Int))=false:=decide_eq_false (by omega)
 unfold fD at *
 refine aa names (zg M M.exs.length) ?_
 simp only[vI,Tree.ok,hd]
 exact⟨fun q=>(by cases q),fun _=>h⟩
theorem HT (M:Mo) (hl:M.els.length≤1000000) (hc : ∀x∈M.els,dU x.l≤1000000∧x.fs.length≤1000000) (o:Out) (i:Nat) (x:El) (hx:M.els[i]? = some x) (h:Am.Good Tryz.prog env (fD 38 12 175 M (i+1)) o):Am.Good Tryz.prog env (fD 38 12 175 M i) o:=by
 have hi:i<M.els.length:=(List.getElem?_eq_some_iff.1 hx).1
 have hmem:=List.mem_of_getElem? hx
 have c:=aM (z:=2) (enc:=aJ) (fun _=>rfl) hx
 have gj:(M.els.flatMap aJ).getD (i*2) .bad=pL x.l:=c 0 (by decide)
 have hH:(M.els.flatMap aJ).getD (i*2+0) .bad=pL x.l:=c 0 (by decide)
 have pH:(M.els.flatMap aJ).getD (i*2+1) .bad=pT .u32 x.fs:=c 1 (by decide)
 have w:IntKind.i64.wrap ((i:Int)+1)=((i+1:Nat):Int):=by rw[aD (by omega) (by omega)];rfl
 have hd:decide ((i:Int)<(M.els.length:Int))=true:=decide_eq_true (by omega)
 have hin:aG (i:Int) M.els.length=true:=by simp only[aG,Bool.and_eq_true,decide_eq_true_eq];omega
 unfold fD at *
 refine aa names (za M i) ?_
 simp only[vD,Tree.ok,isStr,isInt,aH,isBool,aN,au,aT,aq,aA,aj,Int.toNat_natCast,Bool.and_true,Bool.true_and,beq_self_eq_true,bne_self_eq_false,Bool.not_true,Bool.and_self,Bool.false_eq_true,Bool.true_eq_false,gj,hH,pH,hd,hin,w]
 exact⟨fun _=>⟨(gk _ x.l (Nat.le_refl _) (hc x hmem).1),(vK x.fs (hc x hmem).2),(by first | rfl | trivial | (simp[eL,kV,Ew];done)),h⟩,fun q=>(by cases q)⟩
theorem MS (M:Mo) (o:Out) (h:Am.Good Tryz.prog env (fD 38 15 175 M 0) o):Am.Good Tryz.prog env (fD 38 12 175 M M.els.length) o:=by
 have hd:decide ((M.els.length:Int)<(M.els.length:Int))=false:=decide_eq_false (by omega)
 unfold fD at *
 refine aa names (za M M.els.length) ?_
 simp only[vD,Tree.ok,hd]
 exact⟨fun q=>(by cases q),fun _=>h⟩
theorem HU (M:Mo) (hl:M.aW.length≤1000000) (hc : ∀x∈M.aW,dU x.l≤1000000∧x.bs.length≤1000000) (o:Out) (i:Nat) (x:Da) (hx:M.aW[i]? = some x) (h:Am.Good Tryz.prog env (fD 38 15 175 M (i+1)) o):Am.Good Tryz.prog env (fD 38 15 175 M i) o:=by
 have hi:i<M.aW.length:=(List.getElem?_eq_some_iff.1 hx).1
 have hmem:=List.mem_of_getElem? hx
 have c:=aM (z:=2) (enc:=aV) (fun _=>rfl) hx
 have gj:(M.aW.flatMap aV).getD (i*2) .bad=pL x.l:=c 0 (by decide)
 have hH:(M.aW.flatMap aV).getD (i*2+0) .bad=pL x.l:=c 0 (by decide)
 have pH:(M.aW.flatMap aV).getD (i*2+1) .bad=pT .u8 x.bs:=c 1 (by decide)
 have w:IntKind.i64.wrap ((i:Int)+1)=((i+1:Nat):Int):=by rw[aD (by omega) (by omega)];rfl
 have hd:decide ((i:Int)<(M.aW.length:Int))=true:=decide_eq_true (by omega)
 have hin:aG (i:Int) M.aW.length=true:=by simp only[aG,Bool.and_eq_true,decide_eq_true_eq];omega
 unfold fD at *
 refine aa names (zb M i) ?_
 simp only[vE,Tree.ok,isStr,isInt,aH,isBool,aN,au,aT,aq,aA,aj,Int.toNat_natCast,Bool.and_true,Bool.true_and,beq_self_eq_true,bne_self_eq_false,Bool.not_true,Bool.and_self,Bool.false_eq_true,Bool.true_eq_false,gj,hH,pH,hd,hin,w]
 exact⟨fun _=>⟨(gk _ x.l (Nat.le_refl _) (hc x hmem).1),(Ek x.bs),(by first | rfl | trivial | (simp[eL,kV,Ew];done)),h⟩,fun q=>(by cases q)⟩
theorem MT (M:Mo) (o:Out) (h:Out.ret (sB true) []=o):Am.Good Tryz.prog env (fD 38 15 175 M M.aW.length) o:=by
 have hd:decide ((M.aW.length:Int)<(M.aW.length:Int))=false:=decide_eq_false (by omega)
 unfold fD at *
 refine aa names (zb M M.aW.length) ?_
 simp only[vE,Tree.ok,hd]
 exact⟨fun q=>(by cases q),fun _=>h⟩
theorem En (M:Mo) (hM:M.fit) (hn:M.HL):aC Tryz.prog env 38 [.agg (M.aE.map .p),.agg (M.aE.map .p)] [] (sB true) []:=by
 refine ah names (MK M) ?_
 refine iP (D:=fD 38 0 175 M) (HP M hM.bW _) (MO M _ ?_)
 refine iP (D:=fD 38 3 175 M) (HQ M hM.bX _) (MP M _ ?_)
 refine iP (D:=fD 38 6 175 M) (HR M hM.gls hn.gls _) (MQ M _ ?_)
 refine iP (D:=fD 38 9 175 M) (HS M hM.exs _) (MR M _ ?_)
 refine iP (D:=fD 38 12 175 M) (HT M hM.els hn.els _) (MS M _ ?_)
 exact iP (D:=fD 38 15 175 M) (HU M hM.aW hn.aW _) (MT M _ rfl)
theorem Eo (M:Mo) (hM:M.fit) (hn:M.HL):aC Tryz.prog env 16 [.agg (M.aE.map .p),.agg (M.aE.map .p)] [] (sB true) []:=by
 refine ah names (MJ M) ?_
 have hb:(!M.st==M.st)=false:=by cases M.st<;>rfl
 simp only[F6,Tree.ok,bne_self_eq_false,hb]
 refine⟨fun q=>(by cases q),fun _=>⟨fun q=>(by cases q),fun _=>⟨fun q=>(by cases q),fun _=>⟨fun q=>(by cases q),fun _=>⟨fun q=>(by cases q),fun _=>⟨fun q=>(by cases q),fun _=>⟨fun q=>(by cases q),fun _=>⟨fun q=>(by cases q),fun _=>⟨fun q=>(by cases q),fun _=>⟨fun q=>(by cases q),fun _=>⟨fun q=>(by cases q),fun _=> ?_⟩⟩⟩⟩⟩⟩⟩⟩⟩⟩⟩
 refine iP (D:=fD 16 1 176 M) (HM M hM.tys _) (ML M _ ?_)
 refine iP (D:=fD 16 4 176 M) (HN M hM.aI _) (MM M _ ?_)
 exact iP (D:=fD 16 7 176 M) (HO M hM.fns hn.fns _) (MN M _ ⟨En M hM hn,rfl⟩)
end Go.Proofs.YtdmmllcjgjmbbaaGreatDoor.N
end
