import Derived.Test.YtjfgfhaoeicpdaaGreatDoorMQ
open Nat renaming le_refl→bj,beq→ae
open List renaming map→abG
open Go.Proofs.Tryz renaming prog→ab5
open Go.IntKind renaming i64→rn,u64→afo
open Go.TypeInfo renaming mk→aca
open Go.TypeDesc renaming int→afE,bool→afM
open Option renaming some→acx
noncomputable section
section
set_option linter.unusedSimpArgs false
namespace Go.Proofs.YtjfgfhaoeicpdaaGreatDoor.N
open Go Go.Am
def QG (f:FuncId):Bool:=ae f 134||(ae f 136||(ae f 130||(ae f 143||ae f 109)))
def Ae (_M:Md) (_tP _tR _own _h:Int) (_k:Nat) (_cs:List PV) (_e _p _nx _n _q _r h2:Int) (k2:Nat) (c2:List PV) (_ec:Int) (f:FuncId) (_:List AV) (m:Mem):Option (AV×Mem):=cond (QG f) (some (.aA [.agg [sI .i64 h2,.ms 1 0 k2 4 none],sI .i64 0],m++[dj c2])) none
def Jv (_M:Md) (_tP _tR _own _h:Int) (_k:Nat) (_cs:List PV) (_e _p _nx _n _q _r _h2:Int) (_k2:Nat) (_c2:List PV) (ec:Int) (f:FuncId) (_:List AV) (m:Mem):Option (AV×Mem):=cond (QG f) (some (.aA [.agg [sI .i64 0,.os none 0 0 []],sI .i64 ec],m)) none
def ahk (_M:Md) (_tP _tR _own _h:Int) (_k:Nat) (_cs:List PV) (_e _p _nx _a _q v:Int) (_ec:Int) (f:FuncId) (_:List AV) (m:Mem):Option (AV×Mem):=cond (ae f 132) (some (.aA [sI .i64 v,sI .i64 0],m)) none
def ahl (f:FuncId) (_:List AV) (m:Mem):Option (AV×Mem):=cond (ae f 138) (some (sI .i64 0,m)) none
def ahm (_h:Int) (_n k:Nat) (_cs:List PV) (_a op base res:Int) (dead:Bool):FuncId→Nat→Nat→Option (AV→AV):=cL [(132,6,7,sI .i64 k),(132,6,9,.agg [sI .i64 op,sI .i64 base,sI .i64 res,sB dead])]
def QH (M:Md) (tP tR own h:Int) (k:Nat) (cs:List PV) (e p nx n q r h2:Int) (k2:Nat) (c2:List PV) (ec:Int):bD:=aQ (Ae M tP tR own h k cs e p nx n q r h2 k2 c2 ec) (Ae M tP tR own h k cs e p nx n q r h2 k2 c2 ec) [] [] []
def UU:Sc:= .fin
def Bu (M:Md) (tP tR own h:Int) (k:Nat) (cs:List PV) (_e p nx n _q _r h2:Int) (k2:Nat) (c2:List PV) (_ec:Int):aC:=
 (.call ⟨134,[.agg [sI .i64 h,.ms 0 0 k 4 none],sI .i64 n],[.ob (aG.gr 185 true) (abG aa (abG aa (abG aa (abG AV.p cs))))],.aA [.agg [sI .i64 h2,.ms 1 0 k2 4 none],sI .i64 0],[.ob (aG.gr 185 true) (abG aa (abG aa (abG aa (abG AV.p cs)))),.ob (aG.gr 185 true) (abG AV.p c2)]⟩
 (.out (.ret (.aA []) [.ac [.p (.ps M.mZ 2 M.tJ),.p (.ps M.uZ 3 M.CZ),.p (.ps M.vT 3 M.tK),.p (.ps M.sy 3 M.C0),.p (.ps M.tN 3 M.C1),.p (.ps M.jB 2 M.yY),.p (.ps M.C2 3 M.C3),.p (.sc (.bool M.st)),sI .u32 M.sn,.p (.ps M.C4 2 M.C5),.p (.ps M.C6 2 M.C7),sI .i64 tP,sI .i64 tR,sI .u64 own,sI .i64 h2,.ms 2 0 k2 4 none,sI .i64 0,sI .i64 p,sI .i64 nx],.ob (aG.gr 185 true) (abG aa (abG aa (abG aa (abG aa (abG aa (abG aa (abG aa (abG aa (abG aa (abG aa (abG aa (abG aa (abG AV.p cs))))))))))))),.ob (aG.gr 185 true) (abG aa (abG aa (abG aa (abG aa (abG aa (abG aa (abG AV.p c2)))))))])))
theorem Hp (M:Md) (tP tR own h:Int) (k:Nat) (cs:List PV) (e p nx n q r h2:Int) (k2:Nat) (c2:List PV) (ec:Int):aH ab5 env (QH M tP tR own h k cs e p nx n q r h2 k2 c2 ec) 1000000 117 ([AV.mp 0 0,sI rn n,sI rn q]) ([bf M tP tR own h 1 k 0 p nx,dj cs]) UU=Bu M tP tR own h k cs e p nx n q r h2 k2 c2 ec:=by kernel_rfl
def QI (M:Md) (tP tR own h:Int) (k:Nat) (cs:List PV) (e p nx n q r h2:Int) (k2:Nat) (c2:List PV) (ec:Int):bD:=aQ (Jv M tP tR own h k cs e p nx n q r h2 k2 c2 ec) (Jv M tP tR own h k cs e p nx n q r h2 k2 c2 ec) [] [(123,0,0),(107,0,1)] []
def UW:Sc:=(.yes (.no .fin))
def Bv (M:Md) (tP tR own h:Int) (k:Nat) (cs:List PV) (_e _p nx n q _r _h2:Int) (_k2:Nat) (_c2:List PV) (ec:Int):aC:=
 (.call ⟨134,[.agg [sI .i64 h,.ms 0 0 k 4 none],sI .i64 n],[.ob (aG.gr 185 true) (abG aa (abG aa (abG aa (abG AV.p cs))))],.aA [.agg [sI .i64 0,mq],sI .i64 ec],[.ob (aG.gr 185 true) (abG aa (abG aa (abG aa (abG AV.p cs))))]⟩
 (.must (ec != 0)
 (.must (!(ec==0))
 (.out (.ret (.aA []) [.ac [.p (.ps M.mZ 2 M.tJ),.p (.ps M.uZ 3 M.CZ),.p (.ps M.vT 3 M.tK),.p (.ps M.sy 3 M.C0),.p (.ps M.tN 3 M.C1),.p (.ps M.jB 2 M.yY),.p (.ps M.C2 3 M.C3),.p (.sc (.bool M.st)),sI .u32 M.sn,.p (.ps M.C4 2 M.C5),.p (.ps M.C6 2 M.C7),sI .i64 tP,sI .i64 tR,sI .u64 own,sI .i64 h,.ms 1 0 k 4 none,sI .i64 ec,sI .i64 q,sI .i64 nx],.ob (aG.gr 185 true) (abG aa (abG aa (abG aa (abG aa (abG aa (abG aa (abG aa (abG aa (abG aa (abG aa (abG aa (abG aa (abG AV.p cs)))))))))))))])))))
theorem Hq (M:Md) (tP tR own h:Int) (k:Nat) (cs:List PV) (e p nx n q r h2:Int) (k2:Nat) (c2:List PV) (ec:Int):aH ab5 env (QI M tP tR own h k cs e p nx n q r h2 k2 c2 ec) 1000000 117 ([AV.mp 0 0,sI rn n,sI rn q]) ([bf M tP tR own h 1 k 0 p nx,dj cs]) UW=Bv M tP tR own h k cs e p nx n q r h2 k2 c2 ec:=by kernel_rfl
def QJ:bD:=aQ aI av [] [(107,0,0)] []
def UX:Sc:=(.yes .fin)
def Bw (M:Md) (tP tR own h:Int) (k:Nat) (cs:List PV) (e p nx _n _q _r _h2:Int) (_k2:Nat) (_c2:List PV) (_ec:Int):aC:=
 (.must (e != 0)
 (.out (.ret (.aA []) [.ac [.p (.ps M.mZ 2 M.tJ),.p (.ps M.uZ 3 M.CZ),.p (.ps M.vT 3 M.tK),.p (.ps M.sy 3 M.C0),.p (.ps M.tN 3 M.C1),.p (.ps M.jB 2 M.yY),.p (.ps M.C2 3 M.C3),.p (.sc (.bool M.st)),sI .u32 M.sn,.p (.ps M.C4 2 M.C5),.p (.ps M.C6 2 M.C7),sI .i64 tP,sI .i64 tR,sI .u64 own,sI .i64 h,.ms 1 0 k 4 none,sI .i64 e,sI .i64 p,sI .i64 nx],.ob (aG.gr 185 true) (abG aa (abG aa (abG aa (abG aa (abG AV.p cs)))))])))
theorem Hr (M:Md) (tP tR own h:Int) (k:Nat) (cs:List PV) (e p nx n q r h2:Int) (k2:Nat) (c2:List PV) (ec:Int):aH ab5 env QJ 1000000 117 ([AV.mp 0 0,sI rn n,sI rn q]) ([bf M tP tR own h 1 k e p nx,dj cs]) UX=Bw M tP tR own h k cs e p nx n q r h2 k2 c2 ec:=by kernel_rfl
def QK (M:Md) (tP tR own h:Int) (k:Nat) (cs:List PV) (e p nx n q r h2:Int) (k2:Nat) (c2:List PV) (ec:Int):bD:=aQ (Ae M tP tR own h k cs e p nx n q r h2 k2 c2 ec) (Ae M tP tR own h k cs e p nx n q r h2 k2 c2 ec) [] [] []
def UY:Sc:= .fin
def Bx (M:Md) (tP tR own h:Int) (k:Nat) (cs:List PV) (_e p nx n _q _r h2:Int) (k2:Nat) (c2:List PV) (_ec:Int):aC:=
 (.call ⟨136,[.agg [sI .i64 h,.ms 0 0 k 4 none],sI .i64 n],[.ob (aG.gr 185 true) (abG aa (abG aa (abG aa (abG AV.p cs))))],.aA [.agg [sI .i64 h2,.ms 1 0 k2 4 none],sI .i64 0],[.ob (aG.gr 185 true) (abG aa (abG aa (abG aa (abG AV.p cs)))),.ob (aG.gr 185 true) (abG AV.p c2)]⟩
 (.out (.ret (.aA []) [.ac [.p (.ps M.mZ 2 M.tJ),.p (.ps M.uZ 3 M.CZ),.p (.ps M.vT 3 M.tK),.p (.ps M.sy 3 M.C0),.p (.ps M.tN 3 M.C1),.p (.ps M.jB 2 M.yY),.p (.ps M.C2 3 M.C3),.p (.sc (.bool M.st)),sI .u32 M.sn,.p (.ps M.C4 2 M.C5),.p (.ps M.C6 2 M.C7),sI .i64 tP,sI .i64 tR,sI .u64 own,sI .i64 h2,.ms 2 0 k2 4 none,sI .i64 0,sI .i64 p,sI .i64 nx],.ob (aG.gr 185 true) (abG aa (abG aa (abG aa (abG aa (abG aa (abG aa (abG aa (abG aa (abG aa (abG aa (abG aa (abG aa (abG AV.p cs))))))))))))),.ob (aG.gr 185 true) (abG aa (abG aa (abG aa (abG aa (abG aa (abG aa (abG AV.p c2)))))))])))
theorem Hs (M:Md) (tP tR own h:Int) (k:Nat) (cs:List PV) (e p nx n q r h2:Int) (k2:Nat) (c2:List PV) (ec:Int):aH ab5 env (QK M tP tR own h k cs e p nx n q r h2 k2 c2 ec) 1000000 118 ([AV.mp 0 0,sI rn n,sI rn q]) ([bf M tP tR own h 1 k 0 p nx,dj cs]) UY=Bx M tP tR own h k cs e p nx n q r h2 k2 c2 ec:=by kernel_rfl
def QL:bD:=aQ aI av [] [(107,0,0)] []
def UZ:Sc:=(.yes .fin)
def By (M:Md) (tP tR own h:Int) (k:Nat) (cs:List PV) (e p nx _n _q _r _h2:Int) (_k2:Nat) (_c2:List PV) (_ec:Int):aC:=
 (.must (e != 0)
 (.out (.ret (.aA []) [.ac [.p (.ps M.mZ 2 M.tJ),.p (.ps M.uZ 3 M.CZ),.p (.ps M.vT 3 M.tK),.p (.ps M.sy 3 M.C0),.p (.ps M.tN 3 M.C1),.p (.ps M.jB 2 M.yY),.p (.ps M.C2 3 M.C3),.p (.sc (.bool M.st)),sI .u32 M.sn,.p (.ps M.C4 2 M.C5),.p (.ps M.C6 2 M.C7),sI .i64 tP,sI .i64 tR,sI .u64 own,sI .i64 h,.ms 1 0 k 4 none,sI .i64 e,sI .i64 p,sI .i64 nx],.ob (aG.gr 185 true) (abG aa (abG aa (abG aa (abG aa (abG AV.p cs)))))])))
theorem Ht (M:Md) (tP tR own h:Int) (k:Nat) (cs:List PV) (e p nx n q r h2:Int) (k2:Nat) (c2:List PV) (ec:Int):aH ab5 env QL 1000000 118 ([AV.mp 0 0,sI rn n,sI rn q]) ([bf M tP tR own h 1 k e p nx,dj cs]) UZ=By M tP tR own h k cs e p nx n q r h2 k2 c2 ec:=by kernel_rfl
def QM (M:Md) (tP tR own h:Int) (k:Nat) (cs:List PV) (e p nx n q r h2:Int) (k2:Nat) (c2:List PV) (ec:Int):bD:=aQ (Ae M tP tR own h k cs e p nx n q r h2 k2 c2 ec) (Ae M tP tR own h k cs e p nx n q r h2 k2 c2 ec) [] [] []
def U0:Sc:= .fin
def Bz (M:Md) (tP tR own h:Int) (k:Nat) (cs:List PV) (_e p nx _n _q _r h2:Int) (k2:Nat) (c2:List PV) (_ec:Int):aC:=
 (.call ⟨130,[.agg [sI .i64 h,.ms 0 0 k 4 none]],[.ob (aG.gr 185 true) (abG aa (abG aa (abG aa (abG AV.p cs))))],.aA [.agg [sI .i64 h2,.ms 1 0 k2 4 none],sI .i64 0],[.ob (aG.gr 185 true) (abG aa (abG aa (abG aa (abG AV.p cs)))),.ob (aG.gr 185 true) (abG AV.p c2)]⟩
 (.out (.ret (.aA []) [.ac [.p (.ps M.mZ 2 M.tJ),.p (.ps M.uZ 3 M.CZ),.p (.ps M.vT 3 M.tK),.p (.ps M.sy 3 M.C0),.p (.ps M.tN 3 M.C1),.p (.ps M.jB 2 M.yY),.p (.ps M.C2 3 M.C3),.p (.sc (.bool M.st)),sI .u32 M.sn,.p (.ps M.C4 2 M.C5),.p (.ps M.C6 2 M.C7),sI .i64 tP,sI .i64 tR,sI .u64 own,sI .i64 h2,.ms 2 0 k2 4 none,sI .i64 0,sI .i64 p,sI .i64 nx],.ob (aG.gr 185 true) (abG aa (abG aa (abG aa (abG aa (abG aa (abG aa (abG aa (abG aa (abG aa (abG aa (abG aa (abG aa (abG AV.p cs))))))))))))),.ob (aG.gr 185 true) (abG aa (abG aa (abG aa (abG aa (abG aa (abG aa (abG AV.p c2)))))))])))
theorem Hu (M:Md) (tP tR own h:Int) (k:Nat) (cs:List PV) (e p nx n q r h2:Int) (k2:Nat) (c2:List PV) (ec:Int):aH ab5 env (QM M tP tR own h k cs e p nx n q r h2 k2 c2 ec) 1000000 114 ([AV.mp 0 0,sI rn q]) ([bf M tP tR own h 1 k 0 p nx,dj cs]) U0=Bz M tP tR own h k cs e p nx n q r h2 k2 c2 ec:=by kernel_rfl
def QN:bD:=aQ aI av [] [(107,0,0)] []
def U1:Sc:=(.yes .fin)
def BA (M:Md) (tP tR own h:Int) (k:Nat) (cs:List PV) (e p nx _n _q _r _h2:Int) (_k2:Nat) (_c2:List PV) (_ec:Int):aC:=
 (.must (e != 0)
 (.out (.ret (.aA []) [.ac [.p (.ps M.mZ 2 M.tJ),.p (.ps M.uZ 3 M.CZ),.p (.ps M.vT 3 M.tK),.p (.ps M.sy 3 M.C0),.p (.ps M.tN 3 M.C1),.p (.ps M.jB 2 M.yY),.p (.ps M.C2 3 M.C3),.p (.sc (.bool M.st)),sI .u32 M.sn,.p (.ps M.C4 2 M.C5),.p (.ps M.C6 2 M.C7),sI .i64 tP,sI .i64 tR,sI .u64 own,sI .i64 h,.ms 1 0 k 4 none,sI .i64 e,sI .i64 p,sI .i64 nx],.ob (aG.gr 185 true) (abG aa (abG aa (abG aa (abG aa (abG AV.p cs)))))])))
theorem Hv (M:Md) (tP tR own h:Int) (k:Nat) (cs:List PV) (e p nx n q r h2:Int) (k2:Nat) (c2:List PV) (ec:Int):aH ab5 env QN 1000000 114 ([AV.mp 0 0,sI rn q]) ([bf M tP tR own h 1 k e p nx,dj cs]) U1=BA M tP tR own h k cs e p nx n q r h2 k2 c2 ec:=by kernel_rfl
def QO (M:Md) (tP tR own h:Int) (k:Nat) (cs:List PV) (e p nx n q r h2:Int) (k2:Nat) (c2:List PV) (ec:Int):bD:=aQ (Ae M tP tR own h k cs e p nx n q r h2 k2 c2 ec) (Ae M tP tR own h k cs e p nx n q r h2 k2 c2 ec) [] [] []
def U2:Sc:= .fin
def BB (M:Md) (tP tR own h:Int) (k:Nat) (cs:List PV) (_e p nx _n _q _r h2:Int) (k2:Nat) (c2:List PV) (_ec:Int):aC:=
 (.call ⟨109,[.agg [sI .i64 h,.ms 0 0 k 4 none]],[.ob (aG.gr 185 true) (abG aa (abG aa (abG aa (abG AV.p cs))))],.aA [.agg [sI .i64 h2,.ms 1 0 k2 4 none],sI .i64 0],[.ob (aG.gr 185 true) (abG aa (abG aa (abG aa (abG AV.p cs)))),.ob (aG.gr 185 true) (abG AV.p c2)]⟩
 (.out (.ret (.aA []) [.ac [.p (.ps M.mZ 2 M.tJ),.p (.ps M.uZ 3 M.CZ),.p (.ps M.vT 3 M.tK),.p (.ps M.sy 3 M.C0),.p (.ps M.tN 3 M.C1),.p (.ps M.jB 2 M.yY),.p (.ps M.C2 3 M.C3),.p (.sc (.bool M.st)),sI .u32 M.sn,.p (.ps M.C4 2 M.C5),.p (.ps M.C6 2 M.C7),sI .i64 tP,sI .i64 tR,sI .u64 own,sI .i64 h2,.ms 2 0 k2 4 none,sI .i64 0,sI .i64 p,sI .i64 nx],.ob (aG.gr 185 true) (abG aa (abG aa (abG aa (abG aa (abG aa (abG aa (abG aa (abG aa (abG aa (abG aa (abG aa (abG aa (abG AV.p cs))))))))))))),.ob (aG.gr 185 true) (abG aa (abG aa (abG aa (abG aa (abG aa (abG aa (abG AV.p c2)))))))])))
theorem Hw (M:Md) (tP tR own h:Int) (k:Nat) (cs:List PV) (e p nx n q r h2:Int) (k2:Nat) (c2:List PV) (ec:Int):aH ab5 env (QO M tP tR own h k cs e p nx n q r h2 k2 c2 ec) 1000000 91 ([AV.mp 0 0,sI rn q]) ([bf M tP tR own h 1 k 0 p nx,dj cs]) U2=BB M tP tR own h k cs e p nx n q r h2 k2 c2 ec:=by kernel_rfl
def QS (M:Md) (tP tR own h:Int) (k:Nat) (cs:List PV) (e p nx n q r h2:Int) (k2:Nat) (c2:List PV) (ec:Int):bD:=aQ (Jv M tP tR own h k cs e p nx n q r h2 k2 c2 ec) (Jv M tP tR own h k cs e p nx n q r h2 k2 c2 ec) [] [(123,0,0),(107,0,1)] []
def U3:Sc:=(.yes (.no .fin))
def BC (M:Md) (tP tR own h:Int) (k:Nat) (cs:List PV) (_e _p nx _n q _r _h2:Int) (_k2:Nat) (_c2:List PV) (ec:Int):aC:=
 (.call ⟨109,[.agg [sI .i64 h,.ms 0 0 k 4 none]],[.ob (aG.gr 185 true) (abG aa (abG aa (abG aa (abG AV.p cs))))],.aA [.agg [sI .i64 0,mq],sI .i64 ec],[.ob (aG.gr 185 true) (abG aa (abG aa (abG aa (abG AV.p cs))))]⟩
 (.must (ec != 0)
 (.must (!(ec==0))
 (.out (.ret (.aA []) [.ac [.p (.ps M.mZ 2 M.tJ),.p (.ps M.uZ 3 M.CZ),.p (.ps M.vT 3 M.tK),.p (.ps M.sy 3 M.C0),.p (.ps M.tN 3 M.C1),.p (.ps M.jB 2 M.yY),.p (.ps M.C2 3 M.C3),.p (.sc (.bool M.st)),sI .u32 M.sn,.p (.ps M.C4 2 M.C5),.p (.ps M.C6 2 M.C7),sI .i64 tP,sI .i64 tR,sI .u64 own,sI .i64 h,.ms 1 0 k 4 none,sI .i64 ec,sI .i64 q,sI .i64 nx],.ob (aG.gr 185 true) (abG aa (abG aa (abG aa (abG aa (abG aa (abG aa (abG aa (abG aa (abG aa (abG aa (abG aa (abG aa (abG AV.p cs)))))))))))))])))))
theorem Hx (M:Md) (tP tR own h:Int) (k:Nat) (cs:List PV) (e p nx n q r h2:Int) (k2:Nat) (c2:List PV) (ec:Int):aH ab5 env (QS M tP tR own h k cs e p nx n q r h2 k2 c2 ec) 1000000 91 ([AV.mp 0 0,sI rn q]) ([bf M tP tR own h 1 k 0 p nx,dj cs]) U3=BC M tP tR own h k cs e p nx n q r h2 k2 c2 ec:=by kernel_rfl
def QT:bD:=aQ aI av [] [(107,0,0)] []
def U4:Sc:=(.yes .fin)
def BD (M:Md) (tP tR own h:Int) (k:Nat) (cs:List PV) (e p nx _n _q _r _h2:Int) (_k2:Nat) (_c2:List PV) (_ec:Int):aC:=
 (.must (e != 0)
 (.out (.ret (.aA []) [.ac [.p (.ps M.mZ 2 M.tJ),.p (.ps M.uZ 3 M.CZ),.p (.ps M.vT 3 M.tK),.p (.ps M.sy 3 M.C0),.p (.ps M.tN 3 M.C1),.p (.ps M.jB 2 M.yY),.p (.ps M.C2 3 M.C3),.p (.sc (.bool M.st)),sI .u32 M.sn,.p (.ps M.C4 2 M.C5),.p (.ps M.C6 2 M.C7),sI .i64 tP,sI .i64 tR,sI .u64 own,sI .i64 h,.ms 1 0 k 4 none,sI .i64 e,sI .i64 p,sI .i64 nx],.ob (aG.gr 185 true) (abG aa (abG aa (abG aa (abG aa (abG AV.p cs)))))])))
theorem Hy (M:Md) (tP tR own h:Int) (k:Nat) (cs:List PV) (e p nx n q r h2:Int) (k2:Nat) (c2:List PV) (ec:Int):aH ab5 env QT 1000000 91 ([AV.mp 0 0,sI rn q]) ([bf M tP tR own h 1 k e p nx,dj cs]) U4=BD M tP tR own h k cs e p nx n q r h2 k2 c2 ec:=by kernel_rfl
def QU (M:Md) (tP tR own h:Int) (k:Nat) (cs:List PV) (e p nx n q r h2:Int) (k2:Nat) (c2:List PV) (ec:Int):bD:=aQ (Ae M tP tR own h k cs e p nx n q r h2 k2 c2 ec) (Ae M tP tR own h k cs e p nx n q r h2 k2 c2 ec) [] [] []
def U5:Sc:= .fin
def tO (M:Md) (tP tR own h:Int) (k:Nat) (cs:List PV) (_e p nx n _q r h2:Int) (k2:Nat) (c2:List PV) (_ec:Int):aC:=
 (.call ⟨143,[.agg [sI .i64 h,.ms 0 0 k 4 none],sI .i64 n,sI .i64 r],[.ob (aG.gr 185 true) (abG aa (abG aa (abG aa (abG AV.p cs))))],.aA [.agg [sI .i64 h2,.ms 1 0 k2 4 none],sI .i64 0],[.ob (aG.gr 185 true) (abG aa (abG aa (abG aa (abG AV.p cs)))),.ob (aG.gr 185 true) (abG AV.p c2)]⟩
 (.out (.ret (.aA []) [.ac [.p (.ps M.mZ 2 M.tJ),.p (.ps M.uZ 3 M.CZ),.p (.ps M.vT 3 M.tK),.p (.ps M.sy 3 M.C0),.p (.ps M.tN 3 M.C1),.p (.ps M.jB 2 M.yY),.p (.ps M.C2 3 M.C3),.p (.sc (.bool M.st)),sI .u32 M.sn,.p (.ps M.C4 2 M.C5),.p (.ps M.C6 2 M.C7),sI .i64 tP,sI .i64 tR,sI .u64 own,sI .i64 h2,.ms 2 0 k2 4 none,sI .i64 0,sI .i64 p,sI .i64 nx],.ob (aG.gr 185 true) (abG aa (abG aa (abG aa (abG aa (abG aa (abG aa (abG aa (abG aa (abG aa (abG aa (abG aa (abG aa (abG AV.p cs))))))))))))),.ob (aG.gr 185 true) (abG aa (abG aa (abG aa (abG aa (abG aa (abG aa (abG AV.p c2)))))))])))
theorem zh (M:Md) (tP tR own h:Int) (k:Nat) (cs:List PV) (e p nx n q r h2:Int) (k2:Nat) (c2:List PV) (ec:Int):aH ab5 env (QU M tP tR own h k cs e p nx n q r h2 k2 c2 ec) 1000000 131 ([AV.mp 0 0,sI rn n,sI rn r,sI rn q]) ([bf M tP tR own h 1 k 0 p nx,dj cs]) U5=tO M tP tR own h k cs e p nx n q r h2 k2 c2 ec:=by kernel_rfl
def QV:bD:=aQ aI av [] [(107,0,0)] []
def U6:Sc:=(.yes .fin)
def BE (M:Md) (tP tR own h:Int) (k:Nat) (cs:List PV) (e p nx _n _q _r _h2:Int) (_k2:Nat) (_c2:List PV) (_ec:Int):aC:=
 (.must (e != 0)
 (.out (.ret (.aA []) [.ac [.p (.ps M.mZ 2 M.tJ),.p (.ps M.uZ 3 M.CZ),.p (.ps M.vT 3 M.tK),.p (.ps M.sy 3 M.C0),.p (.ps M.tN 3 M.C1),.p (.ps M.jB 2 M.yY),.p (.ps M.C2 3 M.C3),.p (.sc (.bool M.st)),sI .u32 M.sn,.p (.ps M.C4 2 M.C5),.p (.ps M.C6 2 M.C7),sI .i64 tP,sI .i64 tR,sI .u64 own,sI .i64 h,.ms 1 0 k 4 none,sI .i64 e,sI .i64 p,sI .i64 nx],.ob (aG.gr 185 true) (abG aa (abG aa (abG aa (abG aa (abG AV.p cs)))))])))
theorem Hz (M:Md) (tP tR own h:Int) (k:Nat) (cs:List PV) (e p nx n q r h2:Int) (k2:Nat) (c2:List PV) (ec:Int):aH ab5 env QV 1000000 131 ([AV.mp 0 0,sI rn n,sI rn r,sI rn q]) ([bf M tP tR own h 1 k e p nx,dj cs]) U6=BE M tP tR own h k cs e p nx n q r h2 k2 c2 ec:=by kernel_rfl
def U7 (M:Md) (tP tR own h:Int) (k:Nat) (cs:List PV) (e p nx a q v ec:Int):bD:=aQ (ahk M tP tR own h k cs e p nx a q v ec) av [] [(116,0,0),(123,1,6)] []
def ZW:Sc:= .fin
def mJ (M:Md) (tP tR own h:Int) (k:Nat) (cs:List PV) (e p nx v:Int):aC:=
 (.out (.ret (sI .i64 v) [.ac [.p (.ps M.mZ 2 M.tJ),.p (.ps M.uZ 3 M.CZ),.p (.ps M.vT 3 M.tK),.p (.ps M.sy 3 M.C0),.p (.ps M.tN 3 M.C1),.p (.ps M.jB 2 M.yY),.p (.ps M.C2 3 M.C3),.p (.sc (.bool M.st)),sI .u32 M.sn,.p (.ps M.C4 2 M.C5),.p (.ps M.C6 2 M.C7),sI .i64 tP,sI .i64 tR,sI .u64 own,sI .i64 h,.ms 1 0 k 4 none,sI .i64 e,sI .i64 p,sI .i64 nx],.ob (aG.gr 185 true) (abG aa (abG aa (abG aa (abG aa (abG aa (abG aa (abG AV.p cs)))))))]))
def zi (M:Md) (tP tR own h:Int) (k:Nat) (cs:List PV) (e p nx a q v _ec:Int):aC:=
 (.test (decide (afo.wrap a≥afo.wrap (↑k:Int)))
 (.test (e==0)
 (.out (.ret (sI .i64 0) [.ac [.p (.ps M.mZ 2 M.tJ),.p (.ps M.uZ 3 M.CZ),.p (.ps M.vT 3 M.tK),.p (.ps M.sy 3 M.C0),.p (.ps M.tN 3 M.C1),.p (.ps M.jB 2 M.yY),.p (.ps M.C2 3 M.C3),.p (.sc (.bool M.st)),sI .u32 M.sn,.p (.ps M.C4 2 M.C5),.p (.ps M.C6 2 M.C7),sI .i64 tP,sI .i64 tR,sI .u64 own,sI .i64 h,.ms 1 0 k 4 none,sI .i64 6,sI .i64 q,sI .i64 nx],.ob (aG.gr 185 true) (abG aa (abG aa (abG aa (abG aa (abG AV.p cs)))))]))
 (.out (.ret (sI .i64 0) [.ac [.p (.ps M.mZ 2 M.tJ),.p (.ps M.uZ 3 M.CZ),.p (.ps M.vT 3 M.tK),.p (.ps M.sy 3 M.C0),.p (.ps M.tN 3 M.C1),.p (.ps M.jB 2 M.yY),.p (.ps M.C2 3 M.C3),.p (.sc (.bool M.st)),sI .u32 M.sn,.p (.ps M.C4 2 M.C5),.p (.ps M.C6 2 M.C7),sI .i64 tP,sI .i64 tR,sI .u64 own,sI .i64 h,.ms 1 0 k 4 none,sI .i64 e,sI .i64 p,sI .i64 nx],.ob (aG.gr 185 true) (abG aa (abG aa (abG aa (abG aa (abG AV.p cs)))))])))
 (.call ⟨132,[.agg [sI .i64 h,.ms 0 0 k 4 none],sI .i64 (rn.wrap a)],[.ob (aG.gr 185 true) (abG aa (abG AV.p cs))],.aA [sI .i64 v,sI .i64 0],[.ob (aG.gr 185 true) (abG aa (abG AV.p cs))]⟩
 (.test (e==0)
 (mJ M tP tR own h k cs e p nx v)
 (mJ M tP tR own h k cs e p nx v))))
theorem BF (M:Md) (tP tR own h:Int) (k:Nat) (cs:List PV) (e p nx a q v ec:Int):aH ab5 env (U7 M tP tR own h k cs e p nx a q v ec) 1000000 116 ([AV.mp 0 0,sI IntKind.u32 a,sI rn q]) ([bf M tP tR own h 1 k e p nx,dj cs]) ZW=zi M tP tR own h k cs e p nx a q v ec:=by kernel_rfl
def U8:bD:=aQ aI av [] [(120,0,0),(123,1,6),(123,0,0)] []
def ZX:Sc:=(.fork (.fork .fin (.lit .fin)) .fin)
def qp (M:Md) (tP tR own h:Int) (k:Nat) (cs:List PV) (e p nx:Int):aC:=
 (.out (.ret (.aA []) [.ac [.p (.ps M.mZ 2 M.tJ),.p (.ps M.uZ 3 M.CZ),.p (.ps M.vT 3 M.tK),.p (.ps M.sy 3 M.C0),.p (.ps M.tN 3 M.C1),.p (.ps M.jB 2 M.yY),.p (.ps M.C2 3 M.C3),.p (.sc (.bool M.st)),sI .u32 M.sn,.p (.ps M.C4 2 M.C5),.p (.ps M.C6 2 M.C7),sI .i64 tP,sI .i64 tR,sI .u64 own,sI .i64 h,.ms 1 0 k 4 none,sI .i64 e,sI .i64 p,sI .i64 nx],.ob (aG.gr 185 true) (abG aa (abG aa (abG aa (abG aa (abG AV.p cs)))))]))
def Fh (M:Md) (tP tR own h:Int) (k:Nat) (cs:List PV) (e p nx q ec:Int) (b:Bool):aC:=
 (.test (!b)
 (.test (e==0)
 (.test (ec != 0)
 (.out (.ret (.aA []) [.ac [.p (.ps M.mZ 2 M.tJ),.p (.ps M.uZ 3 M.CZ),.p (.ps M.vT 3 M.tK),.p (.ps M.sy 3 M.C0),.p (.ps M.tN 3 M.C1),.p (.ps M.jB 2 M.yY),.p (.ps M.C2 3 M.C3),.p (.sc (.bool M.st)),sI .u32 M.sn,.p (.ps M.C4 2 M.C5),.p (.ps M.C6 2 M.C7),sI .i64 tP,sI .i64 tR,sI .u64 own,sI .i64 h,.ms 1 0 k 4 none,sI .i64 ec,sI .i64 q,sI .i64 nx],.ob (aG.gr 185 true) (abG aa (abG aa (abG aa (abG aa (abG AV.p cs)))))]))
 (qp M tP tR own h k cs e p nx))
 (qp M tP tR own h k cs e p nx))
 (.out (.ret (.aA []) [.ac [.p (.ps M.mZ 2 M.tJ),.p (.ps M.uZ 3 M.CZ),.p (.ps M.vT 3 M.tK),.p (.ps M.sy 3 M.C0),.p (.ps M.tN 3 M.C1),.p (.ps M.jB 2 M.yY),.p (.ps M.C2 3 M.C3),.p (.sc (.bool M.st)),sI .u32 M.sn,.p (.ps M.C4 2 M.C5),.p (.ps M.C6 2 M.C7),sI .i64 tP,sI .i64 tR,sI .u64 own,sI .i64 h,.ms 1 0 k 4 none,sI .i64 e,sI .i64 p,sI .i64 nx],.ob (aG.gr 185 true) (abG aa (abG AV.p cs))])))
theorem LJ (M:Md) (tP tR own h:Int) (k:Nat) (cs:List PV) (e p nx q ec:Int) (b:Bool):aH ab5 env U8 1000000 120 ([AV.mp 0 0,sB b,sI rn ec,sI rn q]) ([bf M tP tR own h 1 k e p nx,dj cs]) ZX=Fh M tP tR own h k cs e p nx q ec b:=by kernel_rfl
def U9 (h:Int) (n:Nat) (k:Nat) (cs:List PV) (a op base res:Int) (dead:Bool):bD:=fy ahl av [] [(132,4,3),(132,0,1),(132,0,2)] [(132,6,8),(132,6,9)] (ahm h n k cs a op base res dead)
def ZY:Sc:=(.fork (.lit .fin) .fin)
def qq (cs:List PV):aC:=
 (.out (.ret (.aA [sI .i64 0,sI .i64 6]) [.ob (aG.gr 185 true) (abG aa (abG aa (abG aa (abG AV.p cs))))]))
def Fi (h:Int) (n:Nat) (k:Nat) (cs:List PV) (a op base res:Int) (dead:Bool):aC:=
 (.call ⟨138,[.agg [sI .i64 h,.ms 0 0 n 4 none]],[.ob (aG.gr 185 true) (abG aa (abG AV.p cs))],sI .i64 0,[.ob (aG.gr 185 true) (abG aa (abG AV.p cs))]⟩
 (.test (decide (a<0))
 (qq cs)
 (.test (decide (a≥(↑n:Int)))
 (qq cs)
 (.need (sI .i64 (rn.wrap (rn.wrap ((↑n:Int)-1)-a))=sI rn (↑k:Int))
 (.must (bp (↑k:Int) n&&true&&true)
 (.must ((0+(aK k)*4+4).ble (abG aa (abG aa (abG AV.p cs))).length&&((bC (some (aca (afE rn) "int" 1 8 false 8 8 (some (.int .i64 0)) true #[]).desc) ((abG aa (abG aa (abG AV.p cs))).getD (0+(aK k)*4) .aj)).snd&&((bC (some (aca (afE rn) "int" 1 8 false 8 8 (some (.int .i64 0)) true #[]).desc) ((abG aa (abG aa (abG AV.p cs))).getD (0+(aK k)*4+1) .aj)).snd&&((bC (some (aca (afE rn) "int" 1 8 false 8 8 (some (.int .i64 0)) true #[]).desc) ((abG aa (abG aa (abG AV.p cs))).getD (0+(aK k)*4+1+1) .aj)).snd&&((bC (some (aca afM "bool" 1 1 false 1 1 (some (.bool false)) true #[]).desc) ((abG aa (abG aa (abG AV.p cs))).getD (0+(aK k)*4+1+1+1) .aj)).snd&&true))))&&true)
 (.need (AV.agg [(bC (acx (aca (afE rn) "int" 1 8 false 8 8 (acx (Value.int rn 0)) true #[]).desc) ((abG aa (abG aa (abG AV.p cs))).getD (0+(aK k)*4) AV.aj)).fst,(bC (acx (aca (afE rn) "int" 1 8 false 8 8 (acx (Value.int rn 0)) true #[]).desc) ((abG aa (abG aa (abG AV.p cs))).getD (0+(aK k)*4+1) AV.aj)).fst,(bC (acx (aca (afE rn) "int" 1 8 false 8 8 (acx (Value.int rn 0)) true #[]).desc) ((abG aa (abG aa (abG AV.p cs))).getD (0+(aK k)*4+1+1) AV.aj)).fst,(bC (acx (aca afM "bool" 1 1 false 1 1 (acx (Value.bool false)) true #[]).desc) ((abG aa (abG aa (abG AV.p cs))).getD (0+(aK k)*4+1+1+1) AV.aj)).fst]=AV.agg [sI rn op,sI rn base,sI rn res,sB dead])
 (.test (op==3)
 (.out (.ret (.aA [sI .i64 0,sI .i64 0]) [.ob (aG.gr 185 true) (abG aa (abG aa (abG aa (abG AV.p cs))))]))
 (.out (.ret (.aA [sI .i64 res,sI .i64 0]) [.ob (aG.gr 185 true) (abG aa (abG aa (abG aa (abG AV.p cs))))]))))))))))
theorem LK (h:Int) (n:Nat) (k:Nat) (cs:List PV) (a op base res:Int) (dead:Bool):aH ab5 env (U9 h n k cs a op base res dead) 1000000 132 ([AV.agg [sI rn h,AV.ms 0 0 n 4 Option.none],sI rn a]) ([dj cs]) ZY=Fi h n k cs a op base res dead:=by kernel_rfl
structure Lx where
 M:Md
 tP:Int
 tR:Int
 own:Int
structure Rw where
 h:Int
 k:Nat
 cs:List PV
 e:Int
 p:Int
 nx:Int
abbrev eK (X:Lx) (R:Rw):Mem:=[bf X.M X.tP X.tR X.own R.h 1 R.k R.e R.p R.nx,dj R.cs]
abbrev kU (X:Lx) (R:Rw):Mem:=[bf X.M X.tP X.tR X.own R.h 2 R.k R.e R.p R.nx,.dead,dj R.cs]
def cT (X:Lx) (f:FuncId) (args:List AV) (R R':Rw):Prop:=an ab5 env f (.mp 0 0::args) (eK X R) (.aA []) (kU X R')
def Ask (X:Lx) (f:FuncId) (args:List AV) (v:AV) (R R':Rw):Prop:=an ab5 env f (.mp 0 0::args) (eK X R) v (eK X R')
section
variable {X:Lx} {R:Rw}
theorem tQ {n q:Int} (he:R.e≠0):cT X 117 [sI .i64 n,sI .i64 q] R R:=
 an.settle (l0:=X.M.cells++[sI .i64 X.tP,sI .i64 X.tR,sI .u64 X.own,sI .i64 R.h,.ms 1 0 R.k 4 none,sI .i64 R.e,sI .i64 R.p,sI .i64 R.nx]) (af aM (Hr X.M X.tP X.tR X.own R.h R.k R.cs R.e R.p R.nx n q 0 0 0 [] 0) (by
  simp only[Bw,aC.ok,aF]
  exact⟨by simpa using he,rfl⟩)) (bj 2)
theorem adR {n q:Int} {h2:Int} {k2:Nat} {c2:List PV} (he:R.e=0) (hd:an ab5 env 134 [.agg [sI .i64 R.h,.ms 0 0 R.k 4 none],sI .i64 n] [dj R.cs] (.aA [.agg [sI .i64 h2,.ms 1 0 k2 4 none],sI .i64 0]) [dj R.cs,dj c2]) :
  cT X 117 [sI .i64 n,sI .i64 q] R ⟨h2,k2,c2,0,R.p,R.nx⟩:=by
 obtain⟨h,k,cs,e,p,nx⟩:=R
 simp only at he hd
 subst he
 refine an.kill (m':=[bf X.M X.tP X.tR X.own h2 2 k2 0 p nx,dj cs,dj c2]) (af aM (Hp X.M X.tP X.tR X.own h k cs 0 p nx n q 0 h2 k2 c2 0) ?_) 1
 simp only[Bu,aC.ok,aF]
 exact⟨hd,rfl⟩
theorem ahn {n q:Int} {ec:Int} (he:R.e=0) (Va:ec≠0) (hd:an ab5 env 134 [.agg [sI .i64 R.h,.ms 0 0 R.k 4 none],sI .i64 n] [dj R.cs] (.aA [.agg [sI .i64 0,.os none 0 0 []],sI .i64 ec]) [dj R.cs]) :
  cT X 117 [sI .i64 n,sI .i64 q] R ⟨R.h,R.k,R.cs,ec,q,R.nx⟩:=by
 obtain⟨h,k,cs,e,p,nx⟩:=R
 simp only at he hd
 subst he
 refine an.settle (l0:=X.M.cells++[sI .i64 X.tP,sI .i64 X.tR,sI .u64 X.own,sI .i64 h,.ms 1 0 k 4 none,sI .i64 ec,sI .i64 q,sI .i64 nx]) (af aM (Hq X.M X.tP X.tR X.own h k cs 0 p nx n q 0 0 0 [] ec) ?_) (bj 2)
 have h1:(ec != 0)=true:=by simpa using Va
 have h2:(!(ec==0))=true:=by simpa using Va
 simp only[Bv,bN,aC.ok,aF,h1,h2,true_and]
 exact⟨hd,rfl⟩
theorem QW {n q:Int} (he:R.e≠0):cT X 118 [sI .i64 n,sI .i64 q] R R:=
 an.settle (l0:=X.M.cells++[sI .i64 X.tP,sI .i64 X.tR,sI .u64 X.own,sI .i64 R.h,.ms 1 0 R.k 4 none,sI .i64 R.e,sI .i64 R.p,sI .i64 R.nx]) (af aM (Ht X.M X.tP X.tR X.own R.h R.k R.cs R.e R.p R.nx n q 0 0 0 [] 0) (by
  simp only[By,aC.ok,aF]
  exact⟨by simpa using he,rfl⟩)) (bj 2)
theorem aho {n q:Int} {h2:Int} {k2:Nat} {c2:List PV} (he:R.e=0) (hd:an ab5 env 136 [.agg [sI .i64 R.h,.ms 0 0 R.k 4 none],sI .i64 n] [dj R.cs] (.aA [.agg [sI .i64 h2,.ms 1 0 k2 4 none],sI .i64 0]) [dj R.cs,dj c2]) :
  cT X 118 [sI .i64 n,sI .i64 q] R ⟨h2,k2,c2,0,R.p,R.nx⟩:=by
 obtain⟨h,k,cs,e,p,nx⟩:=R
 simp only at he hd
 subst he
 refine an.kill (m':=[bf X.M X.tP X.tR X.own h2 2 k2 0 p nx,dj cs,dj c2]) (af aM (Hs X.M X.tP X.tR X.own h k cs 0 p nx n q 0 h2 k2 c2 0) ?_) 1
 simp only[Bx,aC.ok,aF]
 exact⟨hd,rfl⟩
theorem QX {q:Int} (he:R.e≠0):cT X 114 [sI .i64 q] R R:=
 an.settle (l0:=X.M.cells++[sI .i64 X.tP,sI .i64 X.tR,sI .u64 X.own,sI .i64 R.h,.ms 1 0 R.k 4 none,sI .i64 R.e,sI .i64 R.p,sI .i64 R.nx]) (af aM (Hv X.M X.tP X.tR X.own R.h R.k R.cs R.e R.p R.nx 0 q 0 0 0 [] 0) (by
  simp only[BA,aC.ok,aF]
  exact⟨by simpa using he,rfl⟩)) (bj 2)
theorem ahp {q:Int} {h2:Int} {k2:Nat} {c2:List PV} (he:R.e=0) (hd:an ab5 env 130 [.agg [sI .i64 R.h,.ms 0 0 R.k 4 none]] [dj R.cs] (.aA [.agg [sI .i64 h2,.ms 1 0 k2 4 none],sI .i64 0]) [dj R.cs,dj c2]) :
  cT X 114 [sI .i64 q] R ⟨h2,k2,c2,0,R.p,R.nx⟩:=by
 obtain⟨h,k,cs,e,p,nx⟩:=R
 simp only at he hd
 subst he
 refine an.kill (m':=[bf X.M X.tP X.tR X.own h2 2 k2 0 p nx,dj cs,dj c2]) (af aM (Hu X.M X.tP X.tR X.own h k cs 0 p nx 0 q 0 h2 k2 c2 0) ?_) 1
 simp only[Bz,aC.ok,aF]
 exact⟨hd,rfl⟩
theorem ZZ {q:Int} (he:R.e≠0):cT X 91 [sI .i64 q] R R:=
 an.settle (l0:=X.M.cells++[sI .i64 X.tP,sI .i64 X.tR,sI .u64 X.own,sI .i64 R.h,.ms 1 0 R.k 4 none,sI .i64 R.e,sI .i64 R.p,sI .i64 R.nx]) (af aM (Hy X.M X.tP X.tR X.own R.h R.k R.cs R.e R.p R.nx 0 q 0 0 0 [] 0) (by
  simp only[BD,aC.ok,aF]
  exact⟨by simpa using he,rfl⟩)) (bj 2)
theorem Vb {q:Int} {h2:Int} {k2:Nat} {c2:List PV} (he:R.e=0) (hd:an ab5 env 109 [.agg [sI .i64 R.h,.ms 0 0 R.k 4 none]] [dj R.cs] (.aA [.agg [sI .i64 h2,.ms 1 0 k2 4 none],sI .i64 0]) [dj R.cs,dj c2]) :
  cT X 91 [sI .i64 q] R ⟨h2,k2,c2,0,R.p,R.nx⟩:=by
 obtain⟨h,k,cs,e,p,nx⟩:=R
 simp only at he hd
 subst he
 refine an.kill (m':=[bf X.M X.tP X.tR X.own h2 2 k2 0 p nx,dj cs,dj c2]) (af aM (Hw X.M X.tP X.tR X.own h k cs 0 p nx 0 q 0 h2 k2 c2 0) ?_) 1
 simp only[BB,aC.ok,aF]
 exact⟨hd,rfl⟩
theorem Vc {q:Int} {ec:Int} (he:R.e=0) (Va:ec≠0) (hd:an ab5 env 109 [.agg [sI .i64 R.h,.ms 0 0 R.k 4 none]] [dj R.cs] (.aA [.agg [sI .i64 0,.os none 0 0 []],sI .i64 ec]) [dj R.cs]) :
  cT X 91 [sI .i64 q] R ⟨R.h,R.k,R.cs,ec,q,R.nx⟩:=by
 obtain⟨h,k,cs,e,p,nx⟩:=R
 simp only at he hd
 subst he
 refine an.settle (l0:=X.M.cells++[sI .i64 X.tP,sI .i64 X.tR,sI .u64 X.own,sI .i64 h,.ms 1 0 k 4 none,sI .i64 ec,sI .i64 q,sI .i64 nx]) (af aM (Hx X.M X.tP X.tR X.own h k cs 0 p nx 0 q 0 0 0 [] ec) ?_) (bj 2)
 have h1:(ec != 0)=true:=by simpa using Va
 have h2:(!(ec==0))=true:=by simpa using Va
 simp only[BC,bN,aC.ok,aF,h1,h2,true_and]
 exact⟨hd,rfl⟩
theorem ahq {n r q:Int} (he:R.e≠0):cT X 131 [sI .i64 n,sI .i64 r,sI .i64 q] R R:=
 an.settle (l0:=X.M.cells++[sI .i64 X.tP,sI .i64 X.tR,sI .u64 X.own,sI .i64 R.h,.ms 1 0 R.k 4 none,sI .i64 R.e,sI .i64 R.p,sI .i64 R.nx]) (af aM (Hz X.M X.tP X.tR X.own R.h R.k R.cs R.e R.p R.nx n q r 0 0 [] 0) (by
  simp only[BE,aC.ok,aF]
  exact⟨by simpa using he,rfl⟩)) (bj 2)
theorem ahr {n r q:Int} {h2:Int} {k2:Nat} {c2:List PV} (he:R.e=0) (hd:an ab5 env 143 [.agg [sI .i64 R.h,.ms 0 0 R.k 4 none],sI .i64 n,sI .i64 r] [dj R.cs] (.aA [.agg [sI .i64 h2,.ms 1 0 k2 4 none],sI .i64 0]) [dj R.cs,dj c2]) :
  cT X 131 [sI .i64 n,sI .i64 r,sI .i64 q] R ⟨h2,k2,c2,0,R.p,R.nx⟩:=by
 obtain⟨h,k,cs,e,p,nx⟩:=R
 simp only at he hd
 subst he
 refine an.kill (m':=[bf X.M X.tP X.tR X.own h2 2 k2 0 p nx,dj cs,dj c2]) (af aM (zh X.M X.tP X.tR X.own h k cs 0 p nx n q r h2 k2 c2 0) ?_) 1
 simp only[tO,aC.ok,aF]
 exact⟨hd,rfl⟩
end
end Go.Proofs.YtjfgfhaoeicpdaaGreatDoor.N
end
