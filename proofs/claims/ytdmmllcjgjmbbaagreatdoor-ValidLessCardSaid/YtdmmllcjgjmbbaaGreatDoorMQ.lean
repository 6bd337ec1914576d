import Derived.Test.YtdmmllcjgjmbbaaGreatDoorMP
open Nat renaming le_refl→bx,beq→ae
open List renaming map→ab6
open Go.Proofs.Tryz renaming prog→acb
open Go.IntKind renaming i64→sb,u64→ae6
open Go.TypeInfo renaming mk→ace
open Go.TypeDesc renaming int→afm,bool→afn
open Option renaming some→aci
noncomputable section
section
set_option linter.unusedSimpArgs false
namespace Go.Proofs.YtdmmllcjgjmbbaaGreatDoor.N
open Go Go.Am
def OQ (f:FuncId):Bool:=ae f 159||(ae f 161||(ae f 155||(ae f 173||ae f 119)))
def z6 (_M:Md) (_tP _tR _own _h:Int) (_k:Nat) (_cs:List PV) (_e _p _nx _n _q _r h2:Int) (k2:Nat) (c2:List PV) (_ec:Int) (f:FuncId) (_:List AV) (m:Mem):Option (AV×Mem):=cond (OQ f) (some (.au [.agg [sI .i64 h2,.ms 1 0 k2 4 none],sI .i64 0],m++[dc c2])) none
def IQ (_M:Md) (_tP _tR _own _h:Int) (_k:Nat) (_cs:List PV) (_e _p _nx _n _q _r _h2:Int) (_k2:Nat) (_c2:List PV) (ec:Int) (f:FuncId) (_:List AV) (m:Mem):Option (AV×Mem):=cond (OQ f) (some (.au [.agg [sI .i64 0,.os none 0 0 []],sI .i64 ec],m)) none
def ad7 (_M:Md) (_tP _tR _own _h:Int) (_k:Nat) (_cs:List PV) (_e _p _nx _a _q v:Int) (_ec:Int) (f:FuncId) (_:List AV) (m:Mem):Option (AV×Mem):=cond (ae f 157) (some (.au [sI .i64 v,sI .i64 0],m)) none
def ad8 (f:FuncId) (_:List AV) (m:Mem):Option (AV×Mem):=cond (ae f 164) (some (sI .i64 0,m)) none
def ad9 (_h:Int) (_n k:Nat) (_cs:List PV) (_a op base res:Int) (dead:Bool):FuncId→Nat→Nat→Option (AV→AV):=cM [(157,6,7,sI .i64 k),(157,6,9,.agg [sI .i64 op,sI .i64 base,sI .i64 res,sB dead])]
def OR (M:Md) (tP tR own h:Int) (k:Nat) (cs:List PV) (e p nx n q r h2:Int) (k2:Nat) (c2:List PV) (ec:Int):bH:=aT (z6 M tP tR own h k cs e p nx n q r h2 k2 c2 ec) (z6 M tP tR own h k cs e p nx n q r h2 k2 c2 ec) [] [] []
def SG:Sc:= .fin
def Bh (M:Md) (tP tR own h:Int) (k:Nat) (cs:List PV) (_e p nx n _q _r h2:Int) (k2:Nat) (c2:List PV) (_ec:Int):az:=
 (.call ⟨159,[.agg [sI .i64 h,.ms 0 0 k 4 none],sI .i64 n],[.ob (aD.gr 160 true) (ab6 aa (ab6 aa (ab6 aa (ab6 AV.p cs))))],.au [.agg [sI .i64 h2,.ms 1 0 k2 4 none],sI .i64 0],[.ob (aD.gr 160 true) (ab6 aa (ab6 aa (ab6 aa (ab6 AV.p cs)))),.ob (aD.gr 160 true) (ab6 AV.p c2)]⟩
 (.out (.ret (.au []) [.ac [.p (.ps M.ny 2 M.tS),.p (.ps M.uV 3 M.CO),.p (.ps M.vJ 3 M.tT),.p (.ps M.sL 3 M.CP),.p (.ps M.tU 3 M.CQ),.p (.ps M.jN 2 M.yJ),.p (.ps M.CR 3 M.CS),.p (.sc (.bool M.st)),sI .u32 M.sn,.p (.ps M.CT 2 M.CU),.p (.ps M.CV 2 M.CW),sI .i64 tP,sI .i64 tR,sI .u64 own,sI .i64 h2,.ms 2 0 k2 4 none,sI .i64 0,sI .i64 p,sI .i64 nx],.ob (aD.gr 160 true) (ab6 aa (ab6 aa (ab6 aa (ab6 aa (ab6 aa (ab6 aa (ab6 aa (ab6 aa (ab6 aa (ab6 aa (ab6 aa (ab6 aa (ab6 AV.p cs))))))))))))),.ob (aD.gr 160 true) (ab6 aa (ab6 aa (ab6 aa (ab6 aa (ab6 aa (ab6 aa (ab6 AV.p c2)))))))])))
theorem GG (M:Md) (tP tR own h:Int) (k:Nat) (cs:List PV) (e p nx n q r h2:Int) (k2:Nat) (c2:List PV) (ec:Int):aG acb env (OR M tP tR own h k cs e p nx n q r h2 k2 c2 ec) 1000000 131 ([AV.mp 0 0,sI sb n,sI sb q]) ([aV M tP tR own h 1 k 0 p nx,dc cs]) SG=Bh M tP tR own h k cs e p nx n q r h2 k2 c2 ec:=by kernel_rfl
def OS (M:Md) (tP tR own h:Int) (k:Nat) (cs:List PV) (e p nx n q r h2:Int) (k2:Nat) (c2:List PV) (ec:Int):bH:=aT (IQ M tP tR own h k cs e p nx n q r h2 k2 c2 ec) (IQ M tP tR own h k cs e p nx n q r h2 k2 c2 ec) [] [(137,0,0),(117,0,1)] []
def SH:Sc:=(.yes (.no .fin))
def Bi (M:Md) (tP tR own h:Int) (k:Nat) (cs:List PV) (_e _p nx n q _r _h2:Int) (_k2:Nat) (_c2:List PV) (ec:Int):az:=
 (.call ⟨159,[.agg [sI .i64 h,.ms 0 0 k 4 none],sI .i64 n],[.ob (aD.gr 160 true) (ab6 aa (ab6 aa (ab6 aa (ab6 AV.p cs))))],.au [.agg [sI .i64 0,xQ],sI .i64 ec],[.ob (aD.gr 160 true) (ab6 aa (ab6 aa (ab6 aa (ab6 AV.p cs))))]⟩
 (.must (ec != 0)
 (.must (!(ec==0))
 (.out (.ret (.au []) [.ac [.p (.ps M.ny 2 M.tS),.p (.ps M.uV 3 M.CO),.p (.ps M.vJ 3 M.tT),.p (.ps M.sL 3 M.CP),.p (.ps M.tU 3 M.CQ),.p (.ps M.jN 2 M.yJ),.p (.ps M.CR 3 M.CS),.p (.sc (.bool M.st)),sI .u32 M.sn,.p (.ps M.CT 2 M.CU),.p (.ps M.CV 2 M.CW),sI .i64 tP,sI .i64 tR,sI .u64 own,sI .i64 h,.ms 1 0 k 4 none,sI .i64 ec,sI .i64 q,sI .i64 nx],.ob (aD.gr 160 true) (ab6 aa (ab6 aa (ab6 aa (ab6 aa (ab6 aa (ab6 aa (ab6 aa (ab6 aa (ab6 aa (ab6 aa (ab6 aa (ab6 aa (ab6 AV.p cs)))))))))))))])))))
theorem GH (M:Md) (tP tR own h:Int) (k:Nat) (cs:List PV) (e p nx n q r h2:Int) (k2:Nat) (c2:List PV) (ec:Int):aG acb env (OS M tP tR own h k cs e p nx n q r h2 k2 c2 ec) 1000000 131 ([AV.mp 0 0,sI sb n,sI sb q]) ([aV M tP tR own h 1 k 0 p nx,dc cs]) SH=Bi M tP tR own h k cs e p nx n q r h2 k2 c2 ec:=by kernel_rfl
def OT:bH:=aT aH aA [] [(117,0,0)] []
def SI:Sc:=(.yes .fin)
def Bj (M:Md) (tP tR own h:Int) (k:Nat) (cs:List PV) (e p nx _n _q _r _h2:Int) (_k2:Nat) (_c2:List PV) (_ec:Int):az:=
 (.must (e != 0)
 (.out (.ret (.au []) [.ac [.p (.ps M.ny 2 M.tS),.p (.ps M.uV 3 M.CO),.p (.ps M.vJ 3 M.tT),.p (.ps M.sL 3 M.CP),.p (.ps M.tU 3 M.CQ),.p (.ps M.jN 2 M.yJ),.p (.ps M.CR 3 M.CS),.p (.sc (.bool M.st)),sI .u32 M.sn,.p (.ps M.CT 2 M.CU),.p (.ps M.CV 2 M.CW),sI .i64 tP,sI .i64 tR,sI .u64 own,sI .i64 h,.ms 1 0 k 4 none,sI .i64 e,sI .i64 p,sI .i64 nx],.ob (aD.gr 160 true) (ab6 aa (ab6 aa (ab6 aa (ab6 aa (ab6 AV.p cs)))))])))
theorem GI (M:Md) (tP tR own h:Int) (k:Nat) (cs:List PV) (e p nx n q r h2:Int) (k2:Nat) (c2:List PV) (ec:Int):aG acb env OT 1000000 131 ([AV.mp 0 0,sI sb n,sI sb q]) ([aV M tP tR own h 1 k e p nx,dc cs]) SI=Bj M tP tR own h k cs e p nx n q r h2 k2 c2 ec:=by kernel_rfl
def OU (M:Md) (tP tR own h:Int) (k:Nat) (cs:List PV) (e p nx n q r h2:Int) (k2:Nat) (c2:List PV) (ec:Int):bH:=aT (z6 M tP tR own h k cs e p nx n q r h2 k2 c2 ec) (z6 M tP tR own h k cs e p nx n q r h2 k2 c2 ec) [] [] []
def SJ:Sc:= .fin
def Bk (M:Md) (tP tR own h:Int) (k:Nat) (cs:List PV) (_e p nx n _q _r h2:Int) (k2:Nat) (c2:List PV) (_ec:Int):az:=
 (.call ⟨161,[.agg [sI .i64 h,.ms 0 0 k 4 none],sI .i64 n],[.ob (aD.gr 160 true) (ab6 aa (ab6 aa (ab6 aa (ab6 AV.p cs))))],.au [.agg [sI .i64 h2,.ms 1 0 k2 4 none],sI .i64 0],[.ob (aD.gr 160 true) (ab6 aa (ab6 aa (ab6 aa (ab6 AV.p cs)))),.ob (aD.gr 160 true) (ab6 AV.p c2)]⟩
 (.out (.ret (.au []) [.ac [.p (.ps M.ny 2 M.tS),.p (.ps M.uV 3 M.CO),.p (.ps M.vJ 3 M.tT),.p (.ps M.sL 3 M.CP),.p (.ps M.tU 3 M.CQ),.p (.ps M.jN 2 M.yJ),.p (.ps M.CR 3 M.CS),.p (.sc (.bool M.st)),sI .u32 M.sn,.p (.ps M.CT 2 M.CU),.p (.ps M.CV 2 M.CW),sI .i64 tP,sI .i64 tR,sI .u64 own,sI .i64 h2,.ms 2 0 k2 4 none,sI .i64 0,sI .i64 p,sI .i64 nx],.ob (aD.gr 160 true) (ab6 aa (ab6 aa (ab6 aa (ab6 aa (ab6 aa (ab6 aa (ab6 aa (ab6 aa (ab6 aa (ab6 aa (ab6 aa (ab6 aa (ab6 AV.p cs))))))))))))),.ob (aD.gr 160 true) (ab6 aa (ab6 aa (ab6 aa (ab6 aa (ab6 aa (ab6 aa (ab6 AV.p c2)))))))])))
theorem GJ (M:Md) (tP tR own h:Int) (k:Nat) (cs:List PV) (e p nx n q r h2:Int) (k2:Nat) (c2:List PV) (ec:Int):aG acb env (OU M tP tR own h k cs e p nx n q r h2 k2 c2 ec) 1000000 132 ([AV.mp 0 0,sI sb n,sI sb q]) ([aV M tP tR own h 1 k 0 p nx,dc cs]) SJ=Bk M tP tR own h k cs e p nx n q r h2 k2 c2 ec:=by kernel_rfl
def OV:bH:=aT aH aA [] [(117,0,0)] []
def SK:Sc:=(.yes .fin)
def Bl (M:Md) (tP tR own h:Int) (k:Nat) (cs:List PV) (e p nx _n _q _r _h2:Int) (_k2:Nat) (_c2:List PV) (_ec:Int):az:=
 (.must (e != 0)
 (.out (.ret (.au []) [.ac [.p (.ps M.ny 2 M.tS),.p (.ps M.uV 3 M.CO),.p (.ps M.vJ 3 M.tT),.p (.ps M.sL 3 M.CP),.p (.ps M.tU 3 M.CQ),.p (.ps M.jN 2 M.yJ),.p (.ps M.CR 3 M.CS),.p (.sc (.bool M.st)),sI .u32 M.sn,.p (.ps M.CT 2 M.CU),.p (.ps M.CV 2 M.CW),sI .i64 tP,sI .i64 tR,sI .u64 own,sI .i64 h,.ms 1 0 k 4 none,sI .i64 e,sI .i64 p,sI .i64 nx],.ob (aD.gr 160 true) (ab6 aa (ab6 aa (ab6 aa (ab6 aa (ab6 AV.p cs)))))])))
theorem GK (M:Md) (tP tR own h:Int) (k:Nat) (cs:List PV) (e p nx n q r h2:Int) (k2:Nat) (c2:List PV) (ec:Int):aG acb env OV 1000000 132 ([AV.mp 0 0,sI sb n,sI sb q]) ([aV M tP tR own h 1 k e p nx,dc cs]) SK=Bl M tP tR own h k cs e p nx n q r h2 k2 c2 ec:=by kernel_rfl
def OW (M:Md) (tP tR own h:Int) (k:Nat) (cs:List PV) (e p nx n q r h2:Int) (k2:Nat) (c2:List PV) (ec:Int):bH:=aT (z6 M tP tR own h k cs e p nx n q r h2 k2 c2 ec) (z6 M tP tR own h k cs e p nx n q r h2 k2 c2 ec) [] [] []
def SL:Sc:= .fin
def Bm (M:Md) (tP tR own h:Int) (k:Nat) (cs:List PV) (_e p nx _n _q _r h2:Int) (k2:Nat) (c2:List PV) (_ec:Int):az:=
 (.call ⟨155,[.agg [sI .i64 h,.ms 0 0 k 4 none]],[.ob (aD.gr 160 true) (ab6 aa (ab6 aa (ab6 aa (ab6 AV.p cs))))],.au [.agg [sI .i64 h2,.ms 1 0 k2 4 none],sI .i64 0],[.ob (aD.gr 160 true) (ab6 aa (ab6 aa (ab6 aa (ab6 AV.p cs)))),.ob (aD.gr 160 true) (ab6 AV.p c2)]⟩
 (.out (.ret (.au []) [.ac [.p (.ps M.ny 2 M.tS),.p (.ps M.uV 3 M.CO),.p (.ps M.vJ 3 M.tT),.p (.ps M.sL 3 M.CP),.p (.ps M.tU 3 M.CQ),.p (.ps M.jN 2 M.yJ),.p (.ps M.CR 3 M.CS),.p (.sc (.bool M.st)),sI .u32 M.sn,.p (.ps M.CT 2 M.CU),.p (.ps M.CV 2 M.CW),sI .i64 tP,sI .i64 tR,sI .u64 own,sI .i64 h2,.ms 2 0 k2 4 none,sI .i64 0,sI .i64 p,sI .i64 nx],.ob (aD.gr 160 true) (ab6 aa (ab6 aa (ab6 aa (ab6 aa (ab6 aa (ab6 aa (ab6 aa (ab6 aa (ab6 aa (ab6 aa (ab6 aa (ab6 aa (ab6 AV.p cs))))))))))))),.ob (aD.gr 160 true) (ab6 aa (ab6 aa (ab6 aa (ab6 aa (ab6 aa (ab6 aa (ab6 AV.p c2)))))))])))
theorem GL (M:Md) (tP tR own h:Int) (k:Nat) (cs:List PV) (e p nx n q r h2:Int) (k2:Nat) (c2:List PV) (ec:Int):aG acb env (OW M tP tR own h k cs e p nx n q r h2 k2 c2 ec) 1000000 128 ([AV.mp 0 0,sI sb q]) ([aV M tP tR own h 1 k 0 p nx,dc cs]) SL=Bm M tP tR own h k cs e p nx n q r h2 k2 c2 ec:=by kernel_rfl
def OX:bH:=aT aH aA [] [(117,0,0)] []
def SM:Sc:=(.yes .fin)
def Bn (M:Md) (tP tR own h:Int) (k:Nat) (cs:List PV) (e p nx _n _q _r _h2:Int) (_k2:Nat) (_c2:List PV) (_ec:Int):az:=
 (.must (e != 0)
 (.out (.ret (.au []) [.ac [.p (.ps M.ny 2 M.tS),.p (.ps M.uV 3 M.CO),.p (.ps M.vJ 3 M.tT),.p (.ps M.sL 3 M.CP),.p (.ps M.tU 3 M.CQ),.p (.ps M.jN 2 M.yJ),.p (.ps M.CR 3 M.CS),.p (.sc (.bool M.st)),sI .u32 M.sn,.p (.ps M.CT 2 M.CU),.p (.ps M.CV 2 M.CW),sI .i64 tP,sI .i64 tR,sI .u64 own,sI .i64 h,.ms 1 0 k 4 none,sI .i64 e,sI .i64 p,sI .i64 nx],.ob (aD.gr 160 true) (ab6 aa (ab6 aa (ab6 aa (ab6 aa (ab6 AV.p cs)))))])))
theorem GM (M:Md) (tP tR own h:Int) (k:Nat) (cs:List PV) (e p nx n q r h2:Int) (k2:Nat) (c2:List PV) (ec:Int):aG acb env OX 1000000 128 ([AV.mp 0 0,sI sb q]) ([aV M tP tR own h 1 k e p nx,dc cs]) SM=Bn M tP tR own h k cs e p nx n q r h2 k2 c2 ec:=by kernel_rfl
def OY (M:Md) (tP tR own h:Int) (k:Nat) (cs:List PV) (e p nx n q r h2:Int) (k2:Nat) (c2:List PV) (ec:Int):bH:=aT (z6 M tP tR own h k cs e p nx n q r h2 k2 c2 ec) (z6 M tP tR own h k cs e p nx n q r h2 k2 c2 ec) [] [] []
def SN:Sc:= .fin
def Bo (M:Md) (tP tR own h:Int) (k:Nat) (cs:List PV) (_e p nx _n _q _r h2:Int) (k2:Nat) (c2:List PV) (_ec:Int):az:=
 (.call ⟨119,[.agg [sI .i64 h,.ms 0 0 k 4 none]],[.ob (aD.gr 160 true) (ab6 aa (ab6 aa (ab6 aa (ab6 AV.p cs))))],.au [.agg [sI .i64 h2,.ms 1 0 k2 4 none],sI .i64 0],[.ob (aD.gr 160 true) (ab6 aa (ab6 aa (ab6 aa (ab6 AV.p cs)))),.ob (aD.gr 160 true) (ab6 AV.p c2)]⟩
 (.out (.ret (.au []) [.ac [.p (.ps M.ny 2 M.tS),.p (.ps M.uV 3 M.CO),.p (.ps M.vJ 3 M.tT),.p (.ps M.sL 3 M.CP),.p (.ps M.tU 3 M.CQ),.p (.ps M.jN 2 M.yJ),.p (.ps M.CR 3 M.CS),.p (.sc (.bool M.st)),sI .u32 M.sn,.p (.ps M.CT 2 M.CU),.p (.ps M.CV 2 M.CW),sI .i64 tP,sI .i64 tR,sI .u64 own,sI .i64 h2,.ms 2 0 k2 4 none,sI .i64 0,sI .i64 p,sI .i64 nx],.ob (aD.gr 160 true) (ab6 aa (ab6 aa (ab6 aa (ab6 aa (ab6 aa (ab6 aa (ab6 aa (ab6 aa (ab6 aa (ab6 aa (ab6 aa (ab6 aa (ab6 AV.p cs))))))))))))),.ob (aD.gr 160 true) (ab6 aa (ab6 aa (ab6 aa (ab6 aa (ab6 aa (ab6 aa (ab6 AV.p c2)))))))])))
theorem GN (M:Md) (tP tR own h:Int) (k:Nat) (cs:List PV) (e p nx n q r h2:Int) (k2:Nat) (c2:List PV) (ec:Int):aG acb env (OY M tP tR own h k cs e p nx n q r h2 k2 c2 ec) 1000000 85 ([AV.mp 0 0,sI sb q]) ([aV M tP tR own h 1 k 0 p nx,dc cs]) SN=Bo M tP tR own h k cs e p nx n q r h2 k2 c2 ec:=by kernel_rfl
def OZ (M:Md) (tP tR own h:Int) (k:Nat) (cs:List PV) (e p nx n q r h2:Int) (k2:Nat) (c2:List PV) (ec:Int):bH:=aT (IQ M tP tR own h k cs e p nx n q r h2 k2 c2 ec) (IQ M tP tR own h k cs e p nx n q r h2 k2 c2 ec) [] [(137,0,0),(117,0,1)] []
def SO:Sc:=(.yes (.no .fin))
def Bp (M:Md) (tP tR own h:Int) (k:Nat) (cs:List PV) (_e _p nx _n q _r _h2:Int) (_k2:Nat) (_c2:List PV) (ec:Int):az:=
 (.call ⟨119,[.agg [sI .i64 h,.ms 0 0 k 4 none]],[.ob (aD.gr 160 true) (ab6 aa (ab6 aa (ab6 aa (ab6 AV.p cs))))],.au [.agg [sI .i64 0,xQ],sI .i64 ec],[.ob (aD.gr 160 true) (ab6 aa (ab6 aa (ab6 aa (ab6 AV.p cs))))]⟩
 (.must (ec != 0)
 (.must (!(ec==0))
 (.out (.ret (.au []) [.ac [.p (.ps M.ny 2 M.tS),.p (.ps M.uV 3 M.CO),.p (.ps M.vJ 3 M.tT),.p (.ps M.sL 3 M.CP),.p (.ps M.tU 3 M.CQ),.p (.ps M.jN 2 M.yJ),.p (.ps M.CR 3 M.CS),.p (.sc (.bool M.st)),sI .u32 M.sn,.p (.ps M.CT 2 M.CU),.p (.ps M.CV 2 M.CW),sI .i64 tP,sI .i64 tR,sI .u64 own,sI .i64 h,.ms 1 0 k 4 none,sI .i64 ec,sI .i64 q,sI .i64 nx],.ob (aD.gr 160 true) (ab6 aa (ab6 aa (ab6 aa (ab6 aa (ab6 aa (ab6 aa (ab6 aa (ab6 aa (ab6 aa (ab6 aa (ab6 aa (ab6 aa (ab6 AV.p cs)))))))))))))])))))
theorem GO (M:Md) (tP tR own h:Int) (k:Nat) (cs:List PV) (e p nx n q r h2:Int) (k2:Nat) (c2:List PV) (ec:Int):aG acb env (OZ M tP tR own h k cs e p nx n q r h2 k2 c2 ec) 1000000 85 ([AV.mp 0 0,sI sb q]) ([aV M tP tR own h 1 k 0 p nx,dc cs]) SO=Bp M tP tR own h k cs e p nx n q r h2 k2 c2 ec:=by kernel_rfl
def O0:bH:=aT aH aA [] [(117,0,0)] []
def SP:Sc:=(.yes .fin)
def Bq (M:Md) (tP tR own h:Int) (k:Nat) (cs:List PV) (e p nx _n _q _r _h2:Int) (_k2:Nat) (_c2:List PV) (_ec:Int):az:=
 (.must (e != 0)
 (.out (.ret (.au []) [.ac [.p (.ps M.ny 2 M.tS),.p (.ps M.uV 3 M.CO),.p (.ps M.vJ 3 M.tT),.p (.ps M.sL 3 M.CP),.p (.ps M.tU 3 M.CQ),.p (.ps M.jN 2 M.yJ),.p (.ps M.CR 3 M.CS),.p (.sc (.bool M.st)),sI .u32 M.sn,.p (.ps M.CT 2 M.CU),.p (.ps M.CV 2 M.CW),sI .i64 tP,sI .i64 tR,sI .u64 own,sI .i64 h,.ms 1 0 k 4 none,sI .i64 e,sI .i64 p,sI .i64 nx],.ob (aD.gr 160 true) (ab6 aa (ab6 aa (ab6 aa (ab6 aa (ab6 AV.p cs)))))])))
theorem GP (M:Md) (tP tR own h:Int) (k:Nat) (cs:List PV) (e p nx n q r h2:Int) (k2:Nat) (c2:List PV) (ec:Int):aG acb env O0 1000000 85 ([AV.mp 0 0,sI sb q]) ([aV M tP tR own h 1 k e p nx,dc cs]) SP=Bq M tP tR own h k cs e p nx n q r h2 k2 c2 ec:=by kernel_rfl
def O1 (M:Md) (tP tR own h:Int) (k:Nat) (cs:List PV) (e p nx n q r h2:Int) (k2:Nat) (c2:List PV) (ec:Int):bH:=aT (z6 M tP tR own h k cs e p nx n q r h2 k2 c2 ec) (z6 M tP tR own h k cs e p nx n q r h2 k2 c2 ec) [] [] []
def SQ:Sc:= .fin
def tV (M:Md) (tP tR own h:Int) (k:Nat) (cs:List PV) (_e p nx n _q r h2:Int) (k2:Nat) (c2:List PV) (_ec:Int):az:=
 (.call ⟨173,[.agg [sI .i64 h,.ms 0 0 k 4 none],sI .i64 n,sI .i64 r],[.ob (aD.gr 160 true) (ab6 aa (ab6 aa (ab6 aa (ab6 AV.p cs))))],.au [.agg [sI .i64 h2,.ms 1 0 k2 4 none],sI .i64 0],[.ob (aD.gr 160 true) (ab6 aa (ab6 aa (ab6 aa (ab6 AV.p cs)))),.ob (aD.gr 160 true) (ab6 AV.p c2)]⟩
 (.out (.ret (.au []) [.ac [.p (.ps M.ny 2 M.tS),.p (.ps M.uV 3 M.CO),.p (.ps M.vJ 3 M.tT),.p (.ps M.sL 3 M.CP),.p (.ps M.tU 3 M.CQ),.p (.ps M.jN 2 M.yJ),.p (.ps M.CR 3 M.CS),.p (.sc (.bool M.st)),sI .u32 M.sn,.p (.ps M.CT 2 M.CU),.p (.ps M.CV 2 M.CW),sI .i64 tP,sI .i64 tR,sI .u64 own,sI .i64 h2,.ms 2 0 k2 4 none,sI .i64 0,sI .i64 p,sI .i64 nx],.ob (aD.gr 160 true) (ab6 aa (ab6 aa (ab6 aa (ab6 aa (ab6 aa (ab6 aa (ab6 aa (ab6 aa (ab6 aa (ab6 aa (ab6 aa (ab6 aa (ab6 AV.p cs))))))))))))),.ob (aD.gr 160 true) (ab6 aa (ab6 aa (ab6 aa (ab6 aa (ab6 aa (ab6 aa (ab6 AV.p c2)))))))])))
theorem yR (M:Md) (tP tR own h:Int) (k:Nat) (cs:List PV) (e p nx n q r h2:Int) (k2:Nat) (c2:List PV) (ec:Int):aG acb env (O1 M tP tR own h k cs e p nx n q r h2 k2 c2 ec) 1000000 156 ([AV.mp 0 0,sI sb n,sI sb r,sI sb q]) ([aV M tP tR own h 1 k 0 p nx,dc cs]) SQ=tV M tP tR own h k cs e p nx n q r h2 k2 c2 ec:=by kernel_rfl
def O2:bH:=aT aH aA [] [(117,0,0)] []
def SR:Sc:=(.yes .fin)
def Br (M:Md) (tP tR own h:Int) (k:Nat) (cs:List PV) (e p nx _n _q _r _h2:Int) (_k2:Nat) (_c2:List PV) (_ec:Int):az:=
 (.must (e != 0)
 (.out (.ret (.au []) [.ac [.p (.ps M.ny 2 M.tS),.p (.ps M.uV 3 M.CO),.p (.ps M.vJ 3 M.tT),.p (.ps M.sL 3 M.CP),.p (.ps M.tU 3 M.CQ),.p (.ps M.jN 2 M.yJ),.p (.ps M.CR 3 M.CS),.p (.sc (.bool M.st)),sI .u32 M.sn,.p (.ps M.CT 2 M.CU),.p (.ps M.CV 2 M.CW),sI .i64 tP,sI .i64 tR,sI .u64 own,sI .i64 h,.ms 1 0 k 4 none,sI .i64 e,sI .i64 p,sI .i64 nx],.ob (aD.gr 160 true) (ab6 aa (ab6 aa (ab6 aa (ab6 aa (ab6 AV.p cs)))))])))
theorem GQ (M:Md) (tP tR own h:Int) (k:Nat) (cs:List PV) (e p nx n q r h2:Int) (k2:Nat) (c2:List PV) (ec:Int):aG acb env O2 1000000 156 ([AV.mp 0 0,sI sb n,sI sb r,sI sb q]) ([aV M tP tR own h 1 k e p nx,dc cs]) SR=Br M tP tR own h k cs e p nx n q r h2 k2 c2 ec:=by kernel_rfl
def SS (M:Md) (tP tR own h:Int) (k:Nat) (cs:List PV) (e p nx a q v ec:Int):bH:=aT (ad7 M tP tR own h k cs e p nx a q v ec) aA [] [(130,0,0),(137,1,6)] []
def Xw:Sc:= .fin
def mW (M:Md) (tP tR own h:Int) (k:Nat) (cs:List PV) (e p nx v:Int):az:=
 (.out (.ret (sI .i64 v) [.ac [.p (.ps M.ny 2 M.tS),.p (.ps M.uV 3 M.CO),.p (.ps M.vJ 3 M.tT),.p (.ps M.sL 3 M.CP),.p (.ps M.tU 3 M.CQ),.p (.ps M.jN 2 M.yJ),.p (.ps M.CR 3 M.CS),.p (.sc (.bool M.st)),sI .u32 M.sn,.p (.ps M.CT 2 M.CU),.p (.ps M.CV 2 M.CW),sI .i64 tP,sI .i64 tR,sI .u64 own,sI .i64 h,.ms 1 0 k 4 none,sI .i64 e,sI .i64 p,sI .i64 nx],.ob (aD.gr 160 true) (ab6 aa (ab6 aa (ab6 aa (ab6 aa (ab6 aa (ab6 aa (ab6 AV.p cs)))))))]))
def yS (M:Md) (tP tR own h:Int) (k:Nat) (cs:List PV) (e p nx a q v _ec:Int):az:=
 (.test (decide (ae6.wrap a≥ae6.wrap (↑k:Int)))
 (.test (e==0)
 (.out (.ret (sI .i64 0) [.ac [.p (.ps M.ny 2 M.tS),.p (.ps M.uV 3 M.CO),.p (.ps M.vJ 3 M.tT),.p (.ps M.sL 3 M.CP),.p (.ps M.tU 3 M.CQ),.p (.ps M.jN 2 M.yJ),.p (.ps M.CR 3 M.CS),.p (.sc (.bool M.st)),sI .u32 M.sn,.p (.ps M.CT 2 M.CU),.p (.ps M.CV 2 M.CW),sI .i64 tP,sI .i64 tR,sI .u64 own,sI .i64 h,.ms 1 0 k 4 none,sI .i64 6,sI .i64 q,sI .i64 nx],.ob (aD.gr 160 true) (ab6 aa (ab6 aa (ab6 aa (ab6 aa (ab6 AV.p cs)))))]))
 (.out (.ret (sI .i64 0) [.ac [.p (.ps M.ny 2 M.tS),.p (.ps M.uV 3 M.CO),.p (.ps M.vJ 3 M.tT),.p (.ps M.sL 3 M.CP),.p (.ps M.tU 3 M.CQ),.p (.ps M.jN 2 M.yJ),.p (.ps M.CR 3 M.CS),.p (.sc (.bool M.st)),sI .u32 M.sn,.p (.ps M.CT 2 M.CU),.p (.ps M.CV 2 M.CW),sI .i64 tP,sI .i64 tR,sI .u64 own,sI .i64 h,.ms 1 0 k 4 none,sI .i64 e,sI .i64 p,sI .i64 nx],.ob (aD.gr 160 true) (ab6 aa (ab6 aa (ab6 aa (ab6 aa (ab6 AV.p cs)))))])))
 (.call ⟨157,[.agg [sI .i64 h,.ms 0 0 k 4 none],sI .i64 (sb.wrap a)],[.ob (aD.gr 160 true) (ab6 aa (ab6 AV.p cs))],.au [sI .i64 v,sI .i64 0],[.ob (aD.gr 160 true) (ab6 aa (ab6 AV.p cs))]⟩
 (.test (e==0)
 (mW M tP tR own h k cs e p nx v)
 (mW M tP tR own h k cs e p nx v))))
theorem Bs (M:Md) (tP tR own h:Int) (k:Nat) (cs:List PV) (e p nx a q v ec:Int):aG acb env (SS M tP tR own h k cs e p nx a q v ec) 1000000 130 ([AV.mp 0 0,sI IntKind.u32 a,sI sb q]) ([aV M tP tR own h 1 k e p nx,dc cs]) Xw=yS M tP tR own h k cs e p nx a q v ec:=by kernel_rfl
def SU:bH:=aT aH aA [] [(134,0,0),(137,1,6),(137,0,0)] []
def Xx:Sc:=(.fork (.fork .fin (.lit .fin)) .fin)
def qz (M:Md) (tP tR own h:Int) (k:Nat) (cs:List PV) (e p nx:Int):az:=
 (.out (.ret (.au []) [.ac [.p (.ps M.ny 2 M.tS),.p (.ps M.uV 3 M.CO),.p (.ps M.vJ 3 M.tT),.p (.ps M.sL 3 M.CP),.p (.ps M.tU 3 M.CQ),.p (.ps M.jN 2 M.yJ),.p (.ps M.CR 3 M.CS),.p (.sc (.bool M.st)),sI .u32 M.sn,.p (.ps M.CT 2 M.CU),.p (.ps M.CV 2 M.CW),sI .i64 tP,sI .i64 tR,sI .u64 own,sI .i64 h,.ms 1 0 k 4 none,sI .i64 e,sI .i64 p,sI .i64 nx],.ob (aD.gr 160 true) (ab6 aa (ab6 aa (ab6 aa (ab6 aa (ab6 AV.p cs)))))]))
def ER (M:Md) (tP tR own h:Int) (k:Nat) (cs:List PV) (e p nx q ec:Int) (b:Bool):az:=
 (.test (!b)
 (.test (e==0)
 (.test (ec != 0)
 (.out (.ret (.au []) [.ac [.p (.ps M.ny 2 M.tS),.p (.ps M.uV 3 M.CO),.p (.ps M.vJ 3 M.tT),.p (.ps M.sL 3 M.CP),.p (.ps M.tU 3 M.CQ),.p (.ps M.jN 2 M.yJ),.p (.ps M.CR 3 M.CS),.p (.sc (.bool M.st)),sI .u32 M.sn,.p (.ps M.CT 2 M.CU),.p (.ps M.CV 2 M.CW),sI .i64 tP,sI .i64 tR,sI .u64 own,sI .i64 h,.ms 1 0 k 4 none,sI .i64 ec,sI .i64 q,sI .i64 nx],.ob (aD.gr 160 true) (ab6 aa (ab6 aa (ab6 aa (ab6 aa (ab6 AV.p cs)))))]))
 (qz M tP tR own h k cs e p nx))
 (qz M tP tR own h k cs e p nx))
 (.out (.ret (.au []) [.ac [.p (.ps M.ny 2 M.tS),.p (.ps M.uV 3 M.CO),.p (.ps M.vJ 3 M.tT),.p (.ps M.sL 3 M.CP),.p (.ps M.tU 3 M.CQ),.p (.ps M.jN 2 M.yJ),.p (.ps M.CR 3 M.CS),.p (.sc (.bool M.st)),sI .u32 M.sn,.p (.ps M.CT 2 M.CU),.p (.ps M.CV 2 M.CW),sI .i64 tP,sI .i64 tR,sI .u64 own,sI .i64 h,.ms 1 0 k 4 none,sI .i64 e,sI .i64 p,sI .i64 nx],.ob (aD.gr 160 true) (ab6 aa (ab6 AV.p cs))])))
theorem Kn (M:Md) (tP tR own h:Int) (k:Nat) (cs:List PV) (e p nx q ec:Int) (b:Bool):aG acb env SU 1000000 134 ([AV.mp 0 0,sB b,sI sb ec,sI sb q]) ([aV M tP tR own h 1 k e p nx,dc cs]) Xx=ER M tP tR own h k cs e p nx q ec b:=by kernel_rfl
def SV (h:Int) (n:Nat) (k:Nat) (cs:List PV) (a op base res:Int) (dead:Bool):bH:=gx ad8 aA [] [(157,4,3),(157,0,1),(157,0,2)] [(157,6,8),(157,6,9)] (ad9 h n k cs a op base res dead)
def Xy:Sc:=(.fork (.lit .fin) .fin)
def qA (cs:List PV):az:=
 (.out (.ret (.au [sI .i64 0,sI .i64 6]) [.ob (aD.gr 160 true) (ab6 aa (ab6 aa (ab6 aa (ab6 AV.p cs))))]))
def ES (h:Int) (n:Nat) (k:Nat) (cs:List PV) (a op base res:Int) (dead:Bool):az:=
 (.call ⟨164,[.agg [sI .i64 h,.ms 0 0 n 4 none]],[.ob (aD.gr 160 true) (ab6 aa (ab6 AV.p cs))],sI .i64 0,[.ob (aD.gr 160 true) (ab6 aa (ab6 AV.p cs))]⟩
 (.test (decide (a<0))
 (qA cs)
 (.test (decide (a≥(↑n:Int)))
 (qA cs)
 (.need (sI .i64 (sb.wrap (sb.wrap ((↑n:Int)-1)-a))=sI sb (↑k:Int))
 (.must (aW (↑k:Int) n&&true&&true)
 (.must ((0+(aJ k)*4+4).ble (ab6 aa (ab6 aa (ab6 AV.p cs))).length&&((bh (some (ace (afm sb) "int" 1 8 false 8 8 (some (.int .i64 0)) true #[]).desc) ((ab6 aa (ab6 aa (ab6 AV.p cs))).getD (0+(aJ k)*4) .ah)).snd&&((bh (some (ace (afm sb) "int" 1 8 false 8 8 (some (.int .i64 0)) true #[]).desc) ((ab6 aa (ab6 aa (ab6 AV.p cs))).getD (0+(aJ k)*4+1) .ah)).snd&&((bh (some (ace (afm sb) "int" 1 8 false 8 8 (some (.int .i64 0)) true #[]).desc) ((ab6 aa (ab6 aa (ab6 AV.p cs))).getD (0+(aJ k)*4+1+1) .ah)).snd&&((bh (some (ace afn "bool" 1 1 false 1 1 (some (.bool false)) true #[]).desc) ((ab6 aa (ab6 aa (ab6 AV.p cs))).getD (0+(aJ k)*4+1+1+1) .ah)).snd&&true))))&&true)
 (.need (AV.agg [(bh (aci (ace (afm sb) "int" 1 8 false 8 8 (aci (Value.int sb 0)) true #[]).desc) ((ab6 aa (ab6 aa (ab6 AV.p cs))).getD (0+(aJ k)*4) AV.ah)).fst,(bh (aci (ace (afm sb) "int" 1 8 false 8 8 (aci (Value.int sb 0)) true #[]).desc) ((ab6 aa (ab6 aa (ab6 AV.p cs))).getD (0+(aJ k)*4+1) AV.ah)).fst,(bh (aci (ace (afm sb) "int" 1 8 false 8 8 (aci (Value.int sb 0)) true #[]).desc) ((ab6 aa (ab6 aa (ab6 AV.p cs))).getD (0+(aJ k)*4+1+1) AV.ah)).fst,(bh (aci (ace afn "bool" 1 1 false 1 1 (aci (Value.bool false)) true #[]).desc) ((ab6 aa (ab6 aa (ab6 AV.p cs))).getD (0+(aJ k)*4+1+1+1) AV.ah)).fst]=AV.agg [sI sb op,sI sb base,sI sb res,sB dead])
 (.test (op==3)
 (.out (.ret (.au [sI .i64 0,sI .i64 0]) [.ob (aD.gr 160 true) (ab6 aa (ab6 aa (ab6 aa (ab6 AV.p cs))))]))
 (.out (.ret (.au [sI .i64 res,sI .i64 0]) [.ob (aD.gr 160 true) (ab6 aa (ab6 aa (ab6 aa (ab6 AV.p cs))))]))))))))))
theorem Ko (h:Int) (n:Nat) (k:Nat) (cs:List PV) (a op base res:Int) (dead:Bool):aG acb env (SV h n k cs a op base res dead) 1000000 157 ([AV.agg [sI sb h,AV.ms 0 0 n 4 Option.none],sI sb a]) ([dc cs]) Xy=ES h n k cs a op base res dead:=by kernel_rfl
structure Lx where
 M:Md
 tP:Int
 tR:Int
 own:Int
structure Rw where
 h:Int
 k:Nat
 cs:List PV
 e:Int
 p:Int
 nx:Int
abbrev eK (X:Lx) (R:Rw):Mem:=[aV X.M X.tP X.tR X.own R.h 1 R.k R.e R.p R.nx,dc R.cs]
abbrev lC (X:Lx) (R:Rw):Mem:=[aV X.M X.tP X.tR X.own R.h 2 R.k R.e R.p R.nx,.dead,dc R.cs]
def cQ (X:Lx) (f:FuncId) (args:List AV) (R R':Rw):Prop:=an acb env f (.mp 0 0::args) (eK X R) (.au []) (lC X R')
def Ask (X:Lx) (f:FuncId) (args:List AV) (v:AV) (R R':Rw):Prop:=an acb env f (.mp 0 0::args) (eK X R) v (eK X R')
section
variable {X:Lx} {R:Rw}
theorem tW {n q:Int} (he:R.e≠0):cQ X 131 [sI .i64 n,sI .i64 q] R R:=
 an.settle (l0:=X.M.cells++[sI .i64 X.tP,sI .i64 X.tR,sI .u64 X.own,sI .i64 R.h,.ms 1 0 R.k 4 none,sI .i64 R.e,sI .i64 R.p,sI .i64 R.nx]) (af aM (GI X.M X.tP X.tR X.own R.h R.k R.cs R.e R.p R.nx n q 0 0 0 [] 0) (by
  simp only[Bj,az.ok,aC]
  exact⟨by simpa using he,rfl⟩)) (bx 2)
theorem aaZ {n q:Int} {h2:Int} {k2:Nat} {c2:List PV} (he:R.e=0) (hd:an acb env 159 [.agg [sI .i64 R.h,.ms 0 0 R.k 4 none],sI .i64 n] [dc R.cs] (.au [.agg [sI .i64 h2,.ms 1 0 k2 4 none],sI .i64 0]) [dc R.cs,dc c2]) :
  cQ X 131 [sI .i64 n,sI .i64 q] R ⟨h2,k2,c2,0,R.p,R.nx⟩:=by
 obtain⟨h,k,cs,e,p,nx⟩:=R
 simp only at he hd
 subst he
 refine an.kill (m':=[aV X.M X.tP X.tR X.own h2 2 k2 0 p nx,dc cs,dc c2]) (af aM (GG X.M X.tP X.tR X.own h k cs 0 p nx n q 0 h2 k2 c2 0) ?_) 1
 simp only[Bh,az.ok,aC]
 exact⟨hd,rfl⟩
theorem aea {n q:Int} {ec:Int} (he:R.e=0) (SW:ec≠0) (hd:an acb env 159 [.agg [sI .i64 R.h,.ms 0 0 R.k 4 none],sI .i64 n] [dc R.cs] (.au [.agg [sI .i64 0,.os none 0 0 []],sI .i64 ec]) [dc R.cs]) :
  cQ X 131 [sI .i64 n,sI .i64 q] R ⟨R.h,R.k,R.cs,ec,q,R.nx⟩:=by
 obtain⟨h,k,cs,e,p,nx⟩:=R
 simp only at he hd
 subst he
 refine an.settle (l0:=X.M.cells++[sI .i64 X.tP,sI .i64 X.tR,sI .u64 X.own,sI .i64 h,.ms 1 0 k 4 none,sI .i64 ec,sI .i64 q,sI .i64 nx]) (af aM (GH X.M X.tP X.tR X.own h k cs 0 p nx n q 0 0 0 [] ec) ?_) (bx 2)
 have h1:(ec != 0)=true:=by simpa using SW
 have h2:(!(ec==0))=true:=by simpa using SW
 simp only[Bi,bF,az.ok,aC,h1,h2,true_and]
 exact⟨hd,rfl⟩
theorem O3 {n q:Int} (he:R.e≠0):cQ X 132 [sI .i64 n,sI .i64 q] R R:=
 an.settle (l0:=X.M.cells++[sI .i64 X.tP,sI .i64 X.tR,sI .u64 X.own,sI .i64 R.h,.ms 1 0 R.k 4 none,sI .i64 R.e,sI .i64 R.p,sI .i64 R.nx]) (af aM (GK X.M X.tP X.tR X.own R.h R.k R.cs R.e R.p R.nx n q 0 0 0 [] 0) (by
  simp only[Bl,az.ok,aC]
  exact⟨by simpa using he,rfl⟩)) (bx 2)
theorem aeb {n q:Int} {h2:Int} {k2:Nat} {c2:List PV} (he:R.e=0) (hd:an acb env 161 [.agg [sI .i64 R.h,.ms 0 0 R.k 4 none],sI .i64 n] [dc R.cs] (.au [.agg [sI .i64 h2,.ms 1 0 k2 4 none],sI .i64 0]) [dc R.cs,dc c2]) :
  cQ X 132 [sI .i64 n,sI .i64 q] R ⟨h2,k2,c2,0,R.p,R.nx⟩:=by
 obtain⟨h,k,cs,e,p,nx⟩:=R
 simp only at he hd
 subst he
 refine an.kill (m':=[aV X.M X.tP X.tR X.own h2 2 k2 0 p nx,dc cs,dc c2]) (af aM (GJ X.M X.tP X.tR X.own h k cs 0 p nx n q 0 h2 k2 c2 0) ?_) 1
 simp only[Bk,az.ok,aC]
 exact⟨hd,rfl⟩
theorem O4 {q:Int} (he:R.e≠0):cQ X 128 [sI .i64 q] R R:=
 an.settle (l0:=X.M.cells++[sI .i64 X.tP,sI .i64 X.tR,sI .u64 X.own,sI .i64 R.h,.ms 1 0 R.k 4 none,sI .i64 R.e,sI .i64 R.p,sI .i64 R.nx]) (af aM (GM X.M X.tP X.tR X.own R.h R.k R.cs R.e R.p R.nx 0 q 0 0 0 [] 0) (by
  simp only[Bn,az.ok,aC]
  exact⟨by simpa using he,rfl⟩)) (bx 2)
theorem aec {q:Int} {h2:Int} {k2:Nat} {c2:List PV} (he:R.e=0) (hd:an acb env 155 [.agg [sI .i64 R.h,.ms 0 0 R.k 4 none]] [dc R.cs] (.au [.agg [sI .i64 h2,.ms 1 0 k2 4 none],sI .i64 0]) [dc R.cs,dc c2]) :
  cQ X 128 [sI .i64 q] R ⟨h2,k2,c2,0,R.p,R.nx⟩:=by
 obtain⟨h,k,cs,e,p,nx⟩:=R
 simp only at he hd
 subst he
 refine an.kill (m':=[aV X.M X.tP X.tR X.own h2 2 k2 0 p nx,dc cs,dc c2]) (af aM (GL X.M X.tP X.tR X.own h k cs 0 p nx 0 q 0 h2 k2 c2 0) ?_) 1
 simp only[Bm,az.ok,aC]
 exact⟨hd,rfl⟩
theorem Xz {q:Int} (he:R.e≠0):cQ X 85 [sI .i64 q] R R:=
 an.settle (l0:=X.M.cells++[sI .i64 X.tP,sI .i64 X.tR,sI .u64 X.own,sI .i64 R.h,.ms 1 0 R.k 4 none,sI .i64 R.e,sI .i64 R.p,sI .i64 R.nx]) (af aM (GP X.M X.tP X.tR X.own R.h R.k R.cs R.e R.p R.nx 0 q 0 0 0 [] 0) (by
  simp only[Bq,az.ok,aC]
  exact⟨by simpa using he,rfl⟩)) (bx 2)
theorem SX {q:Int} {h2:Int} {k2:Nat} {c2:List PV} (he:R.e=0) (hd:an acb env 119 [.agg [sI .i64 R.h,.ms 0 0 R.k 4 none]] [dc R.cs] (.au [.agg [sI .i64 h2,.ms 1 0 k2 4 none],sI .i64 0]) [dc R.cs,dc c2]) :
  cQ X 85 [sI .i64 q] R ⟨h2,k2,c2,0,R.p,R.nx⟩:=by
 obtain⟨h,k,cs,e,p,nx⟩:=R
 simp only at he hd
 subst he
 refine an.kill (m':=[aV X.M X.tP X.tR X.own h2 2 k2 0 p nx,dc cs,dc c2]) (af aM (GN X.M X.tP X.tR X.own h k cs 0 p nx 0 q 0 h2 k2 c2 0) ?_) 1
 simp only[Bo,az.ok,aC]
 exact⟨hd,rfl⟩
theorem SY {q:Int} {ec:Int} (he:R.e=0) (SW:ec≠0) (hd:an acb env 119 [.agg [sI .i64 R.h,.ms 0 0 R.k 4 none]] [dc R.cs] (.au [.agg [sI .i64 0,.os none 0 0 []],sI .i64 ec]) [dc R.cs]) :
  cQ X 85 [sI .i64 q] R ⟨R.h,R.k,R.cs,ec,q,R.nx⟩:=by
 obtain⟨h,k,cs,e,p,nx⟩:=R
 simp only at he hd
 subst he
 refine an.settle (l0:=X.M.cells++[sI .i64 X.tP,sI .i64 X.tR,sI .u64 X.own,sI .i64 h,.ms 1 0 k 4 none,sI .i64 ec,sI .i64 q,sI .i64 nx]) (af aM (GO X.M X.tP X.tR X.own h k cs 0 p nx 0 q 0 0 0 [] ec) ?_) (bx 2)
 have h1:(ec != 0)=true:=by simpa using SW
 have h2:(!(ec==0))=true:=by simpa using SW
 simp only[Bp,bF,az.ok,aC,h1,h2,true_and]
 exact⟨hd,rfl⟩
theorem aed {n r q:Int} (he:R.e≠0):cQ X 156 [sI .i64 n,sI .i64 r,sI .i64 q] R R:=
 an.settle (l0:=X.M.cells++[sI .i64 X.tP,sI .i64 X.tR,sI .u64 X.own,sI .i64 R.h,.ms 1 0 R.k 4 none,sI .i64 R.e,sI .i64 R.p,sI .i64 R.nx]) (af aM (GQ X.M X.tP X.tR X.own R.h R.k R.cs R.e R.p R.nx n q r 0 0 [] 0) (by
  simp only[Br,az.ok,aC]
  exact⟨by simpa using he,rfl⟩)) (bx 2)
theorem aee {n r q:Int} {h2:Int} {k2:Nat} {c2:List PV} (he:R.e=0) (hd:an acb env 173 [.agg [sI .i64 R.h,.ms 0 0 R.k 4 none],sI .i64 n,sI .i64 r] [dc R.cs] (.au [.agg [sI .i64 h2,.ms 1 0 k2 4 none],sI .i64 0]) [dc R.cs,dc c2]) :
  cQ X 156 [sI .i64 n,sI .i64 r,sI .i64 q] R ⟨h2,k2,c2,0,R.p,R.nx⟩:=by
 obtain⟨h,k,cs,e,p,nx⟩:=R
 simp only at he hd
 subst he
 refine an.kill (m':=[aV X.M X.tP X.tR X.own h2 2 k2 0 p nx,dc cs,dc c2]) (af aM (yR X.M X.tP X.tR X.own h k cs 0 p nx n q r h2 k2 c2 0) ?_) 1
 simp only[tV,az.ok,aC]
 exact⟨hd,rfl⟩
end
end Go.Proofs.YtdmmllcjgjmbbaaGreatDoor.N
end
