import Derived.Test.YtncncijedmfpjaaGreatDoorMK
import Derived.Test.YtncncijedmfpjaaGreatDoorMI
open Nat renaming beq→bj,mul_one→ac8
open Go.Proofs.Tryz renaming prog→ae
open Go.Fn renaming func→acU
open Go.IntKind renaming i64→sa,u32→acu
open Min renaming min→acL
open Max renaming max→acM
open List renaming getElem?_eq_some_iff→ee,mem_of_getElem?→oi,map→acC,flatMap_append→ac9,flatMap→ac6,drop_eq_getElem_cons→ac3,getElem?_eq_getElem→de,flatMap_cons→ac2,drop_length→ada,length_append→dT,any_cons→adb
open Bool renaming or_eq_true→j1,true_and→ade,false_or→pt
open Int renaming toNat_natCast→acN
noncomputable section
section
set_option linter.unusedSimpArgs false
set_option linter.unusedVariables false
namespace Go.Proofs.YtncncijedmfpjaaGreatDoor.N
open Go Go.Am
def abi (k i:Nat) (cs:List PV) (ok:Bool) (f:FuncId) (_:List AV) (m:Mem):Option (AV×Mem):=cond (bj f 60) (some (sB ok,m)) none
def abj (k i:Nat) (cs:List PV) (ok:Bool) (f:FuncId) (_:List AV) (m:Mem):Option (AV×Mem):=cond (bj f 64) (some (sB ok,m)) none
def abk (k i:Nat) (cs:List PV) (ok:Bool) (f:FuncId) (_:List AV) (m:Mem):Option (AV×Mem):=cond (bj f 73) (some (sB ok,m)) none
def abl (k i:Nat) (cs:List PV) (ok:Bool) (f:FuncId) (_:List AV) (m:Mem):Option (AV×Mem):=cond (bj f 66) (some (sB ok,m)) none
def abm (k i:Nat) (cs:List PV) (ok:Bool) (f:FuncId) (_:List AV) (m:Mem):Option (AV×Mem):=cond (bj f 69) (some (sB ok,m)) none
def abn (k i:Nat) (cs:List PV) (ok:Bool) (f:FuncId) (_:List AV) (m:Mem):Option (AV×Mem):=cond (bj f 72) (some (sB ok,m)) none
def abo (k i:Nat) (cs:List PV) (ok:Bool) (f:FuncId) (_:List AV) (m:Mem):Option (AV×Mem):=cond (bj f 76) (some (sB ok,m)) none
def abp (k i:Nat) (cs:List PV) (ok:Bool) (f:FuncId) (_:List AV) (m:Mem):Option (AV×Mem):=cond (bj f 78) (some (sB ok,m)) none
def abq (k i:Nat) (cs:List PV) (ok:Bool) (f:FuncId) (_:List AV) (m:Mem):Option (AV×Mem):=cond (bj f 80) (some (sB ok,m)) none
def abr (k:Nat) (cs:List PV) (r:Int) (f:FuncId) (_:List AV) (m:Mem):Option (AV×Mem):=cond (bj f 107) (some (sI .i64 r,m)) none
def abt (k:Nat) (cs:List PV) (r:Int) (f:FuncId) (_:List AV) (m:Mem):Option (AV×Mem):=cond (bj f 110) (some (sI .i64 r,m)) none
def abu (k:Nat) (cs:List PV) (r:Int) (f:FuncId) (_:List AV) (m:Mem):Option (AV×Mem):=cond (bj f 110) (some (sI .i64 r,m)) none
def abv (k:Nat) (cs:List PV) (r:Int) (f:FuncId) (_:List AV) (m:Mem):Option (AV×Mem):=cond (bj f 111) (some (sI .i64 r,m)) none
def abw (k:Nat) (cs:List PV) (r:Int) (f:FuncId) (_:List AV) (m:Mem):Option (AV×Mem):=cond (bj f 112) (some (sI .i64 r,m)) none
def abx (k:Nat) (cs:List PV) (r:Int) (f:FuncId) (_:List AV) (m:Mem):Option (AV×Mem):=cond (bj f 113) (some (sI .i64 r,m)) none
def aby (k:Nat) (cs:List PV) (r:Int) (f:FuncId) (_:List AV) (m:Mem):Option (AV×Mem):=cond (bj f 115) (some (sI .i64 r,m)) none
def abz (k:Nat) (cs:List PV) (r:Int) (f:FuncId) (_:List AV) (m:Mem):Option (AV×Mem):=cond (bj f 115) (some (sI .i64 r,m)) none
def abA (k:Nat) (cs:List PV) (r:Int) (f:FuncId) (_:List AV) (m:Mem):Option (AV×Mem):=cond (bj f 116) (some (sI .i64 r,m)) none
def abB (s:ByteArray) (r:Int) (f:FuncId) (_:List AV) (m:Mem):Option (AV×Mem):=cond (bj f 74) (some (sI .i64 r,m)) none
def abC (x:Ty) (e:Int) (f:FuncId) (_:List AV) (m:Mem):Option (AV×Mem):=cond (bj f 67) (some (sI .i64 e,m)) none
def X0 (x:Li) (e:Int) (f:FuncId) (_:List AV) (m:Mem):Option (AV×Mem):=cond (bj f 77) (some (sI .i64 e,m)) none
def liC (M:Mo) (e:Int) (n:Nat) (cs:List PV) (f:FuncId) (_:List AV) (m:Mem):Option (AV×Mem):=cond (bj f 108) (some (.p (.ps n 1 cs),m)) none
def abD (e:Int) (k i:Nat) (cs:List PV) (r:Int) (f:FuncId) (_:List AV) (m:Mem):Option (AV×Mem):=cond (bj f 109) (some (sI .i64 r,m)) none
def loC (M:Mo) (k i:Nat) (left:Int) (cs:List PV) (n:Nat) (ns:List PV) (lg:Bool) (f:FuncId) (_:List AV) (m:Mem):Option (AV×Mem):=cond (bj f 63) (some (.p (.ps n 1 ns),m)) (cond (bj f 62) (some (sB lg,m)) none)
def maC (M:Mo) (b:Bool) (e:Int) (f:FuncId) (_:List AV) (m:Mem):Option (AV×Mem):=cond (bj f 59) (some (sB b,m)) (cond (bj f 61) (some (sI .i64 e,m)) none)
def mcC (M:Mo) (a b c:Int) (fn:FuncId) (_:List AV) (m:Mem):Option (AV×Mem):=cond (bj fn 31) (some (sI .i64 a,m)) (cond (bj fn 32) (some (sI .i64 b,m)) (cond (bj fn 33) (some (sI .i64 c,m)) none))
def Pg:bN:=aP aF aC [(107,0)] [] []
def TC:Sc:= .fin
def LC (k:Nat) (cs:List PV):aA:=
 (.at (af ae env 107 0 [.p (.ps k 2 cs),.fn (acU 60) [] [],sI .i64 (↑k:Int),sI .i64 0] ([]) 0 19))
theorem Ir (k:Nat) (cs:List PV):aG ae env Pg 1000000 107 ([AV.p (PV.ps k 2 cs),AV.fn (acU 60) [] []]) ([]) TC=LC k cs:=by kernel_rfl
def TD (k:Nat) (i:Nat) (cs:List PV) (ok:Bool):bN:=aP (abi k i cs ok) aC [(107,0)] [(107,0,1),(107,0,2)] [(107,5,3),(107,5,4)]
def X1:Sc:= .fin
def A9 (k:Nat) (i:Nat) (cs:List PV) (ok:Bool):aA:=
 (.test (decide ((↑i:Int)<(↑k:Int)))
 (.must (aM (↑i:Int) k&&true&&true)
 (.must (aQ (av cs (aB i*2))&&(aQ (av cs (aB i*2+1))&&true)&&true)
 (.call ⟨60,[.agg [.p (.ps (az (av cs (aB i*2))) (aR (av cs (aB i*2))) (an (av cs (aB i*2)))),.p (.ps (az (av cs (aB i*2+1))) (aR (av cs (aB i*2+1))) (an (av cs (aB i*2+1))))]],[],.p (.sc (.bool ok)),[]⟩
 (.test (ok)
 (.out (.ret (sI .i64 (↑i:Int)) []))
 (.at (af ae env 107 0 [.p (.ps k 2 cs),.fn (acU 60) [] [],sI .i64 (↑k:Int),sI .i64 (sa.wrap ((↑i:Int)+1))] ([]) 0 19))))))
 (.out (.ret (sI .i64 (-1)) [])))
theorem CW (k:Nat) (i:Nat) (cs:List PV) (ok:Bool):grow ae env (TD k i cs ok) 1000000 true (af ae env 107 0 ([AV.p (PV.ps k 2 cs),AV.fn (acU 60) [] [],sI sa (↑k:Int),sI sa (↑i:Int)]) ([]) 0 19) X1 atEnd=A9 k i cs ok:=by kernel_rfl
def Ph:bN:=aP aF aC [(110,0)] [] []
def TE:Sc:= .fin
def LD (k:Nat) (cs:List PV):aA:=
 (.at (af ae env 110 0 [.p (.ps k 1 cs),.fn (acU 64) [] [],sI .i64 (↑k:Int),sI .i64 0] ([]) 0 19))
theorem Is (k:Nat) (cs:List PV):aG ae env Ph 1000000 110 ([AV.p (PV.ps k 1 cs),AV.fn (acU 64) [] []]) ([]) TE=LD k cs:=by kernel_rfl
def TF (k:Nat) (i:Nat) (cs:List PV) (ok:Bool):bN:=aP (abj k i cs ok) aC [(110,0)] [(110,0,1),(110,0,2)] [(110,5,3),(110,5,4)]
def X2:Sc:= .fin
def Ba (k:Nat) (i:Nat) (cs:List PV) (ok:Bool):aA:=
 (.test (decide ((↑i:Int)<(↑k:Int)))
 (.must (aM (↑i:Int) k&&true&&true)
 (.must (isStr (av cs (aB i*1))&&true)
 (.call ⟨64,[.p (.sc (.string (bh (av cs (aB i*1)))))],[],.p (.sc (.bool ok)),[]⟩
 (.test (ok)
 (.out (.ret (sI .i64 (↑i:Int)) []))
 (.at (af ae env 110 0 [.p (.ps k 1 cs),.fn (acU 64) [] [],sI .i64 (↑k:Int),sI .i64 (sa.wrap ((↑i:Int)+1))] ([]) 0 19))))))
 (.out (.ret (sI .i64 (-1)) [])))
theorem CX (k:Nat) (i:Nat) (cs:List PV) (ok:Bool):grow ae env (TF k i cs ok) 1000000 true (af ae env 110 0 ([AV.p (PV.ps k 1 cs),AV.fn (acU 64) [] [],sI sa (↑k:Int),sI sa (↑i:Int)]) ([]) 0 19) X2 atEnd=Ba k i cs ok:=by kernel_rfl
def Pj:bN:=aP aF aC [(110,0)] [] []
def TG:Sc:= .fin
def LF (k:Nat) (cs:List PV):aA:=
 (.at (af ae env 110 0 [.p (.ps k 1 cs),.fn (acU 73) [] [],sI .i64 (↑k:Int),sI .i64 0] ([]) 0 19))
theorem Iu (k:Nat) (cs:List PV):aG ae env Pj 1000000 110 ([AV.p (PV.ps k 1 cs),AV.fn (acU 73) [] []]) ([]) TG=LF k cs:=by kernel_rfl
def TH (k:Nat) (i:Nat) (cs:List PV) (ok:Bool):bN:=aP (abk k i cs ok) aC [(110,0)] [(110,0,1),(110,0,2)] [(110,5,3),(110,5,4)]
def X3:Sc:= .fin
def Bb (k:Nat) (i:Nat) (cs:List PV) (ok:Bool):aA:=
 (.test (decide ((↑i:Int)<(↑k:Int)))
 (.must (aM (↑i:Int) k&&true&&true)
 (.must (isStr (av cs (aB i*1))&&true)
 (.call ⟨73,[.p (.sc (.string (bh (av cs (aB i*1)))))],[],.p (.sc (.bool ok)),[]⟩
 (.test (ok)
 (.out (.ret (sI .i64 (↑i:Int)) []))
 (.at (af ae env 110 0 [.p (.ps k 1 cs),.fn (acU 73) [] [],sI .i64 (↑k:Int),sI .i64 (sa.wrap ((↑i:Int)+1))] ([]) 0 19))))))
 (.out (.ret (sI .i64 (-1)) [])))
theorem CY (k:Nat) (i:Nat) (cs:List PV) (ok:Bool):grow ae env (TH k i cs ok) 1000000 true (af ae env 110 0 ([AV.p (PV.ps k 1 cs),AV.fn (acU 73) [] [],sI sa (↑k:Int),sI sa (↑i:Int)]) ([]) 0 19) X3 atEnd=Bb k i cs ok:=by kernel_rfl
def Pk:bN:=aP aF aC [(111,0)] [] []
def TI:Sc:= .fin
def LG (k:Nat) (cs:List PV):aA:=
 (.at (af ae env 111 0 [.p (.ps k 2 cs),.fn (acU 66) [] [],sI .i64 (↑k:Int),sI .i64 0] ([]) 0 19))
theorem Iv (k:Nat) (cs:List PV):aG ae env Pk 1000000 111 ([AV.p (PV.ps k 2 cs),AV.fn (acU 66) [] []]) ([]) TI=LG k cs:=by kernel_rfl
def TJ (k:Nat) (i:Nat) (cs:List PV) (ok:Bool):bN:=aP (abl k i cs ok) aC [(111,0)] [(111,0,1),(111,0,2)] [(111,5,3),(111,5,4)]
def X4:Sc:= .fin
def Bc (k:Nat) (i:Nat) (cs:List PV) (ok:Bool):aA:=
 (.test (decide ((↑i:Int)<(↑k:Int)))
 (.must (aM (↑i:Int) k&&true&&true)
 (.must (isInt sa (av cs (aB i*2))&&(isInt sa (av cs (aB i*2+1))&&true)&&true)
 (.call ⟨66,[.agg [sI .i64 (aq (av cs (aB i*2))),sI .i64 (aq (av cs (aB i*2+1)))]],[],.p (.sc (.bool ok)),[]⟩
 (.test (ok)
 (.out (.ret (sI .i64 (↑i:Int)) []))
 (.at (af ae env 111 0 [.p (.ps k 2 cs),.fn (acU 66) [] [],sI .i64 (↑k:Int),sI .i64 (sa.wrap ((↑i:Int)+1))] ([]) 0 19))))))
 (.out (.ret (sI .i64 (-1)) [])))
theorem CZ (k:Nat) (i:Nat) (cs:List PV) (ok:Bool):grow ae env (TJ k i cs ok) 1000000 true (af ae env 111 0 ([AV.p (PV.ps k 2 cs),AV.fn (acU 66) [] [],sI sa (↑k:Int),sI sa (↑i:Int)]) ([]) 0 19) X4 atEnd=Bc k i cs ok:=by kernel_rfl
def Pm:bN:=aP aF aC [(112,0)] [] []
def TK:Sc:= .fin
def LH (k:Nat) (cs:List PV):aA:=
 (.at (af ae env 112 0 [.p (.ps k 3 cs),.fn (acU 69) [] [],sI .i64 (↑k:Int),sI .i64 0] ([]) 0 19))
theorem Iw (k:Nat) (cs:List PV):aG ae env Pm 1000000 112 ([AV.p (PV.ps k 3 cs),AV.fn (acU 69) [] []]) ([]) TK=LH k cs:=by kernel_rfl
def TL (k:Nat) (i:Nat) (cs:List PV) (ok:Bool):bN:=aP (abm k i cs ok) aC [(112,0)] [(112,0,1),(112,0,2)] [(112,5,3),(112,5,4)]
def X5:Sc:= .fin
def Bd (k:Nat) (i:Nat) (cs:List PV) (ok:Bool):aA:=
 (.test (decide ((↑i:Int)<(↑k:Int)))
 (.must (aM (↑i:Int) k&&true&&true)
 (.must (isStr (av cs (aB i*3))&&(isStr (av cs (aB i*3+1))&&(isInt sa (av cs (aB i*3+1+1))&&true))&&true)
 (.call ⟨69,[.agg [.p (.sc (.string (bh (av cs (aB i*3))))),.p (.sc (.string (bh (av cs (aB i*3+1))))),sI .i64 (aq (av cs (aB i*3+1+1)))]],[],.p (.sc (.bool ok)),[]⟩
 (.test (ok)
 (.out (.ret (sI .i64 (↑i:Int)) []))
 (.at (af ae env 112 0 [.p (.ps k 3 cs),.fn (acU 69) [] [],sI .i64 (↑k:Int),sI .i64 (sa.wrap ((↑i:Int)+1))] ([]) 0 19))))))
 (.out (.ret (sI .i64 (-1)) [])))
theorem C0 (k:Nat) (i:Nat) (cs:List PV) (ok:Bool):grow ae env (TL k i cs ok) 1000000 true (af ae env 112 0 ([AV.p (PV.ps k 3 cs),AV.fn (acU 69) [] [],sI sa (↑k:Int),sI sa (↑i:Int)]) ([]) 0 19) X5 atEnd=Bd k i cs ok:=by kernel_rfl
def Pn:bN:=aP aF aC [(113,0)] [] []
def TM:Sc:= .fin
def LI (k:Nat) (cs:List PV):aA:=
 (.at (af ae env 113 0 [.p (.ps k 3 cs),.fn (acU 72) [] [],sI .i64 (↑k:Int),sI .i64 0] ([]) 0 19))
theorem Ix (k:Nat) (cs:List PV):aG ae env Pn 1000000 113 ([AV.p (PV.ps k 3 cs),AV.fn (acU 72) [] []]) ([]) TM=LI k cs:=by kernel_rfl
def TN (k:Nat) (i:Nat) (cs:List PV) (ok:Bool):bN:=aP (abn k i cs ok) aC [(113,0)] [(113,0,1),(113,0,2)] [(113,5,3),(113,5,4)]
def X6:Sc:= .fin
def Be (k:Nat) (i:Nat) (cs:List PV) (ok:Bool):aA:=
 (.test (decide ((↑i:Int)<(↑k:Int)))
 (.must (aM (↑i:Int) k&&true&&true)
 (.must (isInt sa (av cs (aB i*3))&&(isInt sa (av cs (aB i*3+1))&&(aQ (av cs (aB i*3+1+1))&&true))&&true)
 (.call ⟨72,[.agg [sI .i64 (aq (av cs (aB i*3))),sI .i64 (aq (av cs (aB i*3+1))),.p (.ps (az (av cs (aB i*3+1+1))) (aR (av cs (aB i*3+1+1))) (an (av cs (aB i*3+1+1))))]],[],.p (.sc (.bool ok)),[]⟩
 (.test (ok)
 (.out (.ret (sI .i64 (↑i:Int)) []))
 (.at (af ae env 113 0 [.p (.ps k 3 cs),.fn (acU 72) [] [],sI .i64 (↑k:Int),sI .i64 (sa.wrap ((↑i:Int)+1))] ([]) 0 19))))))
 (.out (.ret (sI .i64 (-1)) [])))
theorem C1 (k:Nat) (i:Nat) (cs:List PV) (ok:Bool):grow ae env (TN k i cs ok) 1000000 true (af ae env 113 0 ([AV.p (PV.ps k 3 cs),AV.fn (acU 72) [] [],sI sa (↑k:Int),sI sa (↑i:Int)]) ([]) 0 19) X6 atEnd=Be k i cs ok:=by kernel_rfl
def Po:bN:=aP aF aC [(115,0)] [] []
def TO:Sc:= .fin
def LJ (k:Nat) (cs:List PV):aA:=
 (.at (af ae env 115 0 [.p (.ps k 3 cs),.fn (acU 76) [] [],sI .i64 (↑k:Int),sI .i64 0] ([]) 0 19))
theorem Iy (k:Nat) (cs:List PV):aG ae env Po 1000000 115 ([AV.p (PV.ps k 3 cs),AV.fn (acU 76) [] []]) ([]) TO=LJ k cs:=by kernel_rfl
def TP (k:Nat) (i:Nat) (cs:List PV) (ok:Bool):bN:=aP (abo k i cs ok) aC [(115,0)] [(115,0,1),(115,0,2)] [(115,5,3),(115,5,4)]
def X7:Sc:= .fin
def Bf (k:Nat) (i:Nat) (cs:List PV) (ok:Bool):aA:=
 (.test (decide ((↑i:Int)<(↑k:Int)))
 (.must (aM (↑i:Int) k&&true&&true)
 (.must (isInt acu (av cs (aB i*3))&&(isInt acu (av cs (aB i*3+1))&&(isBool (av cs (aB i*3+1+1))&&true))&&true)
 (.call ⟨76,[.agg [sI .u32 (aq (av cs (aB i*3))),sI .u32 (aq (av cs (aB i*3+1))),.p (.sc (.bool (bg (av cs (aB i*3+1+1)))))]],[],.p (.sc (.bool ok)),[]⟩
 (.test (ok)
 (.out (.ret (sI .i64 (↑i:Int)) []))
 (.at (af ae env 115 0 [.p (.ps k 3 cs),.fn (acU 76) [] [],sI .i64 (↑k:Int),sI .i64 (sa.wrap ((↑i:Int)+1))] ([]) 0 19))))))
 (.out (.ret (sI .i64 (-1)) [])))
theorem C2 (k:Nat) (i:Nat) (cs:List PV) (ok:Bool):grow ae env (TP k i cs ok) 1000000 true (af ae env 115 0 ([AV.p (PV.ps k 3 cs),AV.fn (acU 76) [] [],sI sa (↑k:Int),sI sa (↑i:Int)]) ([]) 0 19) X7 atEnd=Bf k i cs ok:=by kernel_rfl
def Pp:bN:=aP aF aC [(115,0)] [] []
def TQ:Sc:= .fin
def LK (k:Nat) (cs:List PV):aA:=
 (.at (af ae env 115 0 [.p (.ps k 3 cs),.fn (acU 78) [] [],sI .i64 (↑k:Int),sI .i64 0] ([]) 0 19))
theorem Iz (k:Nat) (cs:List PV):aG ae env Pp 1000000 115 ([AV.p (PV.ps k 3 cs),AV.fn (acU 78) [] []]) ([]) TQ=LK k cs:=by kernel_rfl
def TR (k:Nat) (i:Nat) (cs:List PV) (ok:Bool):bN:=aP (abp k i cs ok) aC [(115,0)] [(115,0,1),(115,0,2)] [(115,5,3),(115,5,4)]
def X8:Sc:= .fin
def Bg (k:Nat) (i:Nat) (cs:List PV) (ok:Bool):aA:=
 (.test (decide ((↑i:Int)<(↑k:Int)))
 (.must (aM (↑i:Int) k&&true&&true)
 (.must (isInt acu (av cs (aB i*3))&&(isInt acu (av cs (aB i*3+1))&&(isBool (av cs (aB i*3+1+1))&&true))&&true)
 (.call ⟨78,[.agg [sI .u32 (aq (av cs (aB i*3))),sI .u32 (aq (av cs (aB i*3+1))),.p (.sc (.bool (bg (av cs (aB i*3+1+1)))))]],[],.p (.sc (.bool ok)),[]⟩
 (.test (ok)
 (.out (.ret (sI .i64 (↑i:Int)) []))
 (.at (af ae env 115 0 [.p (.ps k 3 cs),.fn (acU 78) [] [],sI .i64 (↑k:Int),sI .i64 (sa.wrap ((↑i:Int)+1))] ([]) 0 19))))))
 (.out (.ret (sI .i64 (-1)) [])))
theorem C3 (k:Nat) (i:Nat) (cs:List PV) (ok:Bool):grow ae env (TR k i cs ok) 1000000 true (af ae env 115 0 ([AV.p (PV.ps k 3 cs),AV.fn (acU 78) [] [],sI sa (↑k:Int),sI sa (↑i:Int)]) ([]) 0 19) X8 atEnd=Bg k i cs ok:=by kernel_rfl
def Pq:bN:=aP aF aC [(116,0)] [] []
def TS:Sc:= .fin
def LL (k:Nat) (cs:List PV):aA:=
 (.at (af ae env 116 0 [.p (.ps k 3 cs),.fn (acU 80) [] [],sI .i64 (↑k:Int),sI .i64 0] ([]) 0 19))
theorem IA (k:Nat) (cs:List PV):aG ae env Pq 1000000 116 ([AV.p (PV.ps k 3 cs),AV.fn (acU 80) [] []]) ([]) TS=LL k cs:=by kernel_rfl
def TT (k:Nat) (i:Nat) (cs:List PV) (ok:Bool):bN:=aP (abq k i cs ok) aC [(116,0)] [(116,0,1),(116,0,2)] [(116,5,3),(116,5,4)]
def X9:Sc:= .fin
def Bh (k:Nat) (i:Nat) (cs:List PV) (ok:Bool):aA:=
 (.test (decide ((↑i:Int)<(↑k:Int)))
 (.must (aM (↑i:Int) k&&true&&true)
 (.must (isStr (av cs (aB i*3))&&(isInt sa (av cs (aB i*3+1))&&(isInt acu (av cs (aB i*3+1+1))&&true))&&true)
 (.call ⟨80,[.agg [.p (.sc (.string (bh (av cs (aB i*3))))),sI .i64 (aq (av cs (aB i*3+1))),sI .u32 (aq (av cs (aB i*3+1+1)))]],[],.p (.sc (.bool ok)),[]⟩
 (.test (ok)
 (.out (.ret (sI .i64 (↑i:Int)) []))
 (.at (af ae env 116 0 [.p (.ps k 3 cs),.fn (acU 80) [] [],sI .i64 (↑k:Int),sI .i64 (sa.wrap ((↑i:Int)+1))] ([]) 0 19))))))
 (.out (.ret (sI .i64 (-1)) [])))
theorem C4 (k:Nat) (i:Nat) (cs:List PV) (ok:Bool):grow ae env (TT k i cs ok) 1000000 true (af ae env 116 0 ([AV.p (PV.ps k 3 cs),AV.fn (acU 80) [] [],sI sa (↑k:Int),sI sa (↑i:Int)]) ([]) 0 19) X9 atEnd=Bh k i cs ok:=by kernel_rfl
def TU (k:Nat) (cs:List PV) (r:Int):bN:=aP (abr k cs r) aC [] [] []
def Ya:Sc:= .fin
def Gy (k:Nat) (cs:List PV) (r:Int):aA:=
 (.call ⟨107,[.p (.ps k 2 cs),.fn (acU 60) [] []],[],sI .i64 r,[]⟩
 (.out (.ret (.p (.sc (.bool (decide (r≥0))))) [])))
theorem LM (k:Nat) (cs:List PV) (r:Int):aG ae env (TU k cs r) 1000000 59 ([AV.p (PV.ps k 2 cs),AV.fn (acU 60) [] []]) ([]) Ya=Gy k cs r:=by kernel_rfl
def TV (k:Nat) (cs:List PV) (r:Int):bN:=aP (abt k cs r) aC [] [] []
def Yb:Sc:= .fin
def Gz (k:Nat) (cs:List PV) (r:Int):aA:=
 (.call ⟨110,[.p (.ps k 1 cs),.fn (acU 64) [] []],[],sI .i64 r,[]⟩
 (.out (.ret (.p (.sc (.bool (decide (r≥0))))) [])))
theorem LN (k:Nat) (cs:List PV) (r:Int):aG ae env (TV k cs r) 1000000 62 ([AV.p (PV.ps k 1 cs),AV.fn (acU 64) [] []]) ([]) Yb=Gz k cs r:=by kernel_rfl
def TW (k:Nat) (cs:List PV) (r:Int):bN:=aP (abu k cs r) aC [] [] []
def Yc:Sc:= .fin
def GA (k:Nat) (cs:List PV) (r:Int):aA:=
 (.call ⟨110,[.p (.ps k 1 cs),.fn (acU 73) [] []],[],sI .i64 r,[]⟩
 (.out (.ret (.p (.sc (.bool (decide (r≥0))))) [])))
theorem LO (k:Nat) (cs:List PV) (r:Int):aG ae env (TW k cs r) 1000000 62 ([AV.p (PV.ps k 1 cs),AV.fn (acU 73) [] []]) ([]) Yc=GA k cs r:=by kernel_rfl
def TX (k:Nat) (cs:List PV) (r:Int):bN:=aP (abv k cs r) aC [] [] []
def Yd:Sc:= .fin
def GB (k:Nat) (cs:List PV) (r:Int):aA:=
 (.call ⟨111,[.p (.ps k 2 cs),.fn (acU 66) [] []],[],sI .i64 r,[]⟩
 (.out (.ret (.p (.sc (.bool (decide (r≥0))))) [])))
theorem LP (k:Nat) (cs:List PV) (r:Int):aG ae env (TX k cs r) 1000000 65 ([AV.p (PV.ps k 2 cs),AV.fn (acU 66) [] []]) ([]) Yd=GB k cs r:=by kernel_rfl
def TY (k:Nat) (cs:List PV) (r:Int):bN:=aP (abw k cs r) aC [] [] []
def Ye:Sc:= .fin
def GC (k:Nat) (cs:List PV) (r:Int):aA:=
 (.call ⟨112,[.p (.ps k 3 cs),.fn (acU 69) [] []],[],sI .i64 r,[]⟩
 (.out (.ret (.p (.sc (.bool (decide (r≥0))))) [])))
theorem LQ (k:Nat) (cs:List PV) (r:Int):aG ae env (TY k cs r) 1000000 68 ([AV.p (PV.ps k 3 cs),AV.fn (acU 69) [] []]) ([]) Ye=GC k cs r:=by kernel_rfl
def TZ (k:Nat) (cs:List PV) (r:Int):bN:=aP (abx k cs r) aC [] [] []
def Yf:Sc:= .fin
def GD (k:Nat) (cs:List PV) (r:Int):aA:=
 (.call ⟨113,[.p (.ps k 3 cs),.fn (acU 72) [] []],[],sI .i64 r,[]⟩
 (.out (.ret (.p (.sc (.bool (decide (r≥0))))) [])))
theorem LR (k:Nat) (cs:List PV) (r:Int):aG ae env (TZ k cs r) 1000000 71 ([AV.p (PV.ps k 3 cs),AV.fn (acU 72) [] []]) ([]) Yf=GD k cs r:=by kernel_rfl
def T0 (k:Nat) (cs:List PV) (r:Int):bN:=aP (aby k cs r) aC [] [] []
def Yg:Sc:= .fin
def GF (k:Nat) (cs:List PV) (r:Int):aA:=
 (.call ⟨115,[.p (.ps k 3 cs),.fn (acU 76) [] []],[],sI .i64 r,[]⟩
 (.out (.ret (.p (.sc (.bool (decide (r≥0))))) [])))
theorem LS (k:Nat) (cs:List PV) (r:Int):aG ae env (T0 k cs r) 1000000 75 ([AV.p (PV.ps k 3 cs),AV.fn (acU 76) [] []]) ([]) Yg=GF k cs r:=by kernel_rfl
def T1 (k:Nat) (cs:List PV) (r:Int):bN:=aP (abz k cs r) aC [] [] []
def Yh:Sc:= .fin
def GG (k:Nat) (cs:List PV) (r:Int):aA:=
 (.call ⟨115,[.p (.ps k 3 cs),.fn (acU 78) [] []],[],sI .i64 r,[]⟩
 (.out (.ret (.p (.sc (.bool (decide (r≥0))))) [])))
theorem LU (k:Nat) (cs:List PV) (r:Int):aG ae env (T1 k cs r) 1000000 75 ([AV.p (PV.ps k 3 cs),AV.fn (acU 78) [] []]) ([]) Yh=GG k cs r:=by kernel_rfl
def T2 (k:Nat) (cs:List PV) (r:Int):bN:=aP (abA k cs r) aC [] [] []
def Yi:Sc:= .fin
def GH (k:Nat) (cs:List PV) (r:Int):aA:=
 (.call ⟨116,[.p (.ps k 3 cs),.fn (acU 80) [] []],[],sI .i64 r,[]⟩
 (.out (.ret (.p (.sc (.bool (decide (r≥0))))) [])))
theorem LV (k:Nat) (cs:List PV) (r:Int):aG ae env (T2 k cs r) 1000000 79 ([AV.p (PV.ps k 3 cs),AV.fn (acU 80) [] []]) ([]) Yi=GH k cs r:=by kernel_rfl
def T3:bN:=aP aF aC [] [(67,0,0)] []
def Yj:Sc:= .fin
def GI (p r:Int):aA:=
 (.test (!(fun r=>(p==bif true then acL (bif false then acL p 0 else acM p 0) 255 else acM (bif false then acL p 0 else acM p 0) 255)&&r) ((fun r_1=>(r==bif true then acL (bif false then acL r 0 else acM r 0) 1 else acM (bif false then acL r 0 else acM r 0) 1)&&r_1) true))
 (.out (.ret (sI .i64 2) []))
 (.out (.ret (sI .i64 0) [])))
theorem LW (p r:Int):aG ae env T3 1000000 67 ([AV.agg [sI sa p,sI sa r]]) ([]) Yj=GI p r:=by kernel_rfl
def T4:bN:=aP aF aC [] [(77,2,5),(77,2,8),(77,2,14),(77,2,22),(77,2,26),(77,0,0)] []
def Yk:Sc:=(.fork (.lit (.lit .fin)) (.fork (.fork (.lit (.lit .fin)) (.fork (.lit .fin) (.no (.lit .fin)))) (.lit (.yes .fin))))
def GJ (mn mx:Int) (cap:Bool) (most:Int):aA:=
 (.test (decide (mn>most))
 (.out (.ret (sI .i64 2) []))
 (.test (cap)
 (.test (decide (mx<mn))
 (.out (.ret (sI .i64 2) []))
 (.test (decide (mx>most))
 (.out (.ret (sI .i64 2) []))
 (.must (!(!cap))
 (.out (.ret (sI .i64 0) [])))))
 (.must (!cap)
 (.test (mx != 0)
 (.out (.ret (sI .i64 2) []))
 (.out (.ret (sI .i64 0) []))))))
theorem LX (mn mx:Int) (cap:Bool) (most:Int):aG ae env T4 1000000 77 ([AV.agg [sI acu mn,sI acu mx,sB cap],sI acu most]) ([]) Yk=GJ mn mx cap most:=by kernel_rfl
def T5:bN:=aP aF aC [] [] []
def Yl:Sc:= .fin
def Pr (x:El):aA:=
 (.out (.ret (.p (.sc (.bool (decide ((↑x.fs.length:Int)>16384))))) []))
theorem LY (x:El):aG ae env T5 1000000 60 ([AV.agg (acC AV.p (aW x))]) ([]) Yl=Pr x:=by kernel_rfl
def T6:bN:=aP aF aC [] [] []
def Ym:Sc:= .fin
def Pu (s:ByteArray):aA:=
 (.out (.ret (.p (.sc (.bool (decide ((↑s.data.toList.length:Int)>1000))))) []))
theorem LZ (s:ByteArray):aG ae env T6 1000000 64 ([AV.p (PV.sc (Value.string s))]) ([]) Ym=Pu s:=by kernel_rfl
def T7 (s:ByteArray) (r:Int):bN:=aP (abB s r) aC [] [] []
def Yn:Sc:= .fin
def Pv (s:ByteArray) (r:Int):aA:=
 (.call ⟨74,[.os (some 0) s.data.toList.length 1 (acC hH s.data.toList)],[.tok],sI .i64 r,[.tok]⟩
 (.out (.ret (.p (.sc (.bool (decide (r≥0))))) [])))
theorem L0 (s:ByteArray) (r:Int):aG ae env (T7 s r) 1000000 73 ([AV.p (PV.sc (Value.string s))]) ([]) Yn=Pv s r:=by kernel_rfl
def T8 (x:Ty) (e:Int):bN:=aP (abC x e) aC [] [] []
def Yo:Sc:= .fin
def Pw (x:Ty) (e:Int):aA:=
 (.call ⟨67,[.agg [sI .i64 x.p,sI .i64 x.r]],[],sI .i64 e,[]⟩
 (.out (.ret (.p (.sc (.bool (e != 0)))) [])))
theorem L1 (x:Ty) (e:Int):aG ae env (T8 x e) 1000000 66 ([AV.agg (acC AV.p (cK x))]) ([]) Yo=Pw x e:=by kernel_rfl
def T9:bN:=aP aF aC [] [(70,2,3)] []
def Yp:Sc:= .fin
def GK (x:Im):aA:=
 (.test (decide (x.ty≥0))
 (.out (.ret (.p (.sc (.bool !decide (x.ty≤2147483647)))) []))
 A2)
theorem L2 (x:Im):aG ae env T9 1000000 69 ([AV.agg (acC AV.p (bp x))]) ([]) Yp=GK x:=by kernel_rfl
def Ua (x:Li) (e:Int):bN:=aP (X0 x e) aC [] [] []
def Yq:Sc:= .fin
def Px (x:Li) (e:Int):aA:=
 (.call ⟨77,[.agg [sI .u32 x.mn,sI .u32 x.mx,.p (.sc (.bool x.cap))],sI .u32 1048576],[],sI .i64 e,[]⟩
 (.out (.ret (.p (.sc (.bool (e != 0)))) [])))
theorem L3 (x:Li) (e:Int):aG ae env (Ua x e) 1000000 76 ([AV.agg (acC AV.p (aH x))]) ([]) Yq=Px x e:=by kernel_rfl
def Ub (x:Li) (e:Int):bN:=aP (X0 x e) aC [] [] []
def Yr:Sc:= .fin
def Py (x:Li) (e:Int):aA:=
 (.call ⟨77,[.agg [sI .u32 x.mn,sI .u32 x.mx,.p (.sc (.bool x.cap))],sI .u32 65536],[],sI .i64 e,[]⟩
 (.out (.ret (.p (.sc (.bool (e != 0)))) [])))
theorem L4 (x:Li) (e:Int):aG ae env (Ub x e) 1000000 78 ([AV.agg (acC AV.p (aH x))]) ([]) Yr=Py x e:=by kernel_rfl
def Uc:bN:=aP aF aC [] [(80,2,4)] []
def Ys:Sc:= .fin
def GL (x:Ex):aA:=
 (.test (decide (x.kind<0))
 A2
 (.out (.ret (.p (.sc (.bool (decide (x.kind>3))))) [])))
theorem L5 (x:Ex):aG ae env Uc 1000000 80 ([AV.agg (acC AV.p (bB x))]) ([]) Ys=GL x:=by kernel_rfl
def Ud:bN:=aP aF aC [] [(70,2,3),(72,2,5),(72,2,11)] []
def Yt:Sc:=(.fork (.fork (.lit .fin) .fin) (.lit (.lit .fin)))
def GM (x:Fu):aA:=
 (.test (decide (x.ty≥0))
 (.test (!decide (x.ty≤2147483647))
 A2
 (.test (decide (x.lo<0))
 A2
 (.out (.ret (.p (.sc (.bool (decide (x.lo>50000))))) []))))
 A2)
theorem L6 (x:Fu):aG ae env Ud 1000000 72 ([AV.agg (acC AV.p (aO x))]) ([]) Yt=GM x:=by kernel_rfl
def Ue (M:Mo) (e:Int) (n:Nat) (cs:List PV):bN:=aP (liC M e n cs) aC [(61,0)] [] []
def Yu:Sc:= .fin
def Pz (M:Mo) (e:Int) (n:Nat) (cs:List PV):aA:=
 (.call ⟨108,[.agg (acC AV.p M.aJ)],[],.p (.ps n 1 cs),[]⟩
 (.at (af ae env 61 0 [sI .i64 e,.p (.ps n 1 cs),sI .i64 (↑n:Int),sI .i64 0] ([]) 0 20)))
theorem L7 (M:Mo) (e:Int) (n:Nat) (cs:List PV):aG ae env (Ue M e n cs) 1000000 61 ([AV.agg (acC AV.p M.aJ),sI sa e]) ([]) Yu=Pz M e n cs:=by kernel_rfl
def Uf (e:Int) (k:Nat) (i:Nat) (cs:List PV) (r:Int):bN:=aP (abD e k i cs r) aC [(61,0)] [(61,0,1),(61,0,2)] [(61,4,0),(61,4,1)]
def Yv:Sc:= .fin
def Bi (e:Int) (k:Nat) (i:Nat) (cs:List PV) (r:Int):aA:=
 (.test (decide ((↑i:Int)<(↑k:Int)))
 (.must (aM (↑i:Int) k&&true&&true)
 (.must (aQ (av cs (aB i*1))&&true)
 (.call ⟨109,[.p (.ps (az (av cs (aB i*1))) (aR (av cs (aB i*1))) (an (av cs (aB i*1))))],[],sI .i64 r,[]⟩
 (.test (r==e)
 (.out (.ret (sI .i64 e) []))
 (.at (af ae env 61 0 [sI .i64 e,.p (.ps k 1 cs),sI .i64 (↑k:Int),sI .i64 (sa.wrap ((↑i:Int)+1))] ([]) 0 20))))))
 (.out (.ret (sI .i64 0) [])))
theorem C5 (e:Int) (k:Nat) (i:Nat) (cs:List PV) (r:Int):grow ae env (Uf e k i cs r) 1000000 true (af ae env 61 0 ([sI sa e,AV.p (PV.ps k 1 cs),sI sa (↑k:Int),sI sa (↑i:Int)]) ([]) 0 20) Yv atEnd=Bi e k i cs r:=by kernel_rfl
def Ug:bN:=aP aF aC [(32,0)] [] []
def Yw:Sc:= .fin
def PA (M:Mo):aA:=
 (.at (af ae env 32 0 [.mp 0 0,sI .i64 1048576,.p (.ps M.aY.length 2 (ac6 bq M.aY)),sI .i64 (↑M.aY.length:Int),sI .i64 0] ([.pc M.aJ]) 0 29))
theorem L8 (M:Mo):aG ae env Ug 1000000 32 ([AV.agg (acC AV.p M.aJ)]) ([]) Yw=PA M:=by kernel_rfl
def Uh (M:Mo) (k:Nat) (i:Nat) (left:Int) (cs:List PV) (n:Nat) (ns:List PV) (lg:Bool):bN:=aP (loC M k i left cs n ns lg) aC [(32,0)] [(32,0,1),(32,8,3),(32,0,2)] [(32,5,0),(32,5,1)]
def Yx:Sc:=(.fork .fin (.fork (.lit .fin) .fin))
def Bj (M:Mo) (k:Nat) (i:Nat) (left:Int) (cs:List PV) (n:Nat) (ns:List PV) (lg:Bool):aA:=
 (.test (decide ((↑i:Int)<(↑k:Int)))
 (.must (aM (↑i:Int) k&&true&&true)
 (.must (aQ (av cs (aB i*2))&&(aQ (av cs (aB i*2+1))&&true)&&true)
 (.at (af ae env 32 0 [.mp 0 0,sI .i64 (sa.wrap (left-bif true then acL (↑(az (av cs (aB i*2+1))):Int) (sa.wrap (left+1)) else acM (↑(az (av cs (aB i*2+1))):Int) (sa.wrap (left+1)))),.p (.ps k 2 cs),sI .i64 (↑k:Int),sI .i64 (sa.wrap ((↑i:Int)+1))] ([.pc M.aJ]) 0 29))))
 (.test (decide (left<0))
 (.out (.ret (sI .i64 3) []))
 (.call ⟨63,[.agg (acC AV.p M.aJ)],[],.p (.ps n 1 ns),[]⟩
 (.call ⟨62,[.p (.ps n 1 ns),.fn (acU 64) [] []],[],.p (.sc (.bool lg)),[]⟩
 (.test (lg)
 (.out (.ret (sI .i64 3) []))
 (.out (.ret (sI .i64 0) [])))))))
theorem C6 (M:Mo) (k:Nat) (i:Nat) (left:Int) (cs:List PV) (n:Nat) (ns:List PV) (lg:Bool):grow ae env (Uh M k i left cs n ns lg) 1000000 true (af ae env 32 0 ([AV.mp 0 0,sI sa left,AV.p (PV.ps k 2 cs),sI sa (↑k:Int),sI sa (↑i:Int)]) ([aN.pc M.aJ]) 0 29) Yx atEnd=Bj M k i left cs n ns lg:=by kernel_rfl
def Ui (M:Mo) (b:Bool) (e:Int):bN:=aP (maC M b e) aC [] [(31,3,5),(31,3,11),(31,3,15),(31,0,0)] []
def Yy:Sc:=(.fork (.lit (.lit (.lit .fin))) (.fork (.lit (.lit .fin)) (.fork (.lit .fin) .fin)))
def GN (M:Mo) (b:Bool) (e:Int):aA:=
 (.test (decide ((↑M.dh.length:Int)>1))
 (.out (.ret (sI .i64 141) []))
 (.test (decide ((↑M.dw.length:Int)>1))
 (.out (.ret (sI .i64 141) []))
 (.test (decide ((bif false then acL (bif false then acL (bif false then acL (bif false then acL (bif false then acL (bif false then acL (↑M.tys.length:Int) (↑M.aZ.length:Int) else acM (↑M.tys.length:Int) (↑M.aZ.length:Int)) (↑M.fns.length:Int) else acM (bif false then acL (↑M.tys.length:Int) (↑M.aZ.length:Int) else acM (↑M.tys.length:Int) (↑M.aZ.length:Int)) (↑M.fns.length:Int)) (↑M.gls.length:Int) else acM (bif false then acL (bif false then acL (↑M.tys.length:Int) (↑M.aZ.length:Int) else acM (↑M.tys.length:Int) (↑M.aZ.length:Int)) (↑M.fns.length:Int) else acM (bif false then acL (↑M.tys.length:Int) (↑M.aZ.length:Int) else acM (↑M.tys.length:Int) (↑M.aZ.length:Int)) (↑M.fns.length:Int)) (↑M.gls.length:Int)) (↑M.exs.length:Int) else acM (bif false then acL (bif false then acL (bif false then acL (↑M.tys.length:Int) (↑M.aZ.length:Int) else acM (↑M.tys.length:Int) (↑M.aZ.length:Int)) (↑M.fns.length:Int) else acM (bif false then acL (↑M.tys.length:Int) (↑M.aZ.length:Int) else acM (↑M.tys.length:Int) (↑M.aZ.length:Int)) (↑M.fns.length:Int)) (↑M.gls.length:Int) else acM (bif false then acL (bif false then acL (↑M.tys.length:Int) (↑M.aZ.length:Int) else acM (↑M.tys.length:Int) (↑M.aZ.length:Int)) (↑M.fns.length:Int) else acM (bif false then acL (↑M.tys.length:Int) (↑M.aZ.length:Int) else acM (↑M.tys.length:Int) (↑M.aZ.length:Int)) (↑M.fns.length:Int)) (↑M.gls.length:Int)) (↑M.exs.length:Int)) (↑M.els.length:Int) else acM (bif false then acL (bif false then acL (bif false then acL (bif false then acL (↑M.tys.length:Int) (↑M.aZ.length:Int) else acM (↑M.tys.length:Int) (↑M.aZ.length:Int)) (↑M.fns.length:Int) else acM (bif false then acL (↑M.tys.length:Int) (↑M.aZ.length:Int) else acM (↑M.tys.length:Int) (↑M.aZ.length:Int)) (↑M.fns.length:Int)) (↑M.gls.length:Int) else acM (bif false then acL (bif false then acL (↑M.tys.length:Int) (↑M.aZ.length:Int) else acM (↑M.tys.length:Int) (↑M.aZ.length:Int)) (↑M.fns.length:Int) else acM (bif false then acL (↑M.tys.length:Int) (↑M.aZ.length:Int) else acM (↑M.tys.length:Int) (↑M.aZ.length:Int)) (↑M.fns.length:Int)) (↑M.gls.length:Int)) (↑M.exs.length:Int) else acM (bif false then acL (bif false then acL (bif false then acL (↑M.tys.length:Int) (↑M.aZ.length:Int) else acM (↑M.tys.length:Int) (↑M.aZ.length:Int)) (↑M.fns.length:Int) else acM (bif false then acL (↑M.tys.length:Int) (↑M.aZ.length:Int) else acM (↑M.tys.length:Int) (↑M.aZ.length:Int)) (↑M.fns.length:Int)) (↑M.gls.length:Int) else acM (bif false then acL (bif false then acL (↑M.tys.length:Int) (↑M.aZ.length:Int) else acM (↑M.tys.length:Int) (↑M.aZ.length:Int)) (↑M.fns.length:Int) else acM (bif false then acL (↑M.tys.length:Int) (↑M.aZ.length:Int) else acM (↑M.tys.length:Int) (↑M.aZ.length:Int)) (↑M.fns.length:Int)) (↑M.gls.length:Int)) (↑M.exs.length:Int)) (↑M.els.length:Int)) (↑M.aY.length:Int) else acM (bif false then acL (bif false then acL (bif false then acL (bif false then acL (bif false then acL (↑M.tys.length:Int) (↑M.aZ.length:Int) else acM (↑M.tys.length:Int) (↑M.aZ.length:Int)) (↑M.fns.length:Int) else acM (bif false then acL (↑M.tys.length:Int) (↑M.aZ.length:Int) else acM (↑M.tys.length:Int) (↑M.aZ.length:Int)) (↑M.fns.length:Int)) (↑M.gls.length:Int) else acM (bif false then acL (bif false then acL (↑M.tys.length:Int) (↑M.aZ.length:Int) else acM (↑M.tys.length:Int) (↑M.aZ.length:Int)) (↑M.fns.length:Int) else acM (bif false then acL (↑M.tys.length:Int) (↑M.aZ.length:Int) else acM (↑M.tys.length:Int) (↑M.aZ.length:Int)) (↑M.fns.length:Int)) (↑M.gls.length:Int)) (↑M.exs.length:Int) else acM (bif false then acL (bif false then acL (bif false then acL (↑M.tys.length:Int) (↑M.aZ.length:Int) else acM (↑M.tys.length:Int) (↑M.aZ.length:Int)) (↑M.fns.length:Int) else acM (bif false then acL (↑M.tys.length:Int) (↑M.aZ.length:Int) else acM (↑M.tys.length:Int) (↑M.aZ.length:Int)) (↑M.fns.length:Int)) (↑M.gls.length:Int) else acM (bif false then acL (bif false then acL (↑M.tys.length:Int) (↑M.aZ.length:Int) else acM (↑M.tys.length:Int) (↑M.aZ.length:Int)) (↑M.fns.length:Int) else acM (bif false then acL (↑M.tys.length:Int) (↑M.aZ.length:Int) else acM (↑M.tys.length:Int) (↑M.aZ.length:Int)) (↑M.fns.length:Int)) (↑M.gls.length:Int)) (↑M.exs.length:Int)) (↑M.els.length:Int) else acM (bif false then acL (bif false then acL (bif false then acL (bif false then acL (↑M.tys.length:Int) (↑M.aZ.length:Int) else acM (↑M.tys.length:Int) (↑M.aZ.length:Int)) (↑M.fns.length:Int) else acM (bif false then acL (↑M.tys.length:Int) (↑M.aZ.length:Int) else acM (↑M.tys.length:Int) (↑M.aZ.length:Int)) (↑M.fns.length:Int)) (↑M.gls.length:Int) else acM (bif false then acL (bif false then acL (↑M.tys.length:Int) (↑M.aZ.length:Int) else acM (↑M.tys.length:Int) (↑M.aZ.length:Int)) (↑M.fns.length:Int) else acM (bif false then acL (↑M.tys.length:Int) (↑M.aZ.length:Int) else acM (↑M.tys.length:Int) (↑M.aZ.length:Int)) (↑M.fns.length:Int)) (↑M.gls.length:Int)) (↑M.exs.length:Int) else acM (bif false then acL (bif false then acL (bif false then acL (↑M.tys.length:Int) (↑M.aZ.length:Int) else acM (↑M.tys.length:Int) (↑M.aZ.length:Int)) (↑M.fns.length:Int) else acM (bif false then acL (↑M.tys.length:Int) (↑M.aZ.length:Int) else acM (↑M.tys.length:Int) (↑M.aZ.length:Int)) (↑M.fns.length:Int)) (↑M.gls.length:Int) else acM (bif false then acL (bif false then acL (↑M.tys.length:Int) (↑M.aZ.length:Int) else acM (↑M.tys.length:Int) (↑M.aZ.length:Int)) (↑M.fns.length:Int) else acM (bif false then acL (↑M.tys.length:Int) (↑M.aZ.length:Int) else acM (↑M.tys.length:Int) (↑M.aZ.length:Int)) (↑M.fns.length:Int)) (↑M.gls.length:Int)) (↑M.exs.length:Int)) (↑M.els.length:Int)) (↑M.aY.length:Int))>16384))
 (.out (.ret (sI .i64 141) []))
 (.call ⟨59,[.p (.ps M.els.length 2 (ac6 aW M.els)),.fn (acU 60) [] []],[],.p (.sc (.bool b)),[]⟩
 (.test (b)
 (.out (.ret (sI .i64 141) []))
 (.call ⟨61,[.agg (acC AV.p M.aJ),sI .i64 141],[],sI .i64 e,[]⟩
 (.out (.ret (sI .i64 e) []))))))))
theorem L9 (M:Mo) (b:Bool) (e:Int):aG ae env (Ui M b e) 1000000 31 ([AV.agg (acC AV.p M.aJ)]) ([]) Yy=GN M b e:=by kernel_rfl
def Uj:bN:=aP aF aC [] [(33,3,2),(33,4,2),(33,5,2),(33,6,2),(33,7,2),(33,8,2),(33,9,2),(33,9,6),(33,0,0)] []
def Yz (M:Mo) (a:Bool) (b:Bool) (c:Bool) (d:Bool) (e:Bool) (f:Bool) (g:Bool) (n:Nat) (ns:List PV) (r:Int):Sc:=(.ans 65 (.p (.sc (.bool a))) ([]) (.fork (.lit (.lit (.lit (.lit (.lit (.lit (.lit .fin))))))) (.ans 68 (.p (.sc (.bool b))) ([]) (.fork (.lit (.lit (.lit (.lit (.lit (.lit .fin)))))) (.ans 71 (.p (.sc (.bool c))) ([]) (.fork (.lit (.lit (.lit (.lit (.lit .fin))))) (.ans 63 (.p (.ps n 1 ns)) ([]) (.ans 62 (.p (.sc (.bool d))) ([]) (.fork (.lit (.lit (.lit (.lit .fin)))) (.ans 75 (.p (.sc (.bool e))) ([]) (.fork (.lit (.lit (.lit .fin))) (.ans 75 (.p (.sc (.bool f))) ([]) (.fork (.lit (.lit .fin)) (.ans 79 (.p (.sc (.bool g))) ([]) (.fork (.lit .fin) (.fork (.fork .fin (.ans 61 (sI .i64 r) ([]) .fin)) (.lit (.ans 61 (sI .i64 r) ([]) .fin))))))))))))))))))
def fN:aA:=
 (.out (.ret (sI .i64 2) []))
def GO (M:Mo) (a:Bool) (b:Bool) (c:Bool) (d:Bool) (e:Bool) (f:Bool) (g:Bool) (n:Nat) (ns:List PV) (r:Int):aA:=
 (.call ⟨65,[.p (.ps M.tys.length 2 (ac6 cK M.tys)),.fn (acU 66) [] []],[],.p (.sc (.bool a)),[]⟩
 (.test (a)
 (fN)
 (.call ⟨68,[.p (.ps M.aZ.length 3 (ac6 bp M.aZ)),.fn (acU 69) [] []],[],.p (.sc (.bool b)),[]⟩
 (.test (b)
 (fN)
 (.call ⟨71,[.p (.ps M.fns.length 3 (ac6 aO M.fns)),.fn (acU 72) [] []],[],.p (.sc (.bool c)),[]⟩
 (.test (c)
 (fN)
 (.call ⟨63,[.agg (acC AV.p M.aJ)],[],.p (.ps n 1 ns),[]⟩
 (.call ⟨62,[.p (.ps n 1 ns),.fn (acU 73) [] []],[],.p (.sc (.bool d)),[]⟩
 (.test (d)
 (fN)
 (.call ⟨75,[.p (.ps M.dh.length 3 (ac6 aH M.dh)),.fn (acU 76) [] []],[],.p (.sc (.bool e)),[]⟩
 (.test (e)
 (fN)
 (.call ⟨75,[.p (.ps M.dw.length 3 (ac6 aH M.dw)),.fn (acU 78) [] []],[],.p (.sc (.bool f)),[]⟩
 (.test (f)
 (fN)
 (.call ⟨79,[.p (.ps M.exs.length 3 (ac6 bB M.exs)),.fn (acU 80) [] []],[],.p (.sc (.bool g)),[]⟩
 (.test (g)
 (fN)
 (.test (!M.st)
 (.test (M.sn != 0)
 (fN)
 (.call ⟨61,[.agg (acC AV.p M.aJ),sI .i64 2],[],sI .i64 r,[]⟩
 (.out (.ret (sI .i64 r) []))))
 (.call ⟨61,[.agg (acC AV.p M.aJ),sI .i64 2],[],sI .i64 r,[]⟩
 (.out (.ret (sI .i64 r) [])))))))))))))))))))
theorem Ma (M:Mo) (a:Bool) (b:Bool) (c:Bool) (d:Bool) (e:Bool) (f:Bool) (g:Bool) (n:Nat) (ns:List PV) (r:Int):aG ae env Uj 1000000 33 ([AV.agg (acC AV.p M.aJ)]) ([]) (Yz M a b c d e f g n ns r)=GO M a b c d e f g n ns r:=by kernel_rfl
def PB (M:Mo) (a b c:Int):bN:=aP (mcC M a b c) aC [] [(17,0,2)] []
def Uk:Sc:= .fin
def C7 (M:Mo) (a b c:Int):aA:=
 (.call ⟨31,[.agg (acC AV.p M.aJ)],[],sI .i64 a,[]⟩
 (.test (a != 0)
 (.out (.ret (sI .i64 a) []))
 (.call ⟨32,[.agg (acC AV.p M.aJ)],[],sI .i64 b,[]⟩
 (.test (b != 0)
 (.out (.ret (sI .i64 b) []))
 (.call ⟨33,[.agg (acC AV.p M.aJ)],[],sI .i64 c,[]⟩
 (.test (c != 0)
 (.out (.ret (sI .i64 c) []))
 (.out (.ret (sI .i64 0) []))))))))
theorem IB (M:Mo) (a b c:Int):aG ae env (PB M a b c) 1000000 17 ([AV.agg (acC AV.p M.aJ)]) ([]) Uk=C7 M a b c:=by kernel_rfl
def jc {α:Type} (p:α→Bool):List α→Nat→Int
 |[],_=> -1
 |x::r,i=>if p x=true then i else jc p r (i+1)
theorem iE {α:Type} (p:α→Bool) : ∀(l:List α) (i:Nat),decide (jc p l i≥0)=l.any p
 |[],_=>rfl
 |x::r,i=>by
  cases h:p x with
  |true=>simp[jc,h]
  |false=>simp only[jc,h,adb,pt];exact iE p r (i+1)
theorem jl {α:Type} {l:List α} {p:α→Bool} {D:Nat→cg}
  (step : ∀(i:Nat) (x:α) (o:Out),l[i]? = some x→(p x=true→Out.ret (sI .i64 i) []=o)→(p x=false→bD ae env (D (i+1)) o)→bD ae env (D i) o)
  (fin:bD ae env (D l.length) (.ret (sI .i64 (-1)) [])) :
  ∀(r i:Nat),i+r=l.length→bD ae env (D i) (.ret (sI .i64 (jc p (l.drop i) i)) []):=by
 intro r
 induction r with
 |zero=>
  intro i hi
  obtain rfl:i=l.length:=by omega
  rw[ada]
  exact fin
 |succ r ih=>
  intro i hi
  have hl:i<l.length:=by omega
  rw[ac3 hl]
  refine step i l[i] _ (de hl) (fun q=> ?_) fun q=> ?_
  · simp only[jc,q,if_true]
  · simp only[jc,q,Bool.false_eq_true,if_false]
    exact ih (i+1) (by omega)
abbrev fm (s:ByteArray):List PV:=[.sc (.string s)]
abbrev C8 (l:List Ins):List PV:=[pL l]
theorem Mb (l:List El) (hl:l.length≤10000000) (p:El→Bool) (hp : ∀x∈l,au ae env 60 [(.agg ((aW x).map .p))] [] (sB (p x)) []) :
  au ae env 107 [.p (.ps l.length 2 (l.flatMap aW)),.fn (.func 60) [] []] [] (sI .i64 (jc p l 0)) []:=by
 refine aa aI (Ir l.length (l.flatMap aW)) ?_
 refine jl (l:=l) (p:=p) (D:=fun i=>af ae env 107 0 [.p (.ps l.length 2 (l.flatMap aW)),.fn (.func 60) [] [],sI .i64 l.length,sI .i64 i] [] 0 19) ?_ ?_ l.length 0 (by omega)
 · intro i x o hx h1 h2
   have hi:i<l.length:=(ee.1 hx).1
   have c:=aU (z:=2) (enc:=aW) (fun _=>rfl) hx
   have c0:(l.flatMap aW).getD (i*2) .bk=pL x.l:=c 0 (by decide)
   have c1:(l.flatMap aW).getD (i*2+1) .bk=pT .u32 x.fs:=c 1 (by decide)
   have w:sa.wrap ((i:Int)+1)=((i+1:Nat):Int):=by rw[bA (by omega) (by omega)];rfl
   have hd:decide ((i:Int)<(l.length:Int))=true:=by simp;omega
   refine ah aI (CW l.length i (l.flatMap aW) (p x)) ?_
   simp only[A9,bu,aA.ok,isStr,isInt,aQ,isBool,bh,aq,bg,az,aR,an,aM,acN,c0,c1,hd,w]
   exact⟨fun _=>⟨by first | (simp;done) | (simp;omega),rfl,hp x (oi hx),h1,h2⟩,fun q=>(by cases q)⟩
 · have hd:decide ((l.length:Int)<(l.length:Int))=false:=by simp
   refine ah aI (CW l.length l.length (l.flatMap aW) true) ?_
   simp only[A9,bu,aA.ok,hd]
   exact⟨fun q=>(by cases q),fun _=>trivial⟩
theorem Mc (l:List El) (hl:l.length≤10000000) (p:El→Bool) (hp : ∀x∈l,au ae env 60 [(.agg ((aW x).map .p))] [] (sB (p x)) []) :
  au ae env 59 [.p (.ps l.length 2 (l.flatMap aW)),.fn (.func 60) [] []] [] (sB (l.any p)) []:=by
 refine aa aI (LM l.length (l.flatMap aW) (jc p l 0)) ?_
 simp only[Gy,aA.ok,iE]
 exact⟨Mb l hl p hp,trivial⟩
theorem Md (l:List ByteArray) (hl:l.length≤10000000) (p:ByteArray→Bool) (hp : ∀x∈l,au ae env 64 [(.p (.sc (.string x)))] [] (sB (p x)) []) :
  au ae env 110 [.p (.ps l.length 1 (l.flatMap fm)),.fn (.func 64) [] []] [] (sI .i64 (jc p l 0)) []:=by
 refine aa aI (Is l.length (l.flatMap fm)) ?_
 refine jl (l:=l) (p:=p) (D:=fun i=>af ae env 110 0 [.p (.ps l.length 1 (l.flatMap fm)),.fn (.func 64) [] [],sI .i64 l.length,sI .i64 i] [] 0 19) ?_ ?_ l.length 0 (by omega)
 · intro i x o hx h1 h2
   have hi:i<l.length:=(ee.1 hx).1
   have c:=aU (z:=1) (enc:=fm) (fun _=>rfl) hx
   have c0:(l.flatMap fm).getD (i*1) .bk = .sc (.string x):=c 0 (by decide)
   have w:sa.wrap ((i:Int)+1)=((i+1:Nat):Int):=by rw[bA (by omega) (by omega)];rfl
   have hd:decide ((i:Int)<(l.length:Int))=true:=by simp;omega
   refine ah aI (CX l.length i (l.flatMap fm) (p x)) ?_
   simp only[Ba,bu,aA.ok,isStr,isInt,aQ,isBool,bh,aq,bg,az,aR,an,aM,acN,c0,hd,w]
   exact⟨fun _=>⟨by first | (simp;done) | (simp;omega),rfl,hp x (oi hx),h1,h2⟩,fun q=>(by cases q)⟩
 · have hd:decide ((l.length:Int)<(l.length:Int))=false:=by simp
   refine ah aI (CX l.length l.length (l.flatMap fm) true) ?_
   simp only[Ba,bu,aA.ok,hd]
   exact⟨fun q=>(by cases q),fun _=>trivial⟩
theorem Me (l:List ByteArray) (hl:l.length≤10000000) (p:ByteArray→Bool) (hp : ∀x∈l,au ae env 64 [(.p (.sc (.string x)))] [] (sB (p x)) []) :
  au ae env 62 [.p (.ps l.length 1 (l.flatMap fm)),.fn (.func 64) [] []] [] (sB (l.any p)) []:=by
 refine aa aI (LN l.length (l.flatMap fm) (jc p l 0)) ?_
 simp only[Gz,aA.ok,iE]
 exact⟨Md l hl p hp,trivial⟩
theorem Mf (l:List ByteArray) (hl:l.length≤10000000) (p:ByteArray→Bool) (hp : ∀x∈l,au ae env 73 [(.p (.sc (.string x)))] [] (sB (p x)) []) :
  au ae env 110 [.p (.ps l.length 1 (l.flatMap fm)),.fn (.func 73) [] []] [] (sI .i64 (jc p l 0)) []:=by
 refine aa aI (Iu l.length (l.flatMap fm)) ?_
 refine jl (l:=l) (p:=p) (D:=fun i=>af ae env 110 0 [.p (.ps l.length 1 (l.flatMap fm)),.fn (.func 73) [] [],sI .i64 l.length,sI .i64 i] [] 0 19) ?_ ?_ l.length 0 (by omega)
 · intro i x o hx h1 h2
   have hi:i<l.length:=(ee.1 hx).1
   have c:=aU (z:=1) (enc:=fm) (fun _=>rfl) hx
   have c0:(l.flatMap fm).getD (i*1) .bk = .sc (.string x):=c 0 (by decide)
   have w:sa.wrap ((i:Int)+1)=((i+1:Nat):Int):=by rw[bA (by omega) (by omega)];rfl
   have hd:decide ((i:Int)<(l.length:Int))=true:=by simp;omega
   refine ah aI (CY l.length i (l.flatMap fm) (p x)) ?_
   simp only[Bb,bu,aA.ok,isStr,isInt,aQ,isBool,bh,aq,bg,az,aR,an,aM,acN,c0,hd,w]
   exact⟨fun _=>⟨by first | (simp;done) | (simp;omega),rfl,hp x (oi hx),h1,h2⟩,fun q=>(by cases q)⟩
 · have hd:decide ((l.length:Int)<(l.length:Int))=false:=by simp
   refine ah aI (CY l.length l.length (l.flatMap fm) true) ?_
   simp only[Bb,bu,aA.ok,hd]
   exact⟨fun q=>(by cases q),fun _=>trivial⟩
theorem Mg (l:List ByteArray) (hl:l.length≤10000000) (p:ByteArray→Bool) (hp : ∀x∈l,au ae env 73 [(.p (.sc (.string x)))] [] (sB (p x)) []) :
  au ae env 62 [.p (.ps l.length 1 (l.flatMap fm)),.fn (.func 73) [] []] [] (sB (l.any p)) []:=by
 refine aa aI (LO l.length (l.flatMap fm) (jc p l 0)) ?_
 simp only[GA,aA.ok,iE]
 exact⟨Mf l hl p hp,trivial⟩
theorem Mh (l:List Ty) (hl:l.length≤10000000) (p:Ty→Bool) (hp : ∀x∈l,au ae env 66 [(.agg ((cK x).map .p))] [] (sB (p x)) []) :
  au ae env 111 [.p (.ps l.length 2 (l.flatMap cK)),.fn (.func 66) [] []] [] (sI .i64 (jc p l 0)) []:=by
 refine aa aI (Iv l.length (l.flatMap cK)) ?_
 refine jl (l:=l) (p:=p) (D:=fun i=>af ae env 111 0 [.p (.ps l.length 2 (l.flatMap cK)),.fn (.func 66) [] [],sI .i64 l.length,sI .i64 i] [] 0 19) ?_ ?_ l.length 0 (by omega)
 · intro i x o hx h1 h2
   have hi:i<l.length:=(ee.1 hx).1
   have c:=aU (z:=2) (enc:=cK) (fun _=>rfl) hx
   have c0:(l.flatMap cK).getD (i*2) .bk = .sc (.int .i64 x.p):=c 0 (by decide)
   have c1:(l.flatMap cK).getD (i*2+1) .bk = .sc (.int .i64 x.r):=c 1 (by decide)
   have w:sa.wrap ((i:Int)+1)=((i+1:Nat):Int):=by rw[bA (by omega) (by omega)];rfl
   have hd:decide ((i:Int)<(l.length:Int))=true:=by simp;omega
   refine ah aI (CZ l.length i (l.flatMap cK) (p x)) ?_
   simp only[Bc,bu,aA.ok,isStr,isInt,aQ,isBool,bh,aq,bg,az,aR,an,aM,acN,c0,c1,hd,w]
   exact⟨fun _=>⟨by first | (simp;done) | (simp;omega),rfl,hp x (oi hx),h1,h2⟩,fun q=>(by cases q)⟩
 · have hd:decide ((l.length:Int)<(l.length:Int))=false:=by simp
   refine ah aI (CZ l.length l.length (l.flatMap cK) true) ?_
   simp only[Bc,bu,aA.ok,hd]
   exact⟨fun q=>(by cases q),fun _=>trivial⟩
theorem Mi (l:List Ty) (hl:l.length≤10000000) (p:Ty→Bool) (hp : ∀x∈l,au ae env 66 [(.agg ((cK x).map .p))] [] (sB (p x)) []) :
  au ae env 65 [.p (.ps l.length 2 (l.flatMap cK)),.fn (.func 66) [] []] [] (sB (l.any p)) []:=by
 refine aa aI (LP l.length (l.flatMap cK) (jc p l 0)) ?_
 simp only[GB,aA.ok,iE]
 exact⟨Mh l hl p hp,trivial⟩
theorem Mj (l:List Im) (hl:l.length≤10000000) (p:Im→Bool) (hp : ∀x∈l,au ae env 69 [(.agg ((bp x).map .p))] [] (sB (p x)) []) :
  au ae env 112 [.p (.ps l.length 3 (l.flatMap bp)),.fn (.func 69) [] []] [] (sI .i64 (jc p l 0)) []:=by
 refine aa aI (Iw l.length (l.flatMap bp)) ?_
 refine jl (l:=l) (p:=p) (D:=fun i=>af ae env 112 0 [.p (.ps l.length 3 (l.flatMap bp)),.fn (.func 69) [] [],sI .i64 l.length,sI .i64 i] [] 0 19) ?_ ?_ l.length 0 (by omega)
 · intro i x o hx h1 h2
   have hi:i<l.length:=(ee.1 hx).1
   have c:=aU (z:=3) (enc:=bp) (fun _=>rfl) hx
   have c0:(l.flatMap bp).getD (i*3) .bk = .sc (.string x.mo):=c 0 (by decide)
   have c1:(l.flatMap bp).getD (i*3+1) .bk = .sc (.string x.nm):=c 1 (by decide)
   have c2:(l.flatMap bp).getD (i*3+1+1) .bk = .sc (.int .i64 x.ty):=c 2 (by decide)
   have w:sa.wrap ((i:Int)+1)=((i+1:Nat):Int):=by rw[bA (by omega) (by omega)];rfl
   have hd:decide ((i:Int)<(l.length:Int))=true:=by simp;omega
   refine ah aI (C0 l.length i (l.flatMap bp) (p x)) ?_
   simp only[Bd,bu,aA.ok,isStr,isInt,aQ,isBool,bh,aq,bg,az,aR,an,aM,acN,c0,c1,c2,hd,w]
   exact⟨fun _=>⟨by first | (simp;done) | (simp;omega),rfl,hp x (oi hx),h1,h2⟩,fun q=>(by cases q)⟩
 · have hd:decide ((l.length:Int)<(l.length:Int))=false:=by simp
   refine ah aI (C0 l.length l.length (l.flatMap bp) true) ?_
   simp only[Bd,bu,aA.ok,hd]
   exact⟨fun q=>(by cases q),fun _=>trivial⟩
theorem Ml (l:List Im) (hl:l.length≤10000000) (p:Im→Bool) (hp : ∀x∈l,au ae env 69 [(.agg ((bp x).map .p))] [] (sB (p x)) []) :
  au ae env 68 [.p (.ps l.length 3 (l.flatMap bp)),.fn (.func 69) [] []] [] (sB (l.any p)) []:=by
 refine aa aI (LQ l.length (l.flatMap bp) (jc p l 0)) ?_
 simp only[GC,aA.ok,iE]
 exact⟨Mj l hl p hp,trivial⟩
theorem Mm (l:List Fu) (hl:l.length≤10000000) (p:Fu→Bool) (hp : ∀x∈l,au ae env 72 [(.agg ((aO x).map .p))] [] (sB (p x)) []) :
  au ae env 113 [.p (.ps l.length 3 (l.flatMap aO)),.fn (.func 72) [] []] [] (sI .i64 (jc p l 0)) []:=by
 refine aa aI (Ix l.length (l.flatMap aO)) ?_
 refine jl (l:=l) (p:=p) (D:=fun i=>af ae env 113 0 [.p (.ps l.length 3 (l.flatMap aO)),.fn (.func 72) [] [],sI .i64 l.length,sI .i64 i] [] 0 19) ?_ ?_ l.length 0 (by omega)
 · intro i x o hx h1 h2
   have hi:i<l.length:=(ee.1 hx).1
   have c:=aU (z:=3) (enc:=aO) (fun _=>rfl) hx
   have c0:(l.flatMap aO).getD (i*3) .bk = .sc (.int .i64 x.ty):=c 0 (by decide)
   have c1:(l.flatMap aO).getD (i*3+1) .bk = .sc (.int .i64 x.lo):=c 1 (by decide)
   have c2:(l.flatMap aO).getD (i*3+1+1) .bk=pL x.l:=c 2 (by decide)
   have w:sa.wrap ((i:Int)+1)=((i+1:Nat):Int):=by rw[bA (by omega) (by omega)];rfl
   have hd:decide ((i:Int)<(l.length:Int))=true:=by simp;omega
   refine ah aI (C1 l.length i (l.flatMap aO) (p x)) ?_
   simp only[Be,bu,aA.ok,isStr,isInt,aQ,isBool,bh,aq,bg,az,aR,an,aM,acN,c0,c1,c2,hd,w]
   exact⟨fun _=>⟨by first | (simp;done) | (simp;omega),rfl,hp x (oi hx),h1,h2⟩,fun q=>(by cases q)⟩
 · have hd:decide ((l.length:Int)<(l.length:Int))=false:=by simp
   refine ah aI (C1 l.length l.length (l.flatMap aO) true) ?_
   simp only[Be,bu,aA.ok,hd]
   exact⟨fun q=>(by cases q),fun _=>trivial⟩
theorem Mn (l:List Fu) (hl:l.length≤10000000) (p:Fu→Bool) (hp : ∀x∈l,au ae env 72 [(.agg ((aO x).map .p))] [] (sB (p x)) []) :
  au ae env 71 [.p (.ps l.length 3 (l.flatMap aO)),.fn (.func 72) [] []] [] (sB (l.any p)) []:=by
 refine aa aI (LR l.length (l.flatMap aO) (jc p l 0)) ?_
 simp only[GD,aA.ok,iE]
 exact⟨Mm l hl p hp,trivial⟩
theorem Mp (l:List Li) (hl:l.length≤10000000) (p:Li→Bool) (hp : ∀x∈l,au ae env 76 [(.agg ((aH x).map .p))] [] (sB (p x)) []) :
  au ae env 115 [.p (.ps l.length 3 (l.flatMap aH)),.fn (.func 76) [] []] [] (sI .i64 (jc p l 0)) []:=by
 refine aa aI (Iy l.length (l.flatMap aH)) ?_
 refine jl (l:=l) (p:=p) (D:=fun i=>af ae env 115 0 [.p (.ps l.length 3 (l.flatMap aH)),.fn (.func 76) [] [],sI .i64 l.length,sI .i64 i] [] 0 19) ?_ ?_ l.length 0 (by omega)
 · intro i x o hx h1 h2
   have hi:i<l.length:=(ee.1 hx).1
   have c:=aU (z:=3) (enc:=aH) (fun _=>rfl) hx
   have c0:(l.flatMap aH).getD (i*3) .bk = .sc (.int .u32 x.mn):=c 0 (by decide)
   have c1:(l.flatMap aH).getD (i*3+1) .bk = .sc (.int .u32 x.mx):=c 1 (by decide)
   have c2:(l.flatMap aH).getD (i*3+1+1) .bk = .sc (.bool x.cap):=c 2 (by decide)
   have w:sa.wrap ((i:Int)+1)=((i+1:Nat):Int):=by rw[bA (by omega) (by omega)];rfl
   have hd:decide ((i:Int)<(l.length:Int))=true:=by simp;omega
   refine ah aI (C2 l.length i (l.flatMap aH) (p x)) ?_
   simp only[Bf,bu,aA.ok,isStr,isInt,aQ,isBool,bh,aq,bg,az,aR,an,aM,acN,c0,c1,c2,hd,w]
   exact⟨fun _=>⟨by first | (simp;done) | (simp;omega),rfl,hp x (oi hx),h1,h2⟩,fun q=>(by cases q)⟩
 · have hd:decide ((l.length:Int)<(l.length:Int))=false:=by simp
   refine ah aI (C2 l.length l.length (l.flatMap aH) true) ?_
   simp only[Bf,bu,aA.ok,hd]
   exact⟨fun q=>(by cases q),fun _=>trivial⟩
theorem Mq (l:List Li) (hl:l.length≤10000000) (p:Li→Bool) (hp : ∀x∈l,au ae env 76 [(.agg ((aH x).map .p))] [] (sB (p x)) []) :
  au ae env 75 [.p (.ps l.length 3 (l.flatMap aH)),.fn (.func 76) [] []] [] (sB (l.any p)) []:=by
 refine aa aI (LS l.length (l.flatMap aH) (jc p l 0)) ?_
 simp only[GF,aA.ok,iE]
 exact⟨Mp l hl p hp,trivial⟩
theorem Mr (l:List Li) (hl:l.length≤10000000) (p:Li→Bool) (hp : ∀x∈l,au ae env 78 [(.agg ((aH x).map .p))] [] (sB (p x)) []) :
  au ae env 115 [.p (.ps l.length 3 (l.flatMap aH)),.fn (.func 78) [] []] [] (sI .i64 (jc p l 0)) []:=by
 refine aa aI (Iz l.length (l.flatMap aH)) ?_
 refine jl (l:=l) (p:=p) (D:=fun i=>af ae env 115 0 [.p (.ps l.length 3 (l.flatMap aH)),.fn (.func 78) [] [],sI .i64 l.length,sI .i64 i] [] 0 19) ?_ ?_ l.length 0 (by omega)
 · intro i x o hx h1 h2
   have hi:i<l.length:=(ee.1 hx).1
   have c:=aU (z:=3) (enc:=aH) (fun _=>rfl) hx
   have c0:(l.flatMap aH).getD (i*3) .bk = .sc (.int .u32 x.mn):=c 0 (by decide)
   have c1:(l.flatMap aH).getD (i*3+1) .bk = .sc (.int .u32 x.mx):=c 1 (by decide)
   have c2:(l.flatMap aH).getD (i*3+1+1) .bk = .sc (.bool x.cap):=c 2 (by decide)
   have w:sa.wrap ((i:Int)+1)=((i+1:Nat):Int):=by rw[bA (by omega) (by omega)];rfl
   have hd:decide ((i:Int)<(l.length:Int))=true:=by simp;omega
   refine ah aI (C3 l.length i (l.flatMap aH) (p x)) ?_
   simp only[Bg,bu,aA.ok,isStr,isInt,aQ,isBool,bh,aq,bg,az,aR,an,aM,acN,c0,c1,c2,hd,w]
   exact⟨fun _=>⟨by first | (simp;done) | (simp;omega),rfl,hp x (oi hx),h1,h2⟩,fun q=>(by cases q)⟩
 · have hd:decide ((l.length:Int)<(l.length:Int))=false:=by simp
   refine ah aI (C3 l.length l.length (l.flatMap aH) true) ?_
   simp only[Bg,bu,aA.ok,hd]
   exact⟨fun q=>(by cases q),fun _=>trivial⟩
theorem Ms (l:List Li) (hl:l.length≤10000000) (p:Li→Bool) (hp : ∀x∈l,au ae env 78 [(.agg ((aH x).map .p))] [] (sB (p x)) []) :
  au ae env 75 [.p (.ps l.length 3 (l.flatMap aH)),.fn (.func 78) [] []] [] (sB (l.any p)) []:=by
 refine aa aI (LU l.length (l.flatMap aH) (jc p l 0)) ?_
 simp only[GG,aA.ok,iE]
 exact⟨Mr l hl p hp,trivial⟩
theorem Mt (l:List Ex) (hl:l.length≤10000000) (p:Ex→Bool) (hp : ∀x∈l,au ae env 80 [(.agg ((bB x).map .p))] [] (sB (p x)) []) :
  au ae env 116 [.p (.ps l.length 3 (l.flatMap bB)),.fn (.func 80) [] []] [] (sI .i64 (jc p l 0)) []:=by
 refine aa aI (IA l.length (l.flatMap bB)) ?_
 refine jl (l:=l) (p:=p) (D:=fun i=>af ae env 116 0 [.p (.ps l.length 3 (l.flatMap bB)),.fn (.func 80) [] [],sI .i64 l.length,sI .i64 i] [] 0 19) ?_ ?_ l.length 0 (by omega)
 · intro i x o hx h1 h2
   have hi:i<l.length:=(ee.1 hx).1
   have c:=aU (z:=3) (enc:=bB) (fun _=>rfl) hx
   have c0:(l.flatMap bB).getD (i*3) .bk = .sc (.string x.nm):=c 0 (by decide)
   have c1:(l.flatMap bB).getD (i*3+1) .bk = .sc (.int .i64 x.kind):=c 1 (by decide)
   have c2:(l.flatMap bB).getD (i*3+1+1) .bk = .sc (.int .u32 x.ix):=c 2 (by decide)
   have w:sa.wrap ((i:Int)+1)=((i+1:Nat):Int):=by rw[bA (by omega) (by omega)];rfl
   have hd:decide ((i:Int)<(l.length:Int))=true:=by simp;omega
   refine ah aI (C4 l.length i (l.flatMap bB) (p x)) ?_
   simp only[Bh,bu,aA.ok,isStr,isInt,aQ,isBool,bh,aq,bg,az,aR,an,aM,acN,c0,c1,c2,hd,w]
   exact⟨fun _=>⟨by first | (simp;done) | (simp;omega),rfl,hp x (oi hx),h1,h2⟩,fun q=>(by cases q)⟩
 · have hd:decide ((l.length:Int)<(l.length:Int))=false:=by simp
   refine ah aI (C4 l.length l.length (l.flatMap bB) true) ?_
   simp only[Bh,bu,aA.ok,hd]
   exact⟨fun q=>(by cases q),fun _=>trivial⟩
theorem Mu (l:List Ex) (hl:l.length≤10000000) (p:Ex→Bool) (hp : ∀x∈l,au ae env 80 [(.agg ((bB x).map .p))] [] (sB (p x)) []) :
  au ae env 79 [.p (.ps l.length 3 (l.flatMap bB)),.fn (.func 80) [] []] [] (sB (l.any p)) []:=by
 refine aa aI (LV l.length (l.flatMap bB) (jc p l 0)) ?_
 simp only[GH,aA.ok,iE]
 exact⟨Mt l hl p hp,trivial⟩
def BQ (x:Ty):Int:=if 0≤x.p∧x.p≤255∧0≤x.r∧x.r≤1 then 0 else 2
def zJ (most:Int) (x:Li):Int:=if x.mn>most∨(x.cap=true∧(x.mx<x.mn∨x.mx>most))∨(x.cap=false∧x.mx≠0) then 2 else 0
theorem wH (x:Ty):au ae env 67 [.agg ((cK x).map .p)] [] (sI .i64 (BQ x)) []:=by
 refine aa aI (LW x.p x.r) ?_
 simp only[GI,aA.ok,cond_true,cond_false,Bool.and_true]
 refine⟨fun q=> ?_,fun q=> ?_⟩
 · simp only[Bool.not_eq_true',Bool.and_eq_false_iff,beq_eq_false_iff_ne,ne_eq] at q
   rw[BQ,if_neg (by omega)]
 · simp only[Bool.not_eq_false',Bool.and_eq_true,beq_iff_eq] at q
   rw[BQ,if_pos (by omega)]
theorem qx (x:Li) (most:Int):au ae env 77 [.agg ((aH x).map .p),sI .u32 most] [] (sI .i64 (zJ most x)) []:=by
 refine aa aI (LX x.mn x.mx x.cap most) ?_
 obtain⟨mn,mx,cap⟩:=x
 simp only[GJ,aA.ok,zJ]
 cases cap with
 |true=>
  refine⟨fun q=> ?_,fun q=>⟨fun _=>⟨fun r=> ?_,fun r=>⟨fun t=> ?_,fun t=>⟨rfl,?_⟩⟩⟩,fun r=>(by cases r)⟩⟩<;>simp only[decide_eq_true_eq,decide_eq_false_iff_not] at *
  · rw[if_pos (.inl q)]
  · rw[if_pos (.inr (.inl ⟨trivial,.inl r⟩))]
  · rw[if_pos (.inr (.inl ⟨trivial,.inr t⟩))]
  · rw[if_neg (by simp;omega)]
 |false=>
  refine⟨fun q=> ?_,fun q=>⟨fun r=>(by cases r),fun _=>⟨rfl,fun r=> ?_,fun r=> ?_⟩⟩⟩
  · simp only[decide_eq_true_eq] at q
    rw[if_pos (.inl q)]
  · rw[if_pos (.inr (.inr ⟨rfl,by simpa using r⟩))]
  · simp only[decide_eq_false_iff_not] at q
    have r:mx=0:=by simpa using r
    rw[if_neg (by simp[r];omega)]
def GP (x:El):Bool:=decide ((x.fs.length:Int)>16384)
def GQ (s:ByteArray):Bool:=decide ((s.data.toList.length:Int)>1000)
def Fv (x:Ty):Bool:=BQ x != 0
def C9 (x:Im):Bool:= !(decide (0≤x.ty)&&decide (x.ty≤2147483647))
def Db (x:Fu):Bool:= !(decide (0≤x.ty)&&decide (x.ty≤2147483647))||decide (x.lo<0)||decide (x.lo>50000)
def qy (most:Int) (x:Li):Bool:=zJ most x != 0
def Dc (x:Ex):Bool:=decide (x.kind<0)||decide (x.kind>3)
theorem Mv (x:El):au ae env 60 [.agg ((aW x).map .p)] [] (sB (GP x)) []:=aa aI (LY x) rfl
theorem Mw (s:ByteArray):au ae env 64 [.p (.sc (.string s))] [] (sB (GQ s)) []:=aa aI (LZ s) rfl
theorem Mx (x:Ty):au ae env 66 [.agg ((cK x).map .p)] [] (sB (Fv x)) []:=aa aI (L1 x (BQ x)) ⟨wH x,rfl⟩
theorem My (x:Li):au ae env 76 [.agg ((aH x).map .p)] [] (sB (qy 1048576 x)) []:=aa aI (L3 x (zJ 1048576 x)) ⟨qx x _,rfl⟩
theorem Mz (x:Li):au ae env 78 [.agg ((aH x).map .p)] [] (sB (qy 65536 x)) []:=aa aI (L4 x (zJ 65536 x)) ⟨qx x _,rfl⟩
theorem MA (x:Im):au ae env 69 [.agg ((bp x).map .p)] [] (sB (C9 x)) []:=by
 refine aa aI (L2 x) ?_
 simp only[GK,bu,aA.ok,C9,ge_iff_le]
 exact⟨fun q=>by rw[q,ade],fun q=>by rw[q];rfl⟩
theorem MB (x:Ex):au ae env 80 [.agg ((bB x).map .p)] [] (sB (Dc x)) []:=by
 refine aa aI (L5 x) ?_
 simp only[GL,bu,aA.ok,Dc]
 exact⟨fun q=>by rw[q];rfl,fun q=>by rw[q,pt]⟩
theorem MC (x:Fu):au ae env 72 [.agg ((aO x).map .p)] [] (sB (Db x)) []:=by
 refine aa aI (L6 x) ?_
 simp only[GM,bu,aA.ok,Db,ge_iff_le]
 refine⟨fun q=>⟨fun r=> ?_,fun r=>⟨fun t=> ?_,fun t=> ?_⟩⟩,fun q=> ?_⟩
 · rw[q,ade,r];rfl
 · rw[q,ade,r,t];rfl
 · rw[q,ade,r,t];rfl
 · rw[q];rfl
def xw (M:Mo):List ByteArray:=M.aZ.flatMap (fun x=>[x.mo,x.nm])++M.exs.map Ex.nm
def xy (M:Mo):List (List Ins):=M.fns.map Fu.l++M.gls.map Gl.l++M.els.map El.l++M.aY.map Da.l
theorem kY {α β:Type} {f:α→β} {g:β→List PV} : ∀l:List α,(l.map f).flatMap g=l.flatMap fun x=>g (f x)
 |[]=>rfl
 |x::r=>by rw[List.map_cons,ac2,ac2,kY r]
theorem GR : ∀l:List Im,(l.flatMap fun x=>[x.mo,x.nm]).flatMap fm=l.flatMap RD
 |[]=>rfl
 |x::r=>by rw[ac2,ac2,ac9,GR r];rfl
theorem GS (M:Mo):LB M=(xw M).flatMap fm:=by
 rw[xw,ac9,kY,GR];rfl
theorem GU (M:Mo):Pf M=(xy M).flatMap C8:=by
 rw[xy,ac9,ac9,ac9,kY,kY,kY,kY];rfl
theorem GV (M:Mo):(LB M).length=(xw M).length:=by rw[GS,fY (n:=1) (fun _=>rfl),ac8]
theorem PC (M:Mo):(Pf M).length=(xy M).length:=by rw[GU,fY (n:=1) (fun _=>rfl),ac8]
theorem MD {M:Mo} (hM:M.fit):(xw M).length≤10000000:=by
 have h1:=hM.aZ;have h2:=hM.exs
 have l1:=fY (f:=RD) (n:=2) (fun _=>rfl) M.aZ
 have l2:=fY (f:=NW) (n:=1) (fun _=>rfl) M.exs
 rw[←GV,LB,dT];omega
theorem Ul {M:Mo} (hM:M.fit):(xy M).length≤10000000:=by
 have h1:=hM.fns;have h2:=hM.gls;have h3:=hM.els;have h4:=hM.aY
 simp only[xy,dT,List.length_map];omega
theorem ME (M:Mo) (hM:M.fit):au ae env 63 [.agg (M.aJ.map .p)] [] (.p (.ps (xw M).length 1 ((xw M).flatMap fm))) []:=by
 have h:=Fq M hM
 rw[GV,GS] at h
 exact h
theorem Um (M:Mo) (hM:M.fit):au ae env 108 [.agg (M.aJ.map .p)] [] (.p (.ps (xy M).length 1 ((xy M).flatMap C8))) []:=by
 have h:=Ft M hM
 rw[PC,GU] at h
 exact h
def _root_.Go.Am.Mo.IC (M:Mo):Prop:= ∀l∈xy M,dZ l≤100000000000
def wI (M:Mo) (e:Int):Bool:=(xy M).any fun l=>dg gw l==e
theorem PD {l:List (List Ins)} {e:Int} (hl:l.length≤10000000) (hs : ∀x∈l,dZ x≤100000000000) : ∀(r i:Nat),i+r=l.length →
  bD ae env (af ae env 61 0 [sI .i64 e,.p (.ps l.length 1 (l.flatMap C8)),sI .i64 l.length,sI .i64 i] [] 0 20) (.ret (sI .i64 (if(l.drop i).any (fun x=>dg gw x==e)=true then e else 0)) []):=by
 intro r
 induction r with
 |zero=>
  intro i hi
  obtain rfl:i=l.length:=by omega
  have hd:decide ((l.length:Int)<(l.length:Int))=false:=by simp
  refine ah aI (C5 e l.length l.length (l.flatMap C8) 0) ?_
  simp only[Bi,bu,aA.ok,hd,ada]
  exact⟨fun q=>(by cases q),fun _=>rfl⟩
 |succ r ih=>
  intro i hi
  have uF:i<l.length:=by omega
  have hx:=de uF
  have hm:l[i]∈l:=List.getElem_mem uF
  rw[ac3 uF,adb]
  generalize l[i]=x at *
  have c:=aU (z:=1) (enc:=C8) (fun _=>rfl) hx
  have c0:(l.flatMap C8).getD (i*1) .bk=pL x:=c 0 (by decide)
  have w:sa.wrap ((i:Int)+1)=((i+1:Nat):Int):=by rw[bA (by omega) (by omega)];rfl
  have hd:decide ((i:Int)<(l.length:Int))=true:=by simp;omega
  refine ah aI (C5 e l.length i (l.flatMap C8) (dg gw x)) ?_
  simp only[Bi,bu,aA.ok,aQ,az,aR,an,aM,acN,c0,hd,w]
  refine⟨fun _=>⟨by first | (simp;done) | (simp;omega),rfl,vT zp x (hs x hm),fun q=> ?_,fun q=> ?_⟩,fun q=>(by cases q)⟩
  · rw[q,Bool.true_or,if_pos rfl]
  · rw[q,pt]
    exact ih (i+1) (by omega)
theorem tw (M:Mo) (hM:M.fit) (hs:M.IC) (e:Int):au ae env 61 [.agg (M.aJ.map .p),sI .i64 e] [] (sI .i64 (if wI M e=true then e else 0)) []:=by
 refine aa aI (L7 M e (xy M).length ((xy M).flatMap C8)) ?_
 exact⟨Um M hM,PD (Ul hM) hs (xy M).length 0 (by omega)⟩
def Dd:Int→List Da→Int
 |n,[]=>n
 |n,x::r=>Dd (n-min (x.bs.length:Int) (n+1)) r
def qz (M:Mo):Bool:=(xw M).any GQ
def zK (M:Mo):Int:=if Dd 1048576 M.aY<0∨qz M=true then 3 else 0
theorem PE (M:Mo) (hM:M.fit) : ∀(r i:Nat) (n:Int),i+r=M.aY.length → -1≤n→n≤1048576 →
  bD ae env (af ae env 32 0 [.mp 0 0,sI .i64 n,.p (.ps M.aY.length 2 (M.aY.flatMap bq)),sI .i64 M.aY.length,sI .i64 i] [.pc M.aJ] 0 29) (.ret (sI .i64 (if Dd n (M.aY.drop i)<0∨qz M=true then 3 else 0)) []):=by
 intro r
 induction r with
 |zero=>
  intro i n hi h1 h2
  obtain rfl:i=M.aY.length:=by omega
  have hd:decide ((M.aY.length:Int)<(M.aY.length:Int))=false:=by simp
  refine ah aI (C6 M M.aY.length M.aY.length n (M.aY.flatMap bq) (xw M).length ((xw M).flatMap fm) (qz M)) ?_
  simp only[Bj,bu,aA.ok,hd,ada,Dd]
  refine⟨fun q=>(by cases q),fun _=>⟨fun q=> ?_,fun q=>⟨ME M hM,Me (xw M) (MD hM) GQ (fun x _=>Mw x),fun t=> ?_,fun t=> ?_⟩⟩⟩<;>simp only[decide_eq_true_eq,decide_eq_false_iff_not] at q
  · rw[if_pos (.inl q)]
  · rw[if_pos (.inr t)]
  · rw[if_neg (by simp[t];omega)]
 |succ r ih=>
  intro i n hi h1 h2
  have hl:=hM.aY
  have uF:i<M.aY.length:=by omega
  have hx:=de uF
  rw[ac3 uF]
  generalize M.aY[i]=x at *
  have c:=aU (z:=2) (enc:=bq) (fun _=>rfl) hx
  have c0:(M.aY.flatMap bq).getD (i*2) .bk=pL x.l:=c 0 (by decide)
  have c1:(M.aY.flatMap bq).getD (i*2+1) .bk=pT .u8 x.bs:=c 1 (by decide)
  have w:sa.wrap ((i:Int)+1)=((i+1:Nat):Int):=by rw[bA (by omega) (by omega)];rfl
  have w1:sa.wrap (n+1)=n+1:=bA (by omega) (by omega)
  have w2:sa.wrap (n-min (x.bs.length:Int) (n+1))=n-min (x.bs.length:Int) (n+1):=bA (by omega) (by omega)
  have hd:decide ((i:Int)<(M.aY.length:Int))=true:=by simp;omega
  refine ah aI (C6 M M.aY.length i n (M.aY.flatMap bq) 0 [] true) ?_
  simp only[Bj,bu,aA.ok,aQ,az,aR,an,aM,acN,c0,c1,hd,w,w1,w2,cond_true,Dd]
  exact⟨fun _=>⟨by first | (simp;done) | (simp;omega),rfl,ih (i+1) _ (by omega) (by omega) (by omega)⟩,fun q=>(by cases q)⟩
theorem ID (M:Mo) (hM:M.fit):au ae env 32 [.agg (M.aJ.map .p)] [] (sI .i64 (zK M)) []:=
 aa aI (L8 M) (PE M hM M.aY.length 0 1048576 (by omega) (by omega) (by omega))
def wJ (M:Mo):Bool:=decide (M.dh.length>1)||decide (M.dw.length>1)||decide (max (max (max (max (max (max (M.tys.length:Int) M.aZ.length) M.fns.length) M.gls.length) M.exs.length) M.els.length) M.aY.length>16384)||M.els.any GP
def wK (M:Mo):Int:=if wJ M=true then 141 else if wI M 141=true then 141 else 0
theorem IE (M:Mo) (hM:M.fit) (hs:M.IC):au ae env 31 [.agg (M.aJ.map .p)] [] (sI .i64 (wK M)) []:=by
 have hE:=Mc M.els (by have:=hM.els;omega) GP (fun x _=>Mv x)
 refine aa aI (L9 M (M.els.any GP) (if wI M 141=true then 141 else 0)) ?_
 have lz:=tw M hM hs 141
 have hF:wK M=if wJ M=true then 141 else if wI M 141=true then 141 else 0:=rfl
 generalize (if wI M 141=true then(141:Int) else 0)=v at lz hF ⊢
 simp only[GN,aA.ok,cond_false,cond_true]
 refine⟨fun q=> ?_,fun q=>⟨fun r=> ?_,fun r=>⟨fun t=> ?_,fun t=>⟨hE,fun u=> ?_,fun u=>⟨lz,?_⟩⟩⟩⟩⟩<;>simp only[decide_eq_true_eq,decide_eq_false_iff_not] at *
 · rw[hF,if_pos (by simp only[wJ,j1,decide_eq_true_eq];omega)]
 · rw[hF,if_pos (by simp only[wJ,j1,decide_eq_true_eq];omega)]
 · rw[hF,if_pos (by simp only[wJ,j1,decide_eq_true_eq];omega)]
 · rw[hF,if_pos (by simp[wJ,u])]
 · rw[hF,if_neg (by simp only[wJ,u,j1,decide_eq_true_eq,Bool.or_false];omega)]
end Go.Proofs.YtncncijedmfpjaaGreatDoor.N
end
