import Derived.Test.YtncncijedmfpjaaGreatDoorMK
import Derived.Test.YtncncijedmfpjaaGreatDoorMM
import Derived.Lib.DecodeN
open ByteArray renaming mk→acP
open Go.IntKind renaming i32→acR,u8→acQ
open Go.Proofs.Tryz renaming prog→ae
open Go.Value renaming string→adf
open BitVec renaming ofInt→dk
open List renaming range→fl,getD_eq_getElem?_getD→di,mem_filter→adg,mem_range→PH,getElem?_eq_getElem→de,length_drop→en,map→acC
open Go.Utf8 renaming decode→adh
open Go.Lib renaming slowN→adi,decodeN→adj,decode_at→adk
open Nat renaming zero_add→pD,mul_one→ac8,blt→cf,blt_eq→hC
open Bool renaming false_eq_true→pn,true_eq_false→acS,and_true→ac7,and_eq_true→dp,not_false→pr
open Int renaming toNat_natCast→acN
noncomputable section
section
set_option linter.unusedSimpArgs false
set_option linter.unusedVariables false
namespace Go.Proofs.YtncncijedmfpjaaGreatDoor.N
open Go Go.Am
def cw:List PV:=ir.map fun z=> .sc (.int .u8 z)
def drC (s:ByteArray) (w:Int) (fn:FuncId) (_:List AV) (m:Mem):Option (AV×Mem):=cond (Nat.beq fn 126) (some (.aK [.aT,sI .i64 w],m)) none
def abE (s:ByteArray):FuncId→Nat→Nat→Option (AV→AV):=cu [(126,6,2,sI .u8 241)]
def abF (s:ByteArray):FuncId→Nat→Nat→Option (AV→AV):=cu [(126,6,2,sI .u8 2)]
def abG (s:ByteArray):FuncId→Nat→Nat→Option (AV→AV):=cu [(126,6,2,sI .u8 19)]
def abH (s:ByteArray):FuncId→Nat→Nat→Option (AV→AV):=cu [(126,6,2,sI .u8 3)]
def abI (s:ByteArray):FuncId→Nat→Nat→Option (AV→AV):=cu [(126,6,2,sI .u8 35)]
def abJ (s:ByteArray):FuncId→Nat→Nat→Option (AV→AV):=cu [(126,6,2,sI .u8 52)]
def abK (s:ByteArray):FuncId→Nat→Nat→Option (AV→AV):=cu [(126,6,2,sI .u8 4)]
def abL (s:ByteArray):FuncId→Nat→Nat→Option (AV→AV):=cu [(126,6,2,sI .u8 68)]
def blC (s:ByteArray) (i:Nat) (w:Int) (fn:FuncId) (_:List AV) (m:Mem):Option (AV×Mem):=cond (Nat.beq fn 114) (some (.aK [.aT,sI .i64 w],m)) none
def Un (s:ByteArray) (w:Int):bN:=aP (drC s w) aC [] [(114,2,3),(114,0,0)] [(114,2,4),(114,3,1)]
def YA:Sc:=(.fork .fin (.lit .fin))
def Bk (s:ByteArray) (w:Int):aA:=
 (.test (!s.data.toList==(acP #[]).data.toList)
 (.must (aM 0 s.data.toList.length&&true)
 (.test (decide ((↑(s.data.toList.getD 0 0).toNat:Int)<128))
 (.must (aM 0 s.data.toList.length&&true)
 (.out (.ret (.aK [sI .i32 (acR.wrap (↑(s.data.toList.getD 0 0).toNat:Int)),sI .i64 1]) [])))
 (.call ⟨126,[.p (.sc (.string s))],[],.aK [.aT,sI .i64 w],[]⟩
 (.out (.ret (.aK [.aT,sI .i64 w]) [])))))
 (.call ⟨126,[.p (.sc (.string s))],[],.aK [.aT,sI .i64 w],[]⟩
 (.out (.ret (.aK [.aT,sI .i64 w]) []))))
theorem De (s:ByteArray) (w:Int):aG ae env (Un s w) 1000000 114 ([AV.p (PV.sc (adf s))]) ([]) YA=Bk s w:=by kernel_rfl
def Uo (s:ByteArray):bN:=gI aF aC [] [(126,0,0)] [(126,5,1),(126,6,1),(126,6,2),(126,9,1)] (abE s)
def YB:Sc:= .fin
def GW (s:ByteArray):aA:=
 (.test (decide ((↑s.data.toList.length:Int)<1))
 (.out (.ret (.aK [sI .i32 65533,sI .i64 0]) []))
 (.must (aM 0 s.data.toList.length&&true)
 (.must (aM (↑(s.data.toList.getD 0 0).toNat:Int) 256&&true)
 (.must (isInt acQ (av cw (0+(↑(s.data.toList.getD 0 0).toNat:Int).toNat*1))&&true)
 (.need (sI .u8 (aq (av cw (0+(↑(s.data.toList.getD 0 0).toNat:Int).toNat*1)))=sI acQ 241)
 (.must (aM 0 s.data.toList.length&&true)
 (.out (.ret (.aK [sI .i32 (acR.wrap (↑(dk 32 (acR.wrap (↑(dk 32 (acR.wrap (↑(s.data.toList.getD 0 0).toNat:Int)) &&& ~~~dk 32 (-1)).toNat:Int))|||dk 32 65533).toNat:Int)),sI .i64 1]) []))))))))
theorem MF (s:ByteArray):aG ae env (Uo s) 1000000 126 ([AV.p (PV.sc (adf s))]) ([]) YB=GW s:=by kernel_rfl
def Up (s:ByteArray):bN:=gI aF aC [] [(126,0,0),(126,0,2),(126,15,5),(126,0,3)] [(126,5,1),(126,6,1),(126,6,2),(126,14,1)] (abF s)
def YC:Sc:=(.fork .fin (.fork .fin (.fork (.lit .fin) .fin)))
def qA (s:ByteArray):aA:=
 (.test (decide ((↑s.data.toList.length:Int)<1))
 (.out (.ret (.aK [sI .i32 65533,sI .i64 0]) []))
 (.must (aM 0 s.data.toList.length&&true)
 (.must (aM (↑(s.data.toList.getD 0 0).toNat:Int) 256&&true)
 (.must (isInt acQ (av cw (0+(↑(s.data.toList.getD 0 0).toNat:Int).toNat*1))&&true)
 (.need (sI .u8 (aq (av cw (0+(↑(s.data.toList.getD 0 0).toNat:Int).toNat*1)))=sI acQ 2)
 (.test (decide ((↑s.data.toList.length:Int)<2))
 (.out (.ret (.aK [sI .i32 65533,sI .i64 1]) []))
 (.must (aM 1 s.data.toList.length&&true)
 (.test (decide ((↑(s.data.toList.getD 1 0).toNat:Int)<128))
 (.out (.ret (.aK [sI .i32 65533,sI .i64 1]) []))
 (.test (decide (191<(↑(s.data.toList.getD 1 0).toNat:Int)))
 (.out (.ret (.aK [sI .i32 65533,sI .i64 1]) []))
 (.out (.ret (.aK [sI .i32 (acR.wrap (↑(dk 32 (acR.wrap (acR.wrap (acQ.wrap (↑(dk 8 (↑(s.data.toList.getD 0 0).toNat:Int)&&&dk 8 31).toNat:Int))*64))|||dk 32 (acR.wrap (acQ.wrap (↑(dk 8 (↑(s.data.toList.getD 1 0).toNat:Int)&&&dk 8 63).toNat:Int)))).toNat:Int)),sI .i64 2]) [])))))))))))
theorem qB (s:ByteArray):aG ae env (Up s) 1000000 126 ([AV.p (PV.sc (adf s))]) ([]) YC=qA s:=by kernel_rfl
def Uq (s:ByteArray):bN:=gI aF aC [] [(126,0,0),(126,0,2),(126,15,5),(126,0,3),(126,20,3),(126,0,5)] [(126,5,1),(126,6,1),(126,6,2),(126,14,1),(126,19,1)] (abG s)
def YD:Sc:=(.fork .fin (.fork .fin (.fork (.lit .fin) (.fork .fin (.fork (.lit .fin) .fin)))))
def eI:aA:=
 (.out (.ret (.aK [sI .i32 65533,sI .i64 1]) []))
def lY (s:ByteArray):aA:=
 (.test (decide ((↑s.data.toList.length:Int)<1))
 (.out (.ret (.aK [sI .i32 65533,sI .i64 0]) []))
 (.must (aM 0 s.data.toList.length&&true)
 (.must (aM (↑(s.data.toList.getD 0 0).toNat:Int) 256&&true)
 (.must (isInt acQ (av cw (0+(↑(s.data.toList.getD 0 0).toNat:Int).toNat*1))&&true)
 (.need (sI .u8 (aq (av cw (0+(↑(s.data.toList.getD 0 0).toNat:Int).toNat*1)))=sI acQ 19)
 (.test (decide ((↑s.data.toList.length:Int)<3))
 (eI)
 (.must (aM 1 s.data.toList.length&&true)
 (.test (decide ((↑(s.data.toList.getD 1 0).toNat:Int)<160))
 (eI)
 (.test (decide (191<(↑(s.data.toList.getD 1 0).toNat:Int)))
 (eI)
 (.must (aM 2 s.data.toList.length&&true)
 (.test (decide ((↑(s.data.toList.getD 2 0).toNat:Int)<128))
 (eI)
 (.test (decide (191<(↑(s.data.toList.getD 2 0).toNat:Int)))
 (eI)
 (.out (.ret (.aK [sI .i32 (acR.wrap (↑(dk 32 (acR.wrap (↑(dk 32 (acR.wrap (acR.wrap (acQ.wrap (↑(dk 8 (↑(s.data.toList.getD 0 0).toNat:Int)&&&dk 8 15).toNat:Int))*4096))|||dk 32 (acR.wrap (acR.wrap (acQ.wrap (↑(dk 8 (↑(s.data.toList.getD 1 0).toNat:Int)&&&dk 8 63).toNat:Int))*64))).toNat:Int))|||dk 32 (acR.wrap (acQ.wrap (↑(dk 8 (↑(s.data.toList.getD 2 0).toNat:Int)&&&dk 8 63).toNat:Int)))).toNat:Int)),sI .i64 3]) []))))))))))))))
theorem kZ (s:ByteArray):aG ae env (Uq s) 1000000 126 ([AV.p (PV.sc (adf s))]) ([]) YD=lY s:=by kernel_rfl
def Ur (s:ByteArray):bN:=gI aF aC [] [(126,0,0),(126,0,2),(126,15,5),(126,0,3),(126,20,3),(126,0,5)] [(126,5,1),(126,6,1),(126,6,2),(126,14,1),(126,19,1)] (abH s)
def YE:Sc:=(.fork .fin (.fork .fin (.fork (.lit .fin) (.fork .fin (.fork (.lit .fin) .fin)))))
def eJ:aA:=
 (.out (.ret (.aK [sI .i32 65533,sI .i64 1]) []))
def lZ (s:ByteArray):aA:=
 (.test (decide ((↑s.data.toList.length:Int)<1))
 (.out (.ret (.aK [sI .i32 65533,sI .i64 0]) []))
 (.must (aM 0 s.data.toList.length&&true)
 (.must (aM (↑(s.data.toList.getD 0 0).toNat:Int) 256&&true)
 (.must (isInt acQ (av cw (0+(↑(s.data.toList.getD 0 0).toNat:Int).toNat*1))&&true)
 (.need (sI .u8 (aq (av cw (0+(↑(s.data.toList.getD 0 0).toNat:Int).toNat*1)))=sI acQ 3)
 (.test (decide ((↑s.data.toList.length:Int)<3))
 (eJ)
 (.must (aM 1 s.data.toList.length&&true)
 (.test (decide ((↑(s.data.toList.getD 1 0).toNat:Int)<128))
 (eJ)
 (.test (decide (191<(↑(s.data.toList.getD 1 0).toNat:Int)))
 (eJ)
 (.must (aM 2 s.data.toList.length&&true)
 (.test (decide ((↑(s.data.toList.getD 2 0).toNat:Int)<128))
 (eJ)
 (.test (decide (191<(↑(s.data.toList.getD 2 0).toNat:Int)))
 (eJ)
 (.out (.ret (.aK [sI .i32 (acR.wrap (↑(dk 32 (acR.wrap (↑(dk 32 (acR.wrap (acR.wrap (acQ.wrap (↑(dk 8 (↑(s.data.toList.getD 0 0).toNat:Int)&&&dk 8 15).toNat:Int))*4096))|||dk 32 (acR.wrap (acR.wrap (acQ.wrap (↑(dk 8 (↑(s.data.toList.getD 1 0).toNat:Int)&&&dk 8 63).toNat:Int))*64))).toNat:Int))|||dk 32 (acR.wrap (acQ.wrap (↑(dk 8 (↑(s.data.toList.getD 2 0).toNat:Int)&&&dk 8 63).toNat:Int)))).toNat:Int)),sI .i64 3]) []))))))))))))))
theorem lf (s:ByteArray):aG ae env (Ur s) 1000000 126 ([AV.p (PV.sc (adf s))]) ([]) YE=lZ s:=by kernel_rfl
def Us (s:ByteArray):bN:=gI aF aC [] [(126,0,0),(126,0,2),(126,15,5),(126,0,3),(126,20,3),(126,0,5)] [(126,5,1),(126,6,1),(126,6,2),(126,14,1),(126,19,1)] (abI s)
def YF:Sc:=(.fork .fin (.fork .fin (.fork (.lit .fin) (.fork .fin (.fork (.lit .fin) .fin)))))
def eK:aA:=
 (.out (.ret (.aK [sI .i32 65533,sI .i64 1]) []))
def l7 (s:ByteArray):aA:=
 (.test (decide ((↑s.data.toList.length:Int)<1))
 (.out (.ret (.aK [sI .i32 65533,sI .i64 0]) []))
 (.must (aM 0 s.data.toList.length&&true)
 (.must (aM (↑(s.data.toList.getD 0 0).toNat:Int) 256&&true)
 (.must (isInt acQ (av cw (0+(↑(s.data.toList.getD 0 0).toNat:Int).toNat*1))&&true)
 (.need (sI .u8 (aq (av cw (0+(↑(s.data.toList.getD 0 0).toNat:Int).toNat*1)))=sI acQ 35)
 (.test (decide ((↑s.data.toList.length:Int)<3))
 (eK)
 (.must (aM 1 s.data.toList.length&&true)
 (.test (decide ((↑(s.data.toList.getD 1 0).toNat:Int)<128))
 (eK)
 (.test (decide (159<(↑(s.data.toList.getD 1 0).toNat:Int)))
 (eK)
 (.must (aM 2 s.data.toList.length&&true)
 (.test (decide ((↑(s.data.toList.getD 2 0).toNat:Int)<128))
 (eK)
 (.test (decide (191<(↑(s.data.toList.getD 2 0).toNat:Int)))
 (eK)
 (.out (.ret (.aK [sI .i32 (acR.wrap (↑(dk 32 (acR.wrap (↑(dk 32 (acR.wrap (acR.wrap (acQ.wrap (↑(dk 8 (↑(s.data.toList.getD 0 0).toNat:Int)&&&dk 8 15).toNat:Int))*4096))|||dk 32 (acR.wrap (acR.wrap (acQ.wrap (↑(dk 8 (↑(s.data.toList.getD 1 0).toNat:Int)&&&dk 8 63).toNat:Int))*64))).toNat:Int))|||dk 32 (acR.wrap (acQ.wrap (↑(dk 8 (↑(s.data.toList.getD 2 0).toNat:Int)&&&dk 8 63).toNat:Int)))).toNat:Int)),sI .i64 3]) []))))))))))))))
theorem lp (s:ByteArray):aG ae env (Us s) 1000000 126 ([AV.p (PV.sc (adf s))]) ([]) YF=l7 s:=by kernel_rfl
def Ut (s:ByteArray):bN:=gI aF aC [] [(126,0,0),(126,0,2),(126,15,5),(126,0,3),(126,20,3),(126,0,5),(126,25,3),(126,0,7)] [(126,5,1),(126,6,1),(126,6,2),(126,14,1),(126,19,1),(126,24,1)] (abJ s)
def YG:Sc:=(.fork .fin (.fork .fin (.fork (.lit .fin) (.fork .fin (.fork (.lit .fin) (.fork .fin (.fork (.lit .fin) .fin)))))))
def dD:aA:=
 (.out (.ret (.aK [sI .i32 65533,sI .i64 1]) []))
def jm (s:ByteArray):aA:=
 (.test (decide ((↑s.data.toList.length:Int)<1))
 (.out (.ret (.aK [sI .i32 65533,sI .i64 0]) []))
 (.must (aM 0 s.data.toList.length&&true)
 (.must (aM (↑(s.data.toList.getD 0 0).toNat:Int) 256&&true)
 (.must (isInt acQ (av cw (0+(↑(s.data.toList.getD 0 0).toNat:Int).toNat*1))&&true)
 (.need (sI .u8 (aq (av cw (0+(↑(s.data.toList.getD 0 0).toNat:Int).toNat*1)))=sI acQ 52)
 (.test (decide ((↑s.data.toList.length:Int)<4))
 (dD)
 (.must (aM 1 s.data.toList.length&&true)
 (.test (decide ((↑(s.data.toList.getD 1 0).toNat:Int)<144))
 (dD)
 (.test (decide (191<(↑(s.data.toList.getD 1 0).toNat:Int)))
 (dD)
 (.must (aM 2 s.data.toList.length&&true)
 (.test (decide ((↑(s.data.toList.getD 2 0).toNat:Int)<128))
 (dD)
 (.test (decide (191<(↑(s.data.toList.getD 2 0).toNat:Int)))
 (dD)
 (.must (aM 3 s.data.toList.length&&true)
 (.test (decide ((↑(s.data.toList.getD 3 0).toNat:Int)<128))
 (dD)
 (.test (decide (191<(↑(s.data.toList.getD 3 0).toNat:Int)))
 (dD)
 (.out (.ret (.aK [sI .i32 (acR.wrap (↑(dk 32 (acR.wrap (↑(dk 32 (acR.wrap (↑(dk 32 (acR.wrap (acR.wrap (acQ.wrap (↑(dk 8 (↑(s.data.toList.getD 0 0).toNat:Int)&&&dk 8 7).toNat:Int))*262144))|||dk 32 (acR.wrap (acR.wrap (acQ.wrap (↑(dk 8 (↑(s.data.toList.getD 1 0).toNat:Int)&&&dk 8 63).toNat:Int))*4096))).toNat:Int))|||dk 32 (acR.wrap (acR.wrap (acQ.wrap (↑(dk 8 (↑(s.data.toList.getD 2 0).toNat:Int)&&&dk 8 63).toNat:Int))*64))).toNat:Int))|||dk 32 (acR.wrap (acQ.wrap (↑(dk 8 (↑(s.data.toList.getD 3 0).toNat:Int)&&&dk 8 63).toNat:Int)))).toNat:Int)),sI .i64 4]) [])))))))))))))))))
theorem iS (s:ByteArray):aG ae env (Ut s) 1000000 126 ([AV.p (PV.sc (adf s))]) ([]) YG=jm s:=by kernel_rfl
def Uu (s:ByteArray):bN:=gI aF aC [] [(126,0,0),(126,0,2),(126,15,5),(126,0,3),(126,20,3),(126,0,5),(126,25,3),(126,0,7)] [(126,5,1),(126,6,1),(126,6,2),(126,14,1),(126,19,1),(126,24,1)] (abK s)
def YH:Sc:=(.fork .fin (.fork .fin (.fork (.lit .fin) (.fork .fin (.fork (.lit .fin) (.fork .fin (.fork (.lit .fin) .fin)))))))
def dF:aA:=
 (.out (.ret (.aK [sI .i32 65533,sI .i64 1]) []))
def jo (s:ByteArray):aA:=
 (.test (decide ((↑s.data.toList.length:Int)<1))
 (.out (.ret (.aK [sI .i32 65533,sI .i64 0]) []))
 (.must (aM 0 s.data.toList.length&&true)
 (.must (aM (↑(s.data.toList.getD 0 0).toNat:Int) 256&&true)
 (.must (isInt acQ (av cw (0+(↑(s.data.toList.getD 0 0).toNat:Int).toNat*1))&&true)
 (.need (sI .u8 (aq (av cw (0+(↑(s.data.toList.getD 0 0).toNat:Int).toNat*1)))=sI acQ 4)
 (.test (decide ((↑s.data.toList.length:Int)<4))
 (dF)
 (.must (aM 1 s.data.toList.length&&true)
 (.test (decide ((↑(s.data.toList.getD 1 0).toNat:Int)<128))
 (dF)
 (.test (decide (191<(↑(s.data.toList.getD 1 0).toNat:Int)))
 (dF)
 (.must (aM 2 s.data.toList.length&&true)
 (.test (decide ((↑(s.data.toList.getD 2 0).toNat:Int)<128))
 (dF)
 (.test (decide (191<(↑(s.data.toList.getD 2 0).toNat:Int)))
 (dF)
 (.must (aM 3 s.data.toList.length&&true)
 (.test (decide ((↑(s.data.toList.getD 3 0).toNat:Int)<128))
 (dF)
 (.test (decide (191<(↑(s.data.toList.getD 3 0).toNat:Int)))
 (dF)
 (.out (.ret (.aK [sI .i32 (acR.wrap (↑(dk 32 (acR.wrap (↑(dk 32 (acR.wrap (↑(dk 32 (acR.wrap (acR.wrap (acQ.wrap (↑(dk 8 (↑(s.data.toList.getD 0 0).toNat:Int)&&&dk 8 7).toNat:Int))*262144))|||dk 32 (acR.wrap (acR.wrap (acQ.wrap (↑(dk 8 (↑(s.data.toList.getD 1 0).toNat:Int)&&&dk 8 63).toNat:Int))*4096))).toNat:Int))|||dk 32 (acR.wrap (acR.wrap (acQ.wrap (↑(dk 8 (↑(s.data.toList.getD 2 0).toNat:Int)&&&dk 8 63).toNat:Int))*64))).toNat:Int))|||dk 32 (acR.wrap (acQ.wrap (↑(dk 8 (↑(s.data.toList.getD 3 0).toNat:Int)&&&dk 8 63).toNat:Int)))).toNat:Int)),sI .i64 4]) [])))))))))))))))))
theorem iT (s:ByteArray):aG ae env (Uu s) 1000000 126 ([AV.p (PV.sc (adf s))]) ([]) YH=jo s:=by kernel_rfl
def Uv (s:ByteArray):bN:=gI aF aC [] [(126,0,0),(126,0,2),(126,15,5),(126,0,3),(126,20,3),(126,0,5),(126,25,3),(126,0,7)] [(126,5,1),(126,6,1),(126,6,2),(126,14,1),(126,19,1),(126,24,1)] (abL s)
def YI:Sc:=(.fork .fin (.fork .fin (.fork (.lit .fin) (.fork .fin (.fork (.lit .fin) (.fork .fin (.fork (.lit .fin) .fin)))))))
def dG:aA:=
 (.out (.ret (.aK [sI .i32 65533,sI .i64 1]) []))
def jq (s:ByteArray):aA:=
 (.test (decide ((↑s.data.toList.length:Int)<1))
 (.out (.ret (.aK [sI .i32 65533,sI .i64 0]) []))
 (.must (aM 0 s.data.toList.length&&true)
 (.must (aM (↑(s.data.toList.getD 0 0).toNat:Int) 256&&true)
 (.must (isInt acQ (av cw (0+(↑(s.data.toList.getD 0 0).toNat:Int).toNat*1))&&true)
 (.need (sI .u8 (aq (av cw (0+(↑(s.data.toList.getD 0 0).toNat:Int).toNat*1)))=sI acQ 68)
 (.test (decide ((↑s.data.toList.length:Int)<4))
 (dG)
 (.must (aM 1 s.data.toList.length&&true)
 (.test (decide ((↑(s.data.toList.getD 1 0).toNat:Int)<128))
 (dG)
 (.test (decide (143<(↑(s.data.toList.getD 1 0).toNat:Int)))
 (dG)
 (.must (aM 2 s.data.toList.length&&true)
 (.test (decide ((↑(s.data.toList.getD 2 0).toNat:Int)<128))
 (dG)
 (.test (decide (191<(↑(s.data.toList.getD 2 0).toNat:Int)))
 (dG)
 (.must (aM 3 s.data.toList.length&&true)
 (.test (decide ((↑(s.data.toList.getD 3 0).toNat:Int)<128))
 (dG)
 (.test (decide (191<(↑(s.data.toList.getD 3 0).toNat:Int)))
 (dG)
 (.out (.ret (.aK [sI .i32 (acR.wrap (↑(dk 32 (acR.wrap (↑(dk 32 (acR.wrap (↑(dk 32 (acR.wrap (acR.wrap (acQ.wrap (↑(dk 8 (↑(s.data.toList.getD 0 0).toNat:Int)&&&dk 8 7).toNat:Int))*262144))|||dk 32 (acR.wrap (acR.wrap (acQ.wrap (↑(dk 8 (↑(s.data.toList.getD 1 0).toNat:Int)&&&dk 8 63).toNat:Int))*4096))).toNat:Int))|||dk 32 (acR.wrap (acR.wrap (acQ.wrap (↑(dk 8 (↑(s.data.toList.getD 2 0).toNat:Int)&&&dk 8 63).toNat:Int))*64))).toNat:Int))|||dk 32 (acR.wrap (acQ.wrap (↑(dk 8 (↑(s.data.toList.getD 3 0).toNat:Int)&&&dk 8 63).toNat:Int)))).toNat:Int)),sI .i64 4]) [])))))))))))))))))
theorem iU (s:ByteArray):aG ae env (Uv s) 1000000 126 ([AV.p (PV.sc (adf s))]) ([]) YI=jq s:=by kernel_rfl
def Uw:bN:=aP aF aC [(74,0)] [] [(74,2,1)]
def YJ:Sc:= .fin
def GX (n:Nat) (l:List PV):aA:=
 (.must (l.all isByte&&true)
 (.at (af ae env 74 0 [.p (.sc (.string (acP (acC Am.byteOf l).toArray))),.mp 0 0] ([.ob (dV.iter (acP (acC Am.byteOf l).toArray) 0) []]) 0 28)))
theorem MG (n:Nat) (l:List PV):aG ae env Uw 1000000 74 ([AV.p (PV.ps n 1 l)]) ([]) YJ=GX n l:=by kernel_rfl
def Ux (s:ByteArray) (i:Nat) (w:Int):bN:=aP (blC s i w) aC [(74,0)] [(74,0,2),(74,0,3)] [(74,7,2)]
def YK:Sc:= .fin
def GY (s:ByteArray) (i:Nat) (w:Int):aA:=
 (.test ((↑(adh s i).fst:Int) != 65533)
 (.at (af ae env 74 0 [.p (.sc (.string s)),.mp 0 0] ([.ob (dV.iter s (i+(adh s i).snd)) []]) 0 28))
 (.must ((aB i).ble s.data.toList.length&&s.data.toList.length.ble s.data.toList.length&&true)
 (.call ⟨114,[.p (.sc (.string (s.extract (aB i) s.data.toList.length)))],[],.aK [.aT,sI .i64 w],[]⟩
 (.test (w==1)
 (.out (.ret (sI .i64 (↑i:Int)) []))
 (.at (af ae env 74 0 [.p (.sc (.string s)),.mp 0 0] ([.ob (dV.iter s (i+(adh s i).snd)) []]) 0 28))))))
theorem MH (s:ByteArray) (i:Nat) (w:Int):grow ae env (Ux s i w) 1000000 true (af ae env 74 0 ([AV.p (PV.sc (adf s)),AV.mp 0 0]) ([aN.ob (dV.N2 s i true) []]) 0 28) YK atEnd=GY s i w:=by kernel_rfl
def Uy (s:ByteArray) (i:Nat) (w:Int):bN:=aP (blC s i w) aC [(74,0)] [] []
def YL:Sc:= .fin
def GZ (s:ByteArray) (i:Nat) (w:Int):aA:=
 (.out (.ret (sI .i64 (-1)) []))
theorem Df (s:ByteArray) (i:Nat) (w:Int):grow ae env (Uy s i w) 1000000 true (af ae env 74 0 ([AV.p (PV.sc (adf s)),AV.mp 0 0]) ([aN.ob (dV.N2 s i false) []]) 0 28) YL atEnd=GZ s i w:=by kernel_rfl
theorem bf {f:FuncId} {args:List AV} {r w:Int} (h:au ae env f args [] (.aK [sI .i32 r,sI .i64 w]) []):au ae env f args [] (.aK [.aT,sI .i64 w]) []:=
 h.weak fun g wd cv q=>by
   cases q with
   |aK _ cs hl hc=>
    have hv:cY g wd [sI .i32 r,sI .i64 w] cs.toList:=bI.dz hl hc
    refine VA.mA.2 ?_
    generalize cs.toList=vs at hv
    match vs,hv with
    |[u,t],hv=>
     obtain⟨_,h2,_⟩:=hv
     cases h2 with
     |p _ _ h2=>cases h2 with
      |sc=>exact⟨.aT _,.p _ _ (.sc _),trivial⟩
theorem fF {b:Nat} (h:b<256):cw.getD b .bk = .sc (.int .u8 (ir.getD b 0)):=by
 have hl:ir.length=256:=by decide +kernel
 rw[cw,di,List.getElem?_map,de (by omega),di,de (by omega)]
 rfl
section
variable (s:ByteArray)
abbrev bK (j:Nat):Nat:=(s.data.toList.getD j 0).toNat
def dN (sz lo hi:Nat):Nat×Nat:=adi s.data.toList.length (bK s 0) (bK s 1) (bK s 2) (bK s 3) sz lo hi
theorem Bl (j:Nat):bK s j<256:=(s.data.toList.getD j 0).toNat_lt
theorem Uz (b:Nat) (h:128≤b∧b<194∨245≤b∧b<256):cw.getD b .bk = .sc (.int .u8 241):=by
 have hb:b<256:=by omega
 have h:b∈(fl 256).filter (fun b=>decide (128≤b∧b<194∨245≤b∧b<256)):=adg.2 ⟨PH.2 (by omega),decide_eq_true h⟩
 have hall : ∀b∈(fl 256).filter (fun b=>decide (128≤b∧b<194∨245≤b∧b<256)),ir.getD b 0=241:=by decide +kernel
 rw[fF hb,hall b h]
theorem MI (h0:0<s.data.toList.length) (hb:128≤bK s 0∧bK s 0<194∨245≤bK s 0∧bK s 0<256):au ae env 126 [.p (.sc (.string s))] [] (.aK [.aT,sI .i64 1]) []:=by
 have firstAt:cw.getD (0+(s.data.toList.getD 0 0).toNat*1) .bk = .sc (.int .u8 241):=by rw[pD,ac8];exact Uz (bK s 0) hb
 have hn0:decide ((s.data.toList.length:Int)<1)=false:=decide_eq_false (by omega)
 have hin : ∀j:Nat,j<s.data.toList.length→aM (j:Int) s.data.toList.length=true:=fun j h=>by simp only[aM,dp,decide_eq_true_eq];omega
 have eT:aM 0 s.data.toList.length=true:=hin 0 h0
 have bT:aM (bK s 0:Int) 256=true:=by simp only[aM,dp,decide_eq_true_eq];omega
 refine bf (r:=(acR.wrap (↑(dk 32 (acR.wrap (↑(dk 32 (acR.wrap (↑(s.data.toList.getD 0 0).toNat:Int)) &&& ~~~dk 32 (-1)).toNat:Int))|||dk 32 65533).toNat:Int))) (aa aI (MF s) ?_)
 simp only[GW,bu,aA.ok,hn0,eT,bT,acN,firstAt,isInt,aq,ac7,pn,acS,false_implies,true_implies,true_and,and_true]
 first | rfl | exact⟨rfl,rfl⟩ | exact⟨rfl,rfl,rfl⟩
theorem UA (b:Nat) (h:194≤b∧b<224):cw.getD b .bk = .sc (.int .u8 2):=by
 have hb:b<256:=by omega
 have h:b∈(fl 256).filter (fun b=>decide (194≤b∧b<224)):=adg.2 ⟨PH.2 (by omega),decide_eq_true h⟩
 have hall : ∀b∈(fl 256).filter (fun b=>decide (194≤b∧b<224)),ir.getD b 0=2:=by decide +kernel
 rw[fF hb,hall b h]
theorem MJ (h0:0<s.data.toList.length) (hb:194≤bK s 0∧bK s 0<224):au ae env 126 [.p (.sc (.string s))] [] (.aK [.aT,sI .i64 ((dN s 2 128 191).2:Nat)]) []:=by
 have firstAt:cw.getD (0+(s.data.toList.getD 0 0).toNat*1) .bk = .sc (.int .u8 2):=by rw[pD,ac8];exact UA (bK s 0) hb
 have hn0:decide ((s.data.toList.length:Int)<1)=false:=decide_eq_false (by omega)
 have hin : ∀j:Nat,j<s.data.toList.length→aM (j:Int) s.data.toList.length=true:=fun j h=>by simp only[aM,dp,decide_eq_true_eq];omega
 have eT:aM 0 s.data.toList.length=true:=hin 0 h0
 have bT:aM (bK s 0:Int) 256=true:=by simp only[aM,dp,decide_eq_true_eq];omega
 by_cases q0:s.data.toList.length<2
 · have e0:decide ((s.data.toList.length:Int)<2)=true:=decide_eq_true (by omega)
   have hs:dN s 2 128 191=(65533,1):=by unfold dN adi;rw[if_pos q0]
   rw[hs]
   refine bf (r:=65533) (aa aI (qB s) ?_)
   simp only[qA,bu,aA.ok,hn0,eT,bT,acN,firstAt,isInt,aq,ac7,pn,acS,false_implies,true_implies,true_and,and_true,e0]
   first | rfl | exact⟨rfl,rfl⟩ | exact⟨rfl,rfl,rfl⟩
 have e0:decide ((s.data.toList.length:Int)<2)=false:=decide_eq_false (by omega)
 have hi1:aM 1 s.data.toList.length=true:=hin 1 (by omega)
 by_cases q1:bK s 1<128
 · have e1:decide ((bK s 1:Int)<128)=true:=decide_eq_true (by omega)
   have hs:dN s 2 128 191=(65533,1):=by unfold dN adi;rw[if_neg q0,if_pos (.inl q1)]
   rw[hs]
   refine bf (r:=65533) (aa aI (qB s) ?_)
   simp only[qA,bu,aA.ok,hn0,eT,bT,acN,firstAt,isInt,aq,ac7,pn,acS,false_implies,true_implies,true_and,and_true,e0,e1,hi1]
   first | rfl | exact⟨rfl,rfl⟩ | exact⟨rfl,rfl,rfl⟩
 have e1:decide ((bK s 1:Int)<128)=false:=decide_eq_false (by omega)
 by_cases q2:191<bK s 1
 · have e2:decide (191<(bK s 1:Int))=true:=decide_eq_true (by omega)
   have hs:dN s 2 128 191=(65533,1):=by unfold dN adi;rw[if_neg q0,if_pos (.inr q2)]
   rw[hs]
   refine bf (r:=65533) (aa aI (qB s) ?_)
   simp only[qA,bu,aA.ok,hn0,eT,bT,acN,firstAt,isInt,aq,ac7,pn,acS,false_implies,true_implies,true_and,and_true,e0,e1,e2,hi1]
   first | rfl | exact⟨rfl,rfl⟩ | exact⟨rfl,rfl,rfl⟩
 have e2:decide (191<(bK s 1:Int))=false:=decide_eq_false (by omega)
 have hs:dN s 2 128 191=(bK s 0%32*64+bK s 1%64,2):=by unfold dN adi;rw[if_neg q0,if_neg (not_or.2 ⟨q1,q2⟩),if_pos (by decide)]
 rw[hs]
 refine bf (r:=(acR.wrap (↑(dk 32 (acR.wrap (acR.wrap (acQ.wrap (↑(dk 8 (↑(s.data.toList.getD 0 0).toNat:Int)&&&dk 8 31).toNat:Int))*64))|||dk 32 (acR.wrap (acQ.wrap (↑(dk 8 (↑(s.data.toList.getD 1 0).toNat:Int)&&&dk 8 63).toNat:Int)))).toNat:Int))) (aa aI (qB s) ?_)
 simp only[qA,bu,aA.ok,hn0,eT,bT,acN,firstAt,isInt,aq,ac7,pn,acS,false_implies,true_implies,true_and,and_true,e0,e1,e2,hi1]
 first | rfl | exact⟨rfl,rfl⟩ | exact⟨rfl,rfl,rfl⟩
theorem UB (b:Nat) (h:b=224):cw.getD b .bk = .sc (.int .u8 19):=by
 have hb:b<256:=by omega
 have h:b∈(fl 256).filter (fun b=>decide (b=224)):=adg.2 ⟨PH.2 (by omega),decide_eq_true h⟩
 have hall : ∀b∈(fl 256).filter (fun b=>decide (b=224)),ir.getD b 0=19:=by decide +kernel
 rw[fF hb,hall b h]
theorem MK (h0:0<s.data.toList.length) (hb:bK s 0=224):au ae env 126 [.p (.sc (.string s))] [] (.aK [.aT,sI .i64 ((dN s 3 160 191).2:Nat)]) []:=by
 have firstAt:cw.getD (0+(s.data.toList.getD 0 0).toNat*1) .bk = .sc (.int .u8 19):=by rw[pD,ac8];exact UB (bK s 0) hb
 have hn0:decide ((s.data.toList.length:Int)<1)=false:=decide_eq_false (by omega)
 have hin : ∀j:Nat,j<s.data.toList.length→aM (j:Int) s.data.toList.length=true:=fun j h=>by simp only[aM,dp,decide_eq_true_eq];omega
 have eT:aM 0 s.data.toList.length=true:=hin 0 h0
 have bT:aM (bK s 0:Int) 256=true:=by simp only[aM,dp,decide_eq_true_eq];omega
 by_cases q0:s.data.toList.length<3
 · have e0:decide ((s.data.toList.length:Int)<3)=true:=decide_eq_true (by omega)
   have hs:dN s 3 160 191=(65533,1):=by unfold dN adi;rw[if_pos q0]
   rw[hs]
   refine bf (r:=65533) (aa aI (kZ s) ?_)
   simp only[lY,eI,bu,aA.ok,hn0,eT,bT,acN,firstAt,isInt,aq,ac7,pn,acS,false_implies,true_implies,true_and,and_true,e0]
   first | rfl | exact⟨rfl,rfl⟩ | exact⟨rfl,rfl,rfl⟩
 have e0:decide ((s.data.toList.length:Int)<3)=false:=decide_eq_false (by omega)
 have hi1:aM 1 s.data.toList.length=true:=hin 1 (by omega)
 by_cases q1:bK s 1<160
 · have e1:decide ((bK s 1:Int)<160)=true:=decide_eq_true (by omega)
   have hs:dN s 3 160 191=(65533,1):=by unfold dN adi;rw[if_neg q0,if_pos (.inl q1)]
   rw[hs]
   refine bf (r:=65533) (aa aI (kZ s) ?_)
   simp only[lY,eI,bu,aA.ok,hn0,eT,bT,acN,firstAt,isInt,aq,ac7,pn,acS,false_implies,true_implies,true_and,and_true,e0,e1,hi1]
   first | rfl | exact⟨rfl,rfl⟩ | exact⟨rfl,rfl,rfl⟩
 have e1:decide ((bK s 1:Int)<160)=false:=decide_eq_false (by omega)
 by_cases q2:191<bK s 1
 · have e2:decide (191<(bK s 1:Int))=true:=decide_eq_true (by omega)
   have hs:dN s 3 160 191=(65533,1):=by unfold dN adi;rw[if_neg q0,if_pos (.inr q2)]
   rw[hs]
   refine bf (r:=65533) (aa aI (kZ s) ?_)
   simp only[lY,eI,bu,aA.ok,hn0,eT,bT,acN,firstAt,isInt,aq,ac7,pn,acS,false_implies,true_implies,true_and,and_true,e0,e1,e2,hi1]
   first | rfl | exact⟨rfl,rfl⟩ | exact⟨rfl,rfl,rfl⟩
 have e2:decide (191<(bK s 1:Int))=false:=decide_eq_false (by omega)
 have hi2:aM 2 s.data.toList.length=true:=hin 2 (by omega)
 by_cases q3:bK s 2<128
 · have e3:decide ((bK s 2:Int)<128)=true:=decide_eq_true (by omega)
   have hs:dN s 3 160 191=(65533,1):=by unfold dN adi;rw[if_neg q0,if_neg (not_or.2 ⟨q1,q2⟩),if_neg (by decide),if_pos (.inl q3)]
   rw[hs]
   refine bf (r:=65533) (aa aI (kZ s) ?_)
   simp only[lY,eI,bu,aA.ok,hn0,eT,bT,acN,firstAt,isInt,aq,ac7,pn,acS,false_implies,true_implies,true_and,and_true,e0,e1,e2,e3,hi1,hi2]
   first | rfl | exact⟨rfl,rfl⟩ | exact⟨rfl,rfl,rfl⟩
 have e3:decide ((bK s 2:Int)<128)=false:=decide_eq_false (by omega)
 by_cases q4:191<bK s 2
 · have e4:decide (191<(bK s 2:Int))=true:=decide_eq_true (by omega)
   have hs:dN s 3 160 191=(65533,1):=by unfold dN adi;rw[if_neg q0,if_neg (not_or.2 ⟨q1,q2⟩),if_neg (by decide),if_pos (.inr q4)]
   rw[hs]
   refine bf (r:=65533) (aa aI (kZ s) ?_)
   simp only[lY,eI,bu,aA.ok,hn0,eT,bT,acN,firstAt,isInt,aq,ac7,pn,acS,false_implies,true_implies,true_and,and_true,e0,e1,e2,e3,e4,hi1,hi2]
   first | rfl | exact⟨rfl,rfl⟩ | exact⟨rfl,rfl,rfl⟩
 have e4:decide (191<(bK s 2:Int))=false:=decide_eq_false (by omega)
 have hs:dN s 3 160 191=(bK s 0%16*4096+bK s 1%64*64+bK s 2%64,3):=by unfold dN adi;rw[if_neg q0,if_neg (not_or.2 ⟨q1,q2⟩),if_neg (by decide),if_neg (not_or.2 ⟨q3,q4⟩),if_pos (by decide)]
 rw[hs]
 refine bf (r:=(acR.wrap (↑(dk 32 (acR.wrap (↑(dk 32 (acR.wrap (acR.wrap (acQ.wrap (↑(dk 8 (↑(s.data.toList.getD 0 0).toNat:Int)&&&dk 8 15).toNat:Int))*4096))|||dk 32 (acR.wrap (acR.wrap (acQ.wrap (↑(dk 8 (↑(s.data.toList.getD 1 0).toNat:Int)&&&dk 8 63).toNat:Int))*64))).toNat:Int))|||dk 32 (acR.wrap (acQ.wrap (↑(dk 8 (↑(s.data.toList.getD 2 0).toNat:Int)&&&dk 8 63).toNat:Int)))).toNat:Int))) (aa aI (kZ s) ?_)
 simp only[lY,eI,bu,aA.ok,hn0,eT,bT,acN,firstAt,isInt,aq,ac7,pn,acS,false_implies,true_implies,true_and,and_true,e0,e1,e2,e3,e4,hi1,hi2]
 first | rfl | exact⟨rfl,rfl⟩ | exact⟨rfl,rfl,rfl⟩
theorem UC (b:Nat) (h:225≤b∧b<237∨238≤b∧b<240):cw.getD b .bk = .sc (.int .u8 3):=by
 have hb:b<256:=by omega
 have h:b∈(fl 256).filter (fun b=>decide (225≤b∧b<237∨238≤b∧b<240)):=adg.2 ⟨PH.2 (by omega),decide_eq_true h⟩
 have hall : ∀b∈(fl 256).filter (fun b=>decide (225≤b∧b<237∨238≤b∧b<240)),ir.getD b 0=3:=by decide +kernel
 rw[fF hb,hall b h]
theorem ML (h0:0<s.data.toList.length) (hb:225≤bK s 0∧bK s 0<237∨238≤bK s 0∧bK s 0<240):au ae env 126 [.p (.sc (.string s))] [] (.aK [.aT,sI .i64 ((dN s 3 128 191).2:Nat)]) []:=by
 have firstAt:cw.getD (0+(s.data.toList.getD 0 0).toNat*1) .bk = .sc (.int .u8 3):=by rw[pD,ac8];exact UC (bK s 0) hb
 have hn0:decide ((s.data.toList.length:Int)<1)=false:=decide_eq_false (by omega)
 have hin : ∀j:Nat,j<s.data.toList.length→aM (j:Int) s.data.toList.length=true:=fun j h=>by simp only[aM,dp,decide_eq_true_eq];omega
 have eT:aM 0 s.data.toList.length=true:=hin 0 h0
 have bT:aM (bK s 0:Int) 256=true:=by simp only[aM,dp,decide_eq_true_eq];omega
 by_cases q0:s.data.toList.length<3
 · have e0:decide ((s.data.toList.length:Int)<3)=true:=decide_eq_true (by omega)
   have hs:dN s 3 128 191=(65533,1):=by unfold dN adi;rw[if_pos q0]
   rw[hs]
   refine bf (r:=65533) (aa aI (lf s) ?_)
   simp only[lZ,eJ,bu,aA.ok,hn0,eT,bT,acN,firstAt,isInt,aq,ac7,pn,acS,false_implies,true_implies,true_and,and_true,e0]
   first | rfl | exact⟨rfl,rfl⟩ | exact⟨rfl,rfl,rfl⟩
 have e0:decide ((s.data.toList.length:Int)<3)=false:=decide_eq_false (by omega)
 have hi1:aM 1 s.data.toList.length=true:=hin 1 (by omega)
 by_cases q1:bK s 1<128
 · have e1:decide ((bK s 1:Int)<128)=true:=decide_eq_true (by omega)
   have hs:dN s 3 128 191=(65533,1):=by unfold dN adi;rw[if_neg q0,if_pos (.inl q1)]
   rw[hs]
   refine bf (r:=65533) (aa aI (lf s) ?_)
   simp only[lZ,eJ,bu,aA.ok,hn0,eT,bT,acN,firstAt,isInt,aq,ac7,pn,acS,false_implies,true_implies,true_and,and_true,e0,e1,hi1]
   first | rfl | exact⟨rfl,rfl⟩ | exact⟨rfl,rfl,rfl⟩
 have e1:decide ((bK s 1:Int)<128)=false:=decide_eq_false (by omega)
 by_cases q2:191<bK s 1
 · have e2:decide (191<(bK s 1:Int))=true:=decide_eq_true (by omega)
   have hs:dN s 3 128 191=(65533,1):=by unfold dN adi;rw[if_neg q0,if_pos (.inr q2)]
   rw[hs]
   refine bf (r:=65533) (aa aI (lf s) ?_)
   simp only[lZ,eJ,bu,aA.ok,hn0,eT,bT,acN,firstAt,isInt,aq,ac7,pn,acS,false_implies,true_implies,true_and,and_true,e0,e1,e2,hi1]
   first | rfl | exact⟨rfl,rfl⟩ | exact⟨rfl,rfl,rfl⟩
 have e2:decide (191<(bK s 1:Int))=false:=decide_eq_false (by omega)
 have hi2:aM 2 s.data.toList.length=true:=hin 2 (by omega)
 by_cases q3:bK s 2<128
 · have e3:decide ((bK s 2:Int)<128)=true:=decide_eq_true (by omega)
   have hs:dN s 3 128 191=(65533,1):=by unfold dN adi;rw[if_neg q0,if_neg (not_or.2 ⟨q1,q2⟩),if_neg (by decide),if_pos (.inl q3)]
   rw[hs]
   refine bf (r:=65533) (aa aI (lf s) ?_)
   simp only[lZ,eJ,bu,aA.ok,hn0,eT,bT,acN,firstAt,isInt,aq,ac7,pn,acS,false_implies,true_implies,true_and,and_true,e0,e1,e2,e3,hi1,hi2]
   first | rfl | exact⟨rfl,rfl⟩ | exact⟨rfl,rfl,rfl⟩
 have e3:decide ((bK s 2:Int)<128)=false:=decide_eq_false (by omega)
 by_cases q4:191<bK s 2
 · have e4:decide (191<(bK s 2:Int))=true:=decide_eq_true (by omega)
   have hs:dN s 3 128 191=(65533,1):=by unfold dN adi;rw[if_neg q0,if_neg (not_or.2 ⟨q1,q2⟩),if_neg (by decide),if_pos (.inr q4)]
   rw[hs]
   refine bf (r:=65533) (aa aI (lf s) ?_)
   simp only[lZ,eJ,bu,aA.ok,hn0,eT,bT,acN,firstAt,isInt,aq,ac7,pn,acS,false_implies,true_implies,true_and,and_true,e0,e1,e2,e3,e4,hi1,hi2]
   first | rfl | exact⟨rfl,rfl⟩ | exact⟨rfl,rfl,rfl⟩
 have e4:decide (191<(bK s 2:Int))=false:=decide_eq_false (by omega)
 have hs:dN s 3 128 191=(bK s 0%16*4096+bK s 1%64*64+bK s 2%64,3):=by unfold dN adi;rw[if_neg q0,if_neg (not_or.2 ⟨q1,q2⟩),if_neg (by decide),if_neg (not_or.2 ⟨q3,q4⟩),if_pos (by decide)]
 rw[hs]
 refine bf (r:=(acR.wrap (↑(dk 32 (acR.wrap (↑(dk 32 (acR.wrap (acR.wrap (acQ.wrap (↑(dk 8 (↑(s.data.toList.getD 0 0).toNat:Int)&&&dk 8 15).toNat:Int))*4096))|||dk 32 (acR.wrap (acR.wrap (acQ.wrap (↑(dk 8 (↑(s.data.toList.getD 1 0).toNat:Int)&&&dk 8 63).toNat:Int))*64))).toNat:Int))|||dk 32 (acR.wrap (acQ.wrap (↑(dk 8 (↑(s.data.toList.getD 2 0).toNat:Int)&&&dk 8 63).toNat:Int)))).toNat:Int))) (aa aI (lf s) ?_)
 simp only[lZ,eJ,bu,aA.ok,hn0,eT,bT,acN,firstAt,isInt,aq,ac7,pn,acS,false_implies,true_implies,true_and,and_true,e0,e1,e2,e3,e4,hi1,hi2]
 first | rfl | exact⟨rfl,rfl⟩ | exact⟨rfl,rfl,rfl⟩
theorem UD (b:Nat) (h:b=237):cw.getD b .bk = .sc (.int .u8 35):=by
 have hb:b<256:=by omega
 have h:b∈(fl 256).filter (fun b=>decide (b=237)):=adg.2 ⟨PH.2 (by omega),decide_eq_true h⟩
 have hall : ∀b∈(fl 256).filter (fun b=>decide (b=237)),ir.getD b 0=35:=by decide +kernel
 rw[fF hb,hall b h]
theorem MM (h0:0<s.data.toList.length) (hb:bK s 0=237):au ae env 126 [.p (.sc (.string s))] [] (.aK [.aT,sI .i64 ((dN s 3 128 159).2:Nat)]) []:=by
 have firstAt:cw.getD (0+(s.data.toList.getD 0 0).toNat*1) .bk = .sc (.int .u8 35):=by rw[pD,ac8];exact UD (bK s 0) hb
 have hn0:decide ((s.data.toList.length:Int)<1)=false:=decide_eq_false (by omega)
 have hin : ∀j:Nat,j<s.data.toList.length→aM (j:Int) s.data.toList.length=true:=fun j h=>by simp only[aM,dp,decide_eq_true_eq];omega
 have eT:aM 0 s.data.toList.length=true:=hin 0 h0
 have bT:aM (bK s 0:Int) 256=true:=by simp only[aM,dp,decide_eq_true_eq];omega
 by_cases q0:s.data.toList.length<3
 · have e0:decide ((s.data.toList.length:Int)<3)=true:=decide_eq_true (by omega)
   have hs:dN s 3 128 159=(65533,1):=by unfold dN adi;rw[if_pos q0]
   rw[hs]
   refine bf (r:=65533) (aa aI (lp s) ?_)
   simp only[l7,eK,bu,aA.ok,hn0,eT,bT,acN,firstAt,isInt,aq,ac7,pn,acS,false_implies,true_implies,true_and,and_true,e0]
   first | rfl | exact⟨rfl,rfl⟩ | exact⟨rfl,rfl,rfl⟩
 have e0:decide ((s.data.toList.length:Int)<3)=false:=decide_eq_false (by omega)
 have hi1:aM 1 s.data.toList.length=true:=hin 1 (by omega)
 by_cases q1:bK s 1<128
 · have e1:decide ((bK s 1:Int)<128)=true:=decide_eq_true (by omega)
   have hs:dN s 3 128 159=(65533,1):=by unfold dN adi;rw[if_neg q0,if_pos (.inl q1)]
   rw[hs]
   refine bf (r:=65533) (aa aI (lp s) ?_)
   simp only[l7,eK,bu,aA.ok,hn0,eT,bT,acN,firstAt,isInt,aq,ac7,pn,acS,false_implies,true_implies,true_and,and_true,e0,e1,hi1]
   first | rfl | exact⟨rfl,rfl⟩ | exact⟨rfl,rfl,rfl⟩
 have e1:decide ((bK s 1:Int)<128)=false:=decide_eq_false (by omega)
 by_cases q2:159<bK s 1
 · have e2:decide (159<(bK s 1:Int))=true:=decide_eq_true (by omega)
   have hs:dN s 3 128 159=(65533,1):=by unfold dN adi;rw[if_neg q0,if_pos (.inr q2)]
   rw[hs]
   refine bf (r:=65533) (aa aI (lp s) ?_)
   simp only[l7,eK,bu,aA.ok,hn0,eT,bT,acN,firstAt,isInt,aq,ac7,pn,acS,false_implies,true_implies,true_and,and_true,e0,e1,e2,hi1]
   first | rfl | exact⟨rfl,rfl⟩ | exact⟨rfl,rfl,rfl⟩
 have e2:decide (159<(bK s 1:Int))=false:=decide_eq_false (by omega)
 have hi2:aM 2 s.data.toList.length=true:=hin 2 (by omega)
 by_cases q3:bK s 2<128
 · have e3:decide ((bK s 2:Int)<128)=true:=decide_eq_true (by omega)
   have hs:dN s 3 128 159=(65533,1):=by unfold dN adi;rw[if_neg q0,if_neg (not_or.2 ⟨q1,q2⟩),if_neg (by decide),if_pos (.inl q3)]
   rw[hs]
   refine bf (r:=65533) (aa aI (lp s) ?_)
   simp only[l7,eK,bu,aA.ok,hn0,eT,bT,acN,firstAt,isInt,aq,ac7,pn,acS,false_implies,true_implies,true_and,and_true,e0,e1,e2,e3,hi1,hi2]
   first | rfl | exact⟨rfl,rfl⟩ | exact⟨rfl,rfl,rfl⟩
 have e3:decide ((bK s 2:Int)<128)=false:=decide_eq_false (by omega)
 by_cases q4:191<bK s 2
 · have e4:decide (191<(bK s 2:Int))=true:=decide_eq_true (by omega)
   have hs:dN s 3 128 159=(65533,1):=by unfold dN adi;rw[if_neg q0,if_neg (not_or.2 ⟨q1,q2⟩),if_neg (by decide),if_pos (.inr q4)]
   rw[hs]
   refine bf (r:=65533) (aa aI (lp s) ?_)
   simp only[l7,eK,bu,aA.ok,hn0,eT,bT,acN,firstAt,isInt,aq,ac7,pn,acS,false_implies,true_implies,true_and,and_true,e0,e1,e2,e3,e4,hi1,hi2]
   first | rfl | exact⟨rfl,rfl⟩ | exact⟨rfl,rfl,rfl⟩
 have e4:decide (191<(bK s 2:Int))=false:=decide_eq_false (by omega)
 have hs:dN s 3 128 159=(bK s 0%16*4096+bK s 1%64*64+bK s 2%64,3):=by unfold dN adi;rw[if_neg q0,if_neg (not_or.2 ⟨q1,q2⟩),if_neg (by decide),if_neg (not_or.2 ⟨q3,q4⟩),if_pos (by decide)]
 rw[hs]
 refine bf (r:=(acR.wrap (↑(dk 32 (acR.wrap (↑(dk 32 (acR.wrap (acR.wrap (acQ.wrap (↑(dk 8 (↑(s.data.toList.getD 0 0).toNat:Int)&&&dk 8 15).toNat:Int))*4096))|||dk 32 (acR.wrap (acR.wrap (acQ.wrap (↑(dk 8 (↑(s.data.toList.getD 1 0).toNat:Int)&&&dk 8 63).toNat:Int))*64))).toNat:Int))|||dk 32 (acR.wrap (acQ.wrap (↑(dk 8 (↑(s.data.toList.getD 2 0).toNat:Int)&&&dk 8 63).toNat:Int)))).toNat:Int))) (aa aI (lp s) ?_)
 simp only[l7,eK,bu,aA.ok,hn0,eT,bT,acN,firstAt,isInt,aq,ac7,pn,acS,false_implies,true_implies,true_and,and_true,e0,e1,e2,e3,e4,hi1,hi2]
 first | rfl | exact⟨rfl,rfl⟩ | exact⟨rfl,rfl,rfl⟩
theorem UE (b:Nat) (h:b=240):cw.getD b .bk = .sc (.int .u8 52):=by
 have hb:b<256:=by omega
 have h:b∈(fl 256).filter (fun b=>decide (b=240)):=adg.2 ⟨PH.2 (by omega),decide_eq_true h⟩
 have hall : ∀b∈(fl 256).filter (fun b=>decide (b=240)),ir.getD b 0=52:=by decide +kernel
 rw[fF hb,hall b h]
theorem MN (h0:0<s.data.toList.length) (hb:bK s 0=240):au ae env 126 [.p (.sc (.string s))] [] (.aK [.aT,sI .i64 ((dN s 4 144 191).2:Nat)]) []:=by
 have firstAt:cw.getD (0+(s.data.toList.getD 0 0).toNat*1) .bk = .sc (.int .u8 52):=by rw[pD,ac8];exact UE (bK s 0) hb
 have hn0:decide ((s.data.toList.length:Int)<1)=false:=decide_eq_false (by omega)
 have hin : ∀j:Nat,j<s.data.toList.length→aM (j:Int) s.data.toList.length=true:=fun j h=>by simp only[aM,dp,decide_eq_true_eq];omega
 have eT:aM 0 s.data.toList.length=true:=hin 0 h0
 have bT:aM (bK s 0:Int) 256=true:=by simp only[aM,dp,decide_eq_true_eq];omega
 by_cases q0:s.data.toList.length<4
 · have e0:decide ((s.data.toList.length:Int)<4)=true:=decide_eq_true (by omega)
   have hs:dN s 4 144 191=(65533,1):=by unfold dN adi;rw[if_pos q0]
   rw[hs]
   refine bf (r:=65533) (aa aI (iS s) ?_)
   simp only[jm,dD,bu,aA.ok,hn0,eT,bT,acN,firstAt,isInt,aq,ac7,pn,acS,false_implies,true_implies,true_and,and_true,e0]
   first | rfl | exact⟨rfl,rfl⟩ | exact⟨rfl,rfl,rfl⟩
 have e0:decide ((s.data.toList.length:Int)<4)=false:=decide_eq_false (by omega)
 have hi1:aM 1 s.data.toList.length=true:=hin 1 (by omega)
 by_cases q1:bK s 1<144
 · have e1:decide ((bK s 1:Int)<144)=true:=decide_eq_true (by omega)
   have hs:dN s 4 144 191=(65533,1):=by unfold dN adi;rw[if_neg q0,if_pos (.inl q1)]
   rw[hs]
   refine bf (r:=65533) (aa aI (iS s) ?_)
   simp only[jm,dD,bu,aA.ok,hn0,eT,bT,acN,firstAt,isInt,aq,ac7,pn,acS,false_implies,true_implies,true_and,and_true,e0,e1,hi1]
   first | rfl | exact⟨rfl,rfl⟩ | exact⟨rfl,rfl,rfl⟩
 have e1:decide ((bK s 1:Int)<144)=false:=decide_eq_false (by omega)
 by_cases q2:191<bK s 1
 · have e2:decide (191<(bK s 1:Int))=true:=decide_eq_true (by omega)
   have hs:dN s 4 144 191=(65533,1):=by unfold dN adi;rw[if_neg q0,if_pos (.inr q2)]
   rw[hs]
   refine bf (r:=65533) (aa aI (iS s) ?_)
   simp only[jm,dD,bu,aA.ok,hn0,eT,bT,acN,firstAt,isInt,aq,ac7,pn,acS,false_implies,true_implies,true_and,and_true,e0,e1,e2,hi1]
   first | rfl | exact⟨rfl,rfl⟩ | exact⟨rfl,rfl,rfl⟩
 have e2:decide (191<(bK s 1:Int))=false:=decide_eq_false (by omega)
 have hi2:aM 2 s.data.toList.length=true:=hin 2 (by omega)
 by_cases q3:bK s 2<128
 · have e3:decide ((bK s 2:Int)<128)=true:=decide_eq_true (by omega)
   have hs:dN s 4 144 191=(65533,1):=by unfold dN adi;rw[if_neg q0,if_neg (not_or.2 ⟨q1,q2⟩),if_neg (by decide),if_pos (.inl q3)]
   rw[hs]
   refine bf (r:=65533) (aa aI (iS s) ?_)
   simp only[jm,dD,bu,aA.ok,hn0,eT,bT,acN,firstAt,isInt,aq,ac7,pn,acS,false_implies,true_implies,true_and,and_true,e0,e1,e2,e3,hi1,hi2]
   first | rfl | exact⟨rfl,rfl⟩ | exact⟨rfl,rfl,rfl⟩
 have e3:decide ((bK s 2:Int)<128)=false:=decide_eq_false (by omega)
 by_cases q4:191<bK s 2
 · have e4:decide (191<(bK s 2:Int))=true:=decide_eq_true (by omega)
   have hs:dN s 4 144 191=(65533,1):=by unfold dN adi;rw[if_neg q0,if_neg (not_or.2 ⟨q1,q2⟩),if_neg (by decide),if_pos (.inr q4)]
   rw[hs]
   refine bf (r:=65533) (aa aI (iS s) ?_)
   simp only[jm,dD,bu,aA.ok,hn0,eT,bT,acN,firstAt,isInt,aq,ac7,pn,acS,false_implies,true_implies,true_and,and_true,e0,e1,e2,e3,e4,hi1,hi2]
   first | rfl | exact⟨rfl,rfl⟩ | exact⟨rfl,rfl,rfl⟩
 have e4:decide (191<(bK s 2:Int))=false:=decide_eq_false (by omega)
 have MO:aM 3 s.data.toList.length=true:=hin 3 (by omega)
 by_cases q5:bK s 3<128
 · have e5:decide ((bK s 3:Int)<128)=true:=decide_eq_true (by omega)
   have hs:dN s 4 144 191=(65533,1):=by unfold dN adi;rw[if_neg q0,if_neg (not_or.2 ⟨q1,q2⟩),if_neg (by decide),if_neg (not_or.2 ⟨q3,q4⟩),if_neg (by decide),if_pos (.inl q5)]
   rw[hs]
   refine bf (r:=65533) (aa aI (iS s) ?_)
   simp only[jm,dD,bu,aA.ok,hn0,eT,bT,acN,firstAt,isInt,aq,ac7,pn,acS,false_implies,true_implies,true_and,and_true,e0,e1,e2,e3,e4,e5,hi1,hi2,MO]
   first | rfl | exact⟨rfl,rfl⟩ | exact⟨rfl,rfl,rfl⟩
 have e5:decide ((bK s 3:Int)<128)=false:=decide_eq_false (by omega)
 by_cases q6:191<bK s 3
 · have e6:decide (191<(bK s 3:Int))=true:=decide_eq_true (by omega)
   have hs:dN s 4 144 191=(65533,1):=by unfold dN adi;rw[if_neg q0,if_neg (not_or.2 ⟨q1,q2⟩),if_neg (by decide),if_neg (not_or.2 ⟨q3,q4⟩),if_neg (by decide),if_pos (.inr q6)]
   rw[hs]
   refine bf (r:=65533) (aa aI (iS s) ?_)
   simp only[jm,dD,bu,aA.ok,hn0,eT,bT,acN,firstAt,isInt,aq,ac7,pn,acS,false_implies,true_implies,true_and,and_true,e0,e1,e2,e3,e4,e5,e6,hi1,hi2,MO]
   first | rfl | exact⟨rfl,rfl⟩ | exact⟨rfl,rfl,rfl⟩
 have e6:decide (191<(bK s 3:Int))=false:=decide_eq_false (by omega)
 have hs:dN s 4 144 191=(bK s 0%8*262144+bK s 1%64*4096+bK s 2%64*64+bK s 3%64,4):=by unfold dN adi;rw[if_neg q0,if_neg (not_or.2 ⟨q1,q2⟩),if_neg (by decide),if_neg (not_or.2 ⟨q3,q4⟩),if_neg (by decide),if_neg (not_or.2 ⟨q5,q6⟩)]
 rw[hs]
 refine bf (r:=(acR.wrap (↑(dk 32 (acR.wrap (↑(dk 32 (acR.wrap (↑(dk 32 (acR.wrap (acR.wrap (acQ.wrap (↑(dk 8 (↑(s.data.toList.getD 0 0).toNat:Int)&&&dk 8 7).toNat:Int))*262144))|||dk 32 (acR.wrap (acR.wrap (acQ.wrap (↑(dk 8 (↑(s.data.toList.getD 1 0).toNat:Int)&&&dk 8 63).toNat:Int))*4096))).toNat:Int))|||dk 32 (acR.wrap (acR.wrap (acQ.wrap (↑(dk 8 (↑(s.data.toList.getD 2 0).toNat:Int)&&&dk 8 63).toNat:Int))*64))).toNat:Int))|||dk 32 (acR.wrap (acQ.wrap (↑(dk 8 (↑(s.data.toList.getD 3 0).toNat:Int)&&&dk 8 63).toNat:Int)))).toNat:Int))) (aa aI (iS s) ?_)
 simp only[jm,dD,bu,aA.ok,hn0,eT,bT,acN,firstAt,isInt,aq,ac7,pn,acS,false_implies,true_implies,true_and,and_true,e0,e1,e2,e3,e4,e5,e6,hi1,hi2,MO]
 first | rfl | exact⟨rfl,rfl⟩ | exact⟨rfl,rfl,rfl⟩
theorem UF (b:Nat) (h:241≤b∧b<244):cw.getD b .bk = .sc (.int .u8 4):=by
 have hb:b<256:=by omega
 have h:b∈(fl 256).filter (fun b=>decide (241≤b∧b<244)):=adg.2 ⟨PH.2 (by omega),decide_eq_true h⟩
 have hall : ∀b∈(fl 256).filter (fun b=>decide (241≤b∧b<244)),ir.getD b 0=4:=by decide +kernel
 rw[fF hb,hall b h]
theorem MP (h0:0<s.data.toList.length) (hb:241≤bK s 0∧bK s 0<244):au ae env 126 [.p (.sc (.string s))] [] (.aK [.aT,sI .i64 ((dN s 4 128 191).2:Nat)]) []:=by
 have firstAt:cw.getD (0+(s.data.toList.getD 0 0).toNat*1) .bk = .sc (.int .u8 4):=by rw[pD,ac8];exact UF (bK s 0) hb
 have hn0:decide ((s.data.toList.length:Int)<1)=false:=decide_eq_false (by omega)
 have hin : ∀j:Nat,j<s.data.toList.length→aM (j:Int) s.data.toList.length=true:=fun j h=>by simp only[aM,dp,decide_eq_true_eq];omega
 have eT:aM 0 s.data.toList.length=true:=hin 0 h0
 have bT:aM (bK s 0:Int) 256=true:=by simp only[aM,dp,decide_eq_true_eq];omega
 by_cases q0:s.data.toList.length<4
 · have e0:decide ((s.data.toList.length:Int)<4)=true:=decide_eq_true (by omega)
   have hs:dN s 4 128 191=(65533,1):=by unfold dN adi;rw[if_pos q0]
   rw[hs]
   refine bf (r:=65533) (aa aI (iT s) ?_)
   simp only[jo,dF,bu,aA.ok,hn0,eT,bT,acN,firstAt,isInt,aq,ac7,pn,acS,false_implies,true_implies,true_and,and_true,e0]
   first | rfl | exact⟨rfl,rfl⟩ | exact⟨rfl,rfl,rfl⟩
 have e0:decide ((s.data.toList.length:Int)<4)=false:=decide_eq_false (by omega)
 have hi1:aM 1 s.data.toList.length=true:=hin 1 (by omega)
 by_cases q1:bK s 1<128
 · have e1:decide ((bK s 1:Int)<128)=true:=decide_eq_true (by omega)
   have hs:dN s 4 128 191=(65533,1):=by unfold dN adi;rw[if_neg q0,if_pos (.inl q1)]
   rw[hs]
   refine bf (r:=65533) (aa aI (iT s) ?_)
   simp only[jo,dF,bu,aA.ok,hn0,eT,bT,acN,firstAt,isInt,aq,ac7,pn,acS,false_implies,true_implies,true_and,and_true,e0,e1,hi1]
   first | rfl | exact⟨rfl,rfl⟩ | exact⟨rfl,rfl,rfl⟩
 have e1:decide ((bK s 1:Int)<128)=false:=decide_eq_false (by omega)
 by_cases q2:191<bK s 1
 · have e2:decide (191<(bK s 1:Int))=true:=decide_eq_true (by omega)
   have hs:dN s 4 128 191=(65533,1):=by unfold dN adi;rw[if_neg q0,if_pos (.inr q2)]
   rw[hs]
   refine bf (r:=65533) (aa aI (iT s) ?_)
   simp only[jo,dF,bu,aA.ok,hn0,eT,bT,acN,firstAt,isInt,aq,ac7,pn,acS,false_implies,true_implies,true_and,and_true,e0,e1,e2,hi1]
   first | rfl | exact⟨rfl,rfl⟩ | exact⟨rfl,rfl,rfl⟩
 have e2:decide (191<(bK s 1:Int))=false:=decide_eq_false (by omega)
 have hi2:aM 2 s.data.toList.length=true:=hin 2 (by omega)
 by_cases q3:bK s 2<128
 · have e3:decide ((bK s 2:Int)<128)=true:=decide_eq_true (by omega)
   have hs:dN s 4 128 191=(65533,1):=by unfold dN adi;rw[if_neg q0,if_neg (not_or.2 ⟨q1,q2⟩),if_neg (by decide),if_pos (.inl q3)]
   rw[hs]
   refine bf (r:=65533) (aa aI (iT s) ?_)
   simp only[jo,dF,bu,aA.ok,hn0,eT,bT,acN,firstAt,isInt,aq,ac7,pn,acS,false_implies,true_implies,true_and,and_true,e0,e1,e2,e3,hi1,hi2]
   first | rfl | exact⟨rfl,rfl⟩ | exact⟨rfl,rfl,rfl⟩
 have e3:decide ((bK s 2:Int)<128)=false:=decide_eq_false (by omega)
 by_cases q4:191<bK s 2
 · have e4:decide (191<(bK s 2:Int))=true:=decide_eq_true (by omega)
   have hs:dN s 4 128 191=(65533,1):=by unfold dN adi;rw[if_neg q0,if_neg (not_or.2 ⟨q1,q2⟩),if_neg (by decide),if_pos (.inr q4)]
   rw[hs]
   refine bf (r:=65533) (aa aI (iT s) ?_)
   simp only[jo,dF,bu,aA.ok,hn0,eT,bT,acN,firstAt,isInt,aq,ac7,pn,acS,false_implies,true_implies,true_and,and_true,e0,e1,e2,e3,e4,hi1,hi2]
   first | rfl | exact⟨rfl,rfl⟩ | exact⟨rfl,rfl,rfl⟩
 have e4:decide (191<(bK s 2:Int))=false:=decide_eq_false (by omega)
 have MO:aM 3 s.data.toList.length=true:=hin 3 (by omega)
 by_cases q5:bK s 3<128
 · have e5:decide ((bK s 3:Int)<128)=true:=decide_eq_true (by omega)
   have hs:dN s 4 128 191=(65533,1):=by unfold dN adi;rw[if_neg q0,if_neg (not_or.2 ⟨q1,q2⟩),if_neg (by decide),if_neg (not_or.2 ⟨q3,q4⟩),if_neg (by decide),if_pos (.inl q5)]
   rw[hs]
   refine bf (r:=65533) (aa aI (iT s) ?_)
   simp only[jo,dF,bu,aA.ok,hn0,eT,bT,acN,firstAt,isInt,aq,ac7,pn,acS,false_implies,true_implies,true_and,and_true,e0,e1,e2,e3,e4,e5,hi1,hi2,MO]
   first | rfl | exact⟨rfl,rfl⟩ | exact⟨rfl,rfl,rfl⟩
 have e5:decide ((bK s 3:Int)<128)=false:=decide_eq_false (by omega)
 by_cases q6:191<bK s 3
 · have e6:decide (191<(bK s 3:Int))=true:=decide_eq_true (by omega)
   have hs:dN s 4 128 191=(65533,1):=by unfold dN adi;rw[if_neg q0,if_neg (not_or.2 ⟨q1,q2⟩),if_neg (by decide),if_neg (not_or.2 ⟨q3,q4⟩),if_neg (by decide),if_pos (.inr q6)]
   rw[hs]
   refine bf (r:=65533) (aa aI (iT s) ?_)
   simp only[jo,dF,bu,aA.ok,hn0,eT,bT,acN,firstAt,isInt,aq,ac7,pn,acS,false_implies,true_implies,true_and,and_true,e0,e1,e2,e3,e4,e5,e6,hi1,hi2,MO]
   first | rfl | exact⟨rfl,rfl⟩ | exact⟨rfl,rfl,rfl⟩
 have e6:decide (191<(bK s 3:Int))=false:=decide_eq_false (by omega)
 have hs:dN s 4 128 191=(bK s 0%8*262144+bK s 1%64*4096+bK s 2%64*64+bK s 3%64,4):=by unfold dN adi;rw[if_neg q0,if_neg (not_or.2 ⟨q1,q2⟩),if_neg (by decide),if_neg (not_or.2 ⟨q3,q4⟩),if_neg (by decide),if_neg (not_or.2 ⟨q5,q6⟩)]
 rw[hs]
 refine bf (r:=(acR.wrap (↑(dk 32 (acR.wrap (↑(dk 32 (acR.wrap (↑(dk 32 (acR.wrap (acR.wrap (acQ.wrap (↑(dk 8 (↑(s.data.toList.getD 0 0).toNat:Int)&&&dk 8 7).toNat:Int))*262144))|||dk 32 (acR.wrap (acR.wrap (acQ.wrap (↑(dk 8 (↑(s.data.toList.getD 1 0).toNat:Int)&&&dk 8 63).toNat:Int))*4096))).toNat:Int))|||dk 32 (acR.wrap (acR.wrap (acQ.wrap (↑(dk 8 (↑(s.data.toList.getD 2 0).toNat:Int)&&&dk 8 63).toNat:Int))*64))).toNat:Int))|||dk 32 (acR.wrap (acQ.wrap (↑(dk 8 (↑(s.data.toList.getD 3 0).toNat:Int)&&&dk 8 63).toNat:Int)))).toNat:Int))) (aa aI (iT s) ?_)
 simp only[jo,dF,bu,aA.ok,hn0,eT,bT,acN,firstAt,isInt,aq,ac7,pn,acS,false_implies,true_implies,true_and,and_true,e0,e1,e2,e3,e4,e5,e6,hi1,hi2,MO]
 first | rfl | exact⟨rfl,rfl⟩ | exact⟨rfl,rfl,rfl⟩
theorem UG (b:Nat) (h:b=244):cw.getD b .bk = .sc (.int .u8 68):=by
 have hb:b<256:=by omega
 have h:b∈(fl 256).filter (fun b=>decide (b=244)):=adg.2 ⟨PH.2 (by omega),decide_eq_true h⟩
 have hall : ∀b∈(fl 256).filter (fun b=>decide (b=244)),ir.getD b 0=68:=by decide +kernel
 rw[fF hb,hall b h]
theorem MQ (h0:0<s.data.toList.length) (hb:bK s 0=244):au ae env 126 [.p (.sc (.string s))] [] (.aK [.aT,sI .i64 ((dN s 4 128 143).2:Nat)]) []:=by
 have firstAt:cw.getD (0+(s.data.toList.getD 0 0).toNat*1) .bk = .sc (.int .u8 68):=by rw[pD,ac8];exact UG (bK s 0) hb
 have hn0:decide ((s.data.toList.length:Int)<1)=false:=decide_eq_false (by omega)
 have hin : ∀j:Nat,j<s.data.toList.length→aM (j:Int) s.data.toList.length=true:=fun j h=>by simp only[aM,dp,decide_eq_true_eq];omega
 have eT:aM 0 s.data.toList.length=true:=hin 0 h0
 have bT:aM (bK s 0:Int) 256=true:=by simp only[aM,dp,decide_eq_true_eq];omega
 by_cases q0:s.data.toList.length<4
 · have e0:decide ((s.data.toList.length:Int)<4)=true:=decide_eq_true (by omega)
   have hs:dN s 4 128 143=(65533,1):=by unfold dN adi;rw[if_pos q0]
   rw[hs]
   refine bf (r:=65533) (aa aI (iU s) ?_)
   simp only[jq,dG,bu,aA.ok,hn0,eT,bT,acN,firstAt,isInt,aq,ac7,pn,acS,false_implies,true_implies,true_and,and_true,e0]
   first | rfl | exact⟨rfl,rfl⟩ | exact⟨rfl,rfl,rfl⟩
 have e0:decide ((s.data.toList.length:Int)<4)=false:=decide_eq_false (by omega)
 have hi1:aM 1 s.data.toList.length=true:=hin 1 (by omega)
 by_cases q1:bK s 1<128
 · have e1:decide ((bK s 1:Int)<128)=true:=decide_eq_true (by omega)
   have hs:dN s 4 128 143=(65533,1):=by unfold dN adi;rw[if_neg q0,if_pos (.inl q1)]
   rw[hs]
   refine bf (r:=65533) (aa aI (iU s) ?_)
   simp only[jq,dG,bu,aA.ok,hn0,eT,bT,acN,firstAt,isInt,aq,ac7,pn,acS,false_implies,true_implies,true_and,and_true,e0,e1,hi1]
   first | rfl | exact⟨rfl,rfl⟩ | exact⟨rfl,rfl,rfl⟩
 have e1:decide ((bK s 1:Int)<128)=false:=decide_eq_false (by omega)
 by_cases q2:143<bK s 1
 · have e2:decide (143<(bK s 1:Int))=true:=decide_eq_true (by omega)
   have hs:dN s 4 128 143=(65533,1):=by unfold dN adi;rw[if_neg q0,if_pos (.inr q2)]
   rw[hs]
   refine bf (r:=65533) (aa aI (iU s) ?_)
   simp only[jq,dG,bu,aA.ok,hn0,eT,bT,acN,firstAt,isInt,aq,ac7,pn,acS,false_implies,true_implies,true_and,and_true,e0,e1,e2,hi1]
   first | rfl | exact⟨rfl,rfl⟩ | exact⟨rfl,rfl,rfl⟩
 have e2:decide (143<(bK s 1:Int))=false:=decide_eq_false (by omega)
 have hi2:aM 2 s.data.toList.length=true:=hin 2 (by omega)
 by_cases q3:bK s 2<128
 · have e3:decide ((bK s 2:Int)<128)=true:=decide_eq_true (by omega)
   have hs:dN s 4 128 143=(65533,1):=by unfold dN adi;rw[if_neg q0,if_neg (not_or.2 ⟨q1,q2⟩),if_neg (by decide),if_pos (.inl q3)]
   rw[hs]
   refine bf (r:=65533) (aa aI (iU s) ?_)
   simp only[jq,dG,bu,aA.ok,hn0,eT,bT,acN,firstAt,isInt,aq,ac7,pn,acS,false_implies,true_implies,true_and,and_true,e0,e1,e2,e3,hi1,hi2]
   first | rfl | exact⟨rfl,rfl⟩ | exact⟨rfl,rfl,rfl⟩
 have e3:decide ((bK s 2:Int)<128)=false:=decide_eq_false (by omega)
 by_cases q4:191<bK s 2
 · have e4:decide (191<(bK s 2:Int))=true:=decide_eq_true (by omega)
   have hs:dN s 4 128 143=(65533,1):=by unfold dN adi;rw[if_neg q0,if_neg (not_or.2 ⟨q1,q2⟩),if_neg (by decide),if_pos (.inr q4)]
   rw[hs]
   refine bf (r:=65533) (aa aI (iU s) ?_)
   simp only[jq,dG,bu,aA.ok,hn0,eT,bT,acN,firstAt,isInt,aq,ac7,pn,acS,false_implies,true_implies,true_and,and_true,e0,e1,e2,e3,e4,hi1,hi2]
   first | rfl | exact⟨rfl,rfl⟩ | exact⟨rfl,rfl,rfl⟩
 have e4:decide (191<(bK s 2:Int))=false:=decide_eq_false (by omega)
 have MO:aM 3 s.data.toList.length=true:=hin 3 (by omega)
 by_cases q5:bK s 3<128
 · have e5:decide ((bK s 3:Int)<128)=true:=decide_eq_true (by omega)
   have hs:dN s 4 128 143=(65533,1):=by unfold dN adi;rw[if_neg q0,if_neg (not_or.2 ⟨q1,q2⟩),if_neg (by decide),if_neg (not_or.2 ⟨q3,q4⟩),if_neg (by decide),if_pos (.inl q5)]
   rw[hs]
   refine bf (r:=65533) (aa aI (iU s) ?_)
   simp only[jq,dG,bu,aA.ok,hn0,eT,bT,acN,firstAt,isInt,aq,ac7,pn,acS,false_implies,true_implies,true_and,and_true,e0,e1,e2,e3,e4,e5,hi1,hi2,MO]
   first | rfl | exact⟨rfl,rfl⟩ | exact⟨rfl,rfl,rfl⟩
 have e5:decide ((bK s 3:Int)<128)=false:=decide_eq_false (by omega)
 by_cases q6:191<bK s 3
 · have e6:decide (191<(bK s 3:Int))=true:=decide_eq_true (by omega)
   have hs:dN s 4 128 143=(65533,1):=by unfold dN adi;rw[if_neg q0,if_neg (not_or.2 ⟨q1,q2⟩),if_neg (by decide),if_neg (not_or.2 ⟨q3,q4⟩),if_neg (by decide),if_pos (.inr q6)]
   rw[hs]
   refine bf (r:=65533) (aa aI (iU s) ?_)
   simp only[jq,dG,bu,aA.ok,hn0,eT,bT,acN,firstAt,isInt,aq,ac7,pn,acS,false_implies,true_implies,true_and,and_true,e0,e1,e2,e3,e4,e5,e6,hi1,hi2,MO]
   first | rfl | exact⟨rfl,rfl⟩ | exact⟨rfl,rfl,rfl⟩
 have e6:decide (191<(bK s 3:Int))=false:=decide_eq_false (by omega)
 have hs:dN s 4 128 143=(bK s 0%8*262144+bK s 1%64*4096+bK s 2%64*64+bK s 3%64,4):=by unfold dN adi;rw[if_neg q0,if_neg (not_or.2 ⟨q1,q2⟩),if_neg (by decide),if_neg (not_or.2 ⟨q3,q4⟩),if_neg (by decide),if_neg (not_or.2 ⟨q5,q6⟩)]
 rw[hs]
 refine bf (r:=(acR.wrap (↑(dk 32 (acR.wrap (↑(dk 32 (acR.wrap (↑(dk 32 (acR.wrap (acR.wrap (acQ.wrap (↑(dk 8 (↑(s.data.toList.getD 0 0).toNat:Int)&&&dk 8 7).toNat:Int))*262144))|||dk 32 (acR.wrap (acR.wrap (acQ.wrap (↑(dk 8 (↑(s.data.toList.getD 1 0).toNat:Int)&&&dk 8 63).toNat:Int))*4096))).toNat:Int))|||dk 32 (acR.wrap (acR.wrap (acQ.wrap (↑(dk 8 (↑(s.data.toList.getD 2 0).toNat:Int)&&&dk 8 63).toNat:Int))*64))).toNat:Int))|||dk 32 (acR.wrap (acQ.wrap (↑(dk 8 (↑(s.data.toList.getD 3 0).toNat:Int)&&&dk 8 63).toNat:Int)))).toNat:Int))) (aa aI (iU s) ?_)
 simp only[jq,dG,bu,aA.ok,hn0,eT,bT,acN,firstAt,isInt,aq,ac7,pn,acS,false_implies,true_implies,true_and,and_true,e0,e1,e2,e3,e4,e5,e6,hi1,hi2,MO]
 first | rfl | exact⟨rfl,rfl⟩ | exact⟨rfl,rfl,rfl⟩
theorem MR (n b0 b1 b2 b3:Nat) (h:128≤b0∧b0<194∨245≤b0∧b0<256):(adj n b0 b1 b2 b3).2=1:=by
 unfold adj
 repeat' split
 all_goals first | rfl | omega
abbrev Fw:Nat×Nat:=adj s.data.toList.length (bK s 0) (bK s 1) (bK s 2) (bK s 3)
theorem IF (h0:0<s.data.toList.length) (hb:128≤bK s 0):au ae env 126 [.p (.sc (.string s))] [] (.aK [.aT,sI .i64 ((Fw s).2:Nat)]) []:=by
 have a0:=Bl s 0
 have a1:=Bl s 1
 have a2:=Bl s 2
 have a3:=Bl s 3
 by_cases cB:128≤bK s 0∧bK s 0<194∨245≤bK s 0∧bK s 0<256
 · rw[Fw,MR _ _ _ _ _ cB];exact MI s h0 cB
 by_cases cC:194≤bK s 0∧bK s 0<224
 · rw[Fw,←Lib.slow_C2 _ _ _ _ _ h0 a1 a2 a3 cC];exact MJ s h0 cC
 by_cases cD:bK s 0=224
 · rw[Fw,←Lib.slow_E0 _ _ _ _ _ h0 a1 a2 a3 cD];exact MK s h0 cD
 by_cases cE:225≤bK s 0∧bK s 0<237∨238≤bK s 0∧bK s 0<240
 · rw[Fw,←Lib.slow_E1 _ _ _ _ _ h0 a1 a2 a3 cE];exact ML s h0 cE
 by_cases cF:bK s 0=237
 · rw[Fw,←Lib.slow_ED _ _ _ _ _ h0 a1 a2 a3 cF];exact MM s h0 cF
 by_cases cG:bK s 0=240
 · rw[Fw,←Lib.slow_F0 _ _ _ _ _ h0 a1 a2 a3 cG];exact MN s h0 cG
 by_cases cH:241≤bK s 0∧bK s 0<244
 · rw[Fw,←Lib.slow_F1 _ _ _ _ _ h0 a1 a2 a3 cH];exact MP s h0 cH
 · have cI:bK s 0=244:=by omega
   rw[Fw,←Lib.slow_F4 _ _ _ _ _ h0 a1 a2 a3 cI];exact MQ s h0 cI
theorem Fx (h0:0<s.data.toList.length):au ae env 114 [.p (.sc (.string s))] [] (.aK [.aT,sI .i64 ((Fw s).2:Nat)]) []:=by
 have he:(s.data.toList==(acP #[]).data.toList)=false:=by
  cases h:s.data.toList with
  |nil=>rw[h] at h0;cases h0
  |cons a r=>rfl
 have eT:aM 0 s.data.toList.length=true:=by simp only[aM,dp,decide_eq_true_eq];omega
 by_cases hb:bK s 0<128
 · have e:decide ((bK s 0:Int)<128)=true:=decide_eq_true (by omega)
   have hd:(Fw s).2=1:=by unfold Fw adj;rw[if_pos hb]
   rw[hd]
   refine bf (r:=acR.wrap (bK s 0:Nat)) (aa aI (De s 0) ?_)
   simp only[Bk,aA.ok,he,eT,e,pr,ac7,pn,acS,false_implies,true_implies,true_and,and_true]
   first | rfl | trivial
 · have e:decide ((bK s 0:Int)<128)=false:=decide_eq_false (by omega)
   refine aa aI (De s ((Fw s).2:Nat)) ?_
   simp only[Bk,aA.ok,he,eT,e,pr,ac7,pn,acS,false_implies,true_implies,true_and,and_true]
   exact IF s h0 (by omega)
end
theorem PG (s:ByteArray) (i:Nat):1≤(adh s i).2:=by
 rw[adk]
 unfold adj
 repeat' split
 all_goals simp
theorem l8 (s:ByteArray) (i:Nat):(s.extract i s.data.toList.length).data.toList=s.data.toList.drop i:=by
 simp only[ByteArray.data_extract,Array.toList_extract,List.extract_eq_take_drop]
 rw[List.take_of_length_le]
 rw[en]
 exact Nat.le_refl _
theorem MS (s:ByteArray) (j:Nat):s.get! j=s.data.toList.getD j 0:=by
 obtain⟨d⟩:=s
 show d[j]! = d.toList.getD j 0
 rw[Array.getElem!_eq_getD,di,Array.getElem?_toList]
 by_cases h:j<d.size
 · simp[Array.getD,h]
 · simp[Array.getD,h];rfl
theorem MT (s:ByteArray) (i:Nat):Fw (s.extract i s.data.toList.length)=adh s i:=by
 have g : ∀j,(s.get! (i+j)).toNat=bK (s.extract i s.data.toList.length) j:=fun j=>by
  rw[MS,bK,l8,di,di,List.getElem?_drop]
 have g0:=g 0
 rw[Nat.add_zero] at g0
 rw[adk,Fw,g0,g 1,g 2,g 3,l8,en]
 rfl
def MU (s:ByteArray):Nat→Nat→Int
 |0,_=> -1
 |k+1,i=>if i<s.size then(if(adh s i).1=65533∧(adh s i).2=1 then i else MU s k (i+(adh s i).2)) else -1
def Dg (s:ByteArray):Int:=MU s (s.size+1) 0
noncomputable abbrev tA (s:ByteArray) (k:dV):cg:=af ae env 74 0 [.p (.sc (.string s)),.mp 0 0] [.ob k []] 0 28
theorem UH (s:ByteArray) (i:Nat):(tA s (.iter s i)).st.mem=[.ob (.iter s i) []]:=by kernel_rfl
theorem PI (s:ByteArray) (i:Nat):rN (tA s (.iter s i))=true:=by kernel_rfl
theorem PJ (s:ByteArray) (i:Nat) (b:Bool):({tA s (.iter s i) with st:={(tA s (.iter s i)).st with mem:=[.ob (.N2 s i b) []]}}:cg)=tA s (.N2 s i b):=by kernel_rfl
theorem G0 (s:ByteArray) (i:Nat) (o:Out) (h:bD ae env (tA s (.N2 s i (cf i s.size))) o):bD ae env (tA s (.iter s i)) o:=by
 rw[←PJ] at h
 have e1:=UH s i
 have e2:=PI s i
 generalize tA s (.iter s i)=c at h e1 e2 ⊢
 exact Go.Am.bD.more e1 e2 h
theorem PK (s:ByteArray) (hs:s.size≤maxLen) : ∀(k i:Nat),s.size+1≤i+k →
  bD ae env (af ae env 74 0 [.p (.sc (.string s)),.mp 0 0] [.ob (.iter s i) []] 0 28) (.ret (sI .i64 (MU s k i)) []):=by
 intro k
 induction k with
 |zero=>
  intro i hi
  refine G0 s i _ ?_
  have hb:cf i s.size=false:=by cases h:cf i s.size with | false=>rfl | true=>rw[hC] at h;omega
  rw[hb]
  exact ah aI (Df s i 0) rfl
 |succ k ih=>
  intro i hi
  refine G0 s i _ ?_
  by_cases hlt:i<s.size
  · have hb:cf i s.size=true:=by rw[hC];exact hlt
    have hp:=PG s i
    have hn:s.data.toList.length=s.size:=Array.length_toList
    have hc:=Fx (s.extract i s.data.toList.length) (by rw[l8,en];omega)
    rw[MT] at hc
    rw[hb]
    refine ah aI (MH s i ((adh s i).2:Nat)) ?_
    have next:=ih (i+(adh s i).2) (by omega)
    simp only[GY,bu,aA.ok,acN,MU,if_pos hlt]
    refine⟨fun q=> ?_,fun q=>⟨?_,hc,fun r=> ?_,fun r=> ?_⟩⟩
    · have q:(adh s i).1≠65533:=fun h=>by rw[h] at q;exact absurd q (by decide)
      rw[if_neg (fun h=>q h.1)]
      exact next
    · simp only[ac7,dp,Nat.ble_eq];omega
    · have q:(adh s i).1=65533:=by simp only[bne_eq_false_iff_eq] at q;omega
      have r:(adh s i).2=1:=by simp only[beq_iff_eq] at r;omega
      rw[if_pos ⟨q,r⟩]
    · have r:(adh s i).2≠1:=fun h=>by rw[h] at r;exact absurd r (by decide)
      rw[if_neg (fun h=>r h.2)]
      exact next
  · have hb:cf i s.size=false:=by cases h:cf i s.size with | false=>rfl | true=>rw[hC] at h;omega
    rw[hb]
    refine ah aI (Df s i 0) ?_
    simp only[GZ,aA.ok,MU,if_neg hlt]
theorem Bm (s:ByteArray):acP ((s.data.toList.map hH).map Am.byteOf).toArray=s:=by
 have h:(Am.byteOf ∘ hH)=id:=funext fun b=>by
  show UInt8.ofNat ((b.toNat:Int)).toNat=b
  simp
 rw[List.map_map,h,List.map_id]
theorem MV (l:List UInt8):(l.map hH).all isByte=true:=by
 rw[List.all_map,List.all_eq_true]
 intro b _
 rfl
theorem zL (s:ByteArray) (hs:s.size≤maxLen):au ae env 74 [.p (.ps s.data.toList.length 1 (s.data.toList.map hH))] [] (sI .i64 (Dg s)) []:=by
 refine aa aI (MG s.data.toList.length (s.data.toList.map hH)) ?_
 simp only[GX,aA.ok,Bm]
 exact⟨by rw[MV];rfl,PK s hs (s.size+1) 0 (by omega)⟩
end Go.Proofs.YtncncijedmfpjaaGreatDoor.N
end
