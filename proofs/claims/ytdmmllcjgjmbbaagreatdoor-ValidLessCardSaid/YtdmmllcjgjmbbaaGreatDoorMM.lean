import Derived.Test.YtdmmllcjgjmbbaaGreatDoorMJ
import Derived.Test.YtdmmllcjgjmbbaaGreatDoorML
import Derived.Lib.DecodeN
open ByteArray renaming mk→aeO
open Go.IntKind renaming i32→aeW,u8→aeX
open Go.Proofs.Tryz renaming prog→acb
open Go.Value renaming string→aeY
open BitVec renaming ofInt→cp
open List renaming range→ei,getD_eq_getElem?_getD→ch,mem_filter→aeZ,mem_range→QQ,getElem?_eq_getElem→cb,length_drop→dv,map→ab6
open Go.Utf8 renaming decode→ae0
open Go.Lib renaming slowN→ae1,decodeN→ae3,decode_at→ae4
open Nat renaming zero_add→pw,mul_one→aeR,blt→ar,blt_eq→ft
open Bool renaming false_eq_true→pb,true_eq_false→ae5,and_true→aeq,and_eq_true→c8,not_false→ph
open Int renaming toNat_natCast→acy
noncomputable section
section
set_option linter.unusedSimpArgs false
set_option linter.unusedVariables false
namespace Go.Proofs.YtdmmllcjgjmbbaaGreatDoor.N
open Go Go.Am
def b9:List PV:=iK.map fun z=> .sc (.int .u8 z)
def drC (s:ByteArray) (w:Int) (fn:FuncId) (_:List AV) (m:Mem):Option (AV×Mem):=cond (Nat.beq fn 126) (some (.au [.ah,sI .i64 w],m)) none
def adN (s:ByteArray):FuncId→Nat→Nat→Option (AV→AV):=cM [(126,6,2,sI .u8 241)]
def adO (s:ByteArray):FuncId→Nat→Nat→Option (AV→AV):=cM [(126,6,2,sI .u8 2)]
def adP (s:ByteArray):FuncId→Nat→Nat→Option (AV→AV):=cM [(126,6,2,sI .u8 19)]
def adQ (s:ByteArray):FuncId→Nat→Nat→Option (AV→AV):=cM [(126,6,2,sI .u8 3)]
def adR (s:ByteArray):FuncId→Nat→Nat→Option (AV→AV):=cM [(126,6,2,sI .u8 35)]
def adS (s:ByteArray):FuncId→Nat→Nat→Option (AV→AV):=cM [(126,6,2,sI .u8 52)]
def adT (s:ByteArray):FuncId→Nat→Nat→Option (AV→AV):=cM [(126,6,2,sI .u8 4)]
def adU (s:ByteArray):FuncId→Nat→Nat→Option (AV→AV):=cM [(126,6,2,sI .u8 68)]
def blC (s:ByteArray) (i:Nat) (w:Int) (fn:FuncId) (_:List AV) (m:Mem):Option (AV×Mem):=cond (Nat.beq fn 111) (some (.au [.ah,sI .i64 w],m)) none
def Wu (s:ByteArray) (w:Int):bH:=aT (drC s w) aA [] [(111,2,3),(111,0,0)] [(111,2,4),(111,3,1)]
def aav:Sc:=(.fork .fin (.lit .fin))
def CG (s:ByteArray) (w:Int):az:=
 (.test (!s.data.toList==(aeO #[]).data.toList)
 (.must (aW 0 s.data.toList.length&&true)
 (.test (decide ((↑(s.data.toList.getD 0 0).toNat:Int)<128))
 (.must (aW 0 s.data.toList.length&&true)
 (.out (.ret (.au [sI .i32 (aeW.wrap (↑(s.data.toList.getD 0 0).toNat:Int)),sI .i64 1]) [])))
 (.call ⟨126,[.p (.sc (.string s))],[],.au [.ah,sI .i64 w],[]⟩
 (.out (.ret (.au [.ah,sI .i64 w]) [])))))
 (.call ⟨126,[.p (.sc (.string s))],[],.au [.ah,sI .i64 w],[]⟩
 (.out (.ret (.au [.ah,sI .i64 w]) []))))
theorem Ep (s:ByteArray) (w:Int):aG acb env (Wu s w) 1000000 111 ([AV.p (PV.sc (aeY s))]) ([]) aav=CG s w:=by kernel_rfl
def Wv (s:ByteArray):bH:=gx aH aA [] [(126,0,0)] [(126,5,1),(126,6,1),(126,6,2),(126,9,1)] (adN s)
def aaw:Sc:= .fin
def Is (s:ByteArray):az:=
 (.test (decide ((↑s.data.toList.length:Int)<1))
 (.out (.ret (.au [sI .i32 65533,sI .i64 0]) []))
 (.must (aW 0 s.data.toList.length&&true)
 (.must (aW (↑(s.data.toList.getD 0 0).toNat:Int) 256&&true)
 (.must (isInt aeX (aF b9 (0+(↑(s.data.toList.getD 0 0).toNat:Int).toNat*1))&&true)
 (.need (sI .u8 (av (aF b9 (0+(↑(s.data.toList.getD 0 0).toNat:Int).toNat*1)))=sI aeX 241)
 (.must (aW 0 s.data.toList.length&&true)
 (.out (.ret (.au [sI .i32 (aeW.wrap (↑(cp 32 (aeW.wrap (↑(cp 32 (aeW.wrap (↑(s.data.toList.getD 0 0).toNat:Int)) &&& ~~~cp 32 (-1)).toNat:Int))|||cp 32 65533).toNat:Int)),sI .i64 1]) []))))))))
theorem NX (s:ByteArray):aG acb env (Wv s) 1000000 126 ([AV.p (PV.sc (aeY s))]) ([]) aaw=Is s:=by kernel_rfl
def Ww (s:ByteArray):bH:=gx aH aA [] [(126,0,0),(126,0,2),(126,15,5),(126,0,3)] [(126,5,1),(126,6,1),(126,6,2),(126,14,1)] (adO s)
def aax:Sc:=(.fork .fin (.fork .fin (.fork (.lit .fin) .fin)))
def rY (s:ByteArray):az:=
 (.test (decide ((↑s.data.toList.length:Int)<1))
 (.out (.ret (.au [sI .i32 65533,sI .i64 0]) []))
 (.must (aW 0 s.data.toList.length&&true)
 (.must (aW (↑(s.data.toList.getD 0 0).toNat:Int) 256&&true)
 (.must (isInt aeX (aF b9 (0+(↑(s.data.toList.getD 0 0).toNat:Int).toNat*1))&&true)
 (.need (sI .u8 (av (aF b9 (0+(↑(s.data.toList.getD 0 0).toNat:Int).toNat*1)))=sI aeX 2)
 (.test (decide ((↑s.data.toList.length:Int)<2))
 (.out (.ret (.au [sI .i32 65533,sI .i64 1]) []))
 (.must (aW 1 s.data.toList.length&&true)
 (.test (decide ((↑(s.data.toList.getD 1 0).toNat:Int)<128))
 (.out (.ret (.au [sI .i32 65533,sI .i64 1]) []))
 (.test (decide (191<(↑(s.data.toList.getD 1 0).toNat:Int)))
 (.out (.ret (.au [sI .i32 65533,sI .i64 1]) []))
 (.out (.ret (.au [sI .i32 (aeW.wrap (↑(cp 32 (aeW.wrap (aeW.wrap (aeX.wrap (↑(cp 8 (↑(s.data.toList.getD 0 0).toNat:Int)&&&cp 8 31).toNat:Int))*64))|||cp 32 (aeW.wrap (aeX.wrap (↑(cp 8 (↑(s.data.toList.getD 1 0).toNat:Int)&&&cp 8 63).toNat:Int)))).toNat:Int)),sI .i64 2]) [])))))))))))
theorem rZ (s:ByteArray):aG acb env (Ww s) 1000000 126 ([AV.p (PV.sc (aeY s))]) ([]) aax=rY s:=by kernel_rfl
def Wx (s:ByteArray):bH:=gx aH aA [] [(126,0,0),(126,0,2),(126,15,5),(126,0,3),(126,20,3),(126,0,5)] [(126,5,1),(126,6,1),(126,6,2),(126,14,1),(126,19,1)] (adP s)
def aay:Sc:=(.fork .fin (.fork .fin (.fork (.lit .fin) (.fork .fin (.fork (.lit .fin) .fin)))))
def eP:az:=
 (.out (.ret (.au [sI .i32 65533,sI .i64 1]) []))
def mP (s:ByteArray):az:=
 (.test (decide ((↑s.data.toList.length:Int)<1))
 (.out (.ret (.au [sI .i32 65533,sI .i64 0]) []))
 (.must (aW 0 s.data.toList.length&&true)
 (.must (aW (↑(s.data.toList.getD 0 0).toNat:Int) 256&&true)
 (.must (isInt aeX (aF b9 (0+(↑(s.data.toList.getD 0 0).toNat:Int).toNat*1))&&true)
 (.need (sI .u8 (av (aF b9 (0+(↑(s.data.toList.getD 0 0).toNat:Int).toNat*1)))=sI aeX 19)
 (.test (decide ((↑s.data.toList.length:Int)<3))
 (eP)
 (.must (aW 1 s.data.toList.length&&true)
 (.test (decide ((↑(s.data.toList.getD 1 0).toNat:Int)<160))
 (eP)
 (.test (decide (191<(↑(s.data.toList.getD 1 0).toNat:Int)))
 (eP)
 (.must (aW 2 s.data.toList.length&&true)
 (.test (decide ((↑(s.data.toList.getD 2 0).toNat:Int)<128))
 (eP)
 (.test (decide (191<(↑(s.data.toList.getD 2 0).toNat:Int)))
 (eP)
 (.out (.ret (.au [sI .i32 (aeW.wrap (↑(cp 32 (aeW.wrap (↑(cp 32 (aeW.wrap (aeW.wrap (aeX.wrap (↑(cp 8 (↑(s.data.toList.getD 0 0).toNat:Int)&&&cp 8 15).toNat:Int))*4096))|||cp 32 (aeW.wrap (aeW.wrap (aeX.wrap (↑(cp 8 (↑(s.data.toList.getD 1 0).toNat:Int)&&&cp 8 63).toNat:Int))*64))).toNat:Int))|||cp 32 (aeW.wrap (aeX.wrap (↑(cp 8 (↑(s.data.toList.getD 2 0).toNat:Int)&&&cp 8 63).toNat:Int)))).toNat:Int)),sI .i64 3]) []))))))))))))))
theorem lS (s:ByteArray):aG acb env (Wx s) 1000000 126 ([AV.p (PV.sc (aeY s))]) ([]) aay=mP s:=by kernel_rfl
def Wy (s:ByteArray):bH:=gx aH aA [] [(126,0,0),(126,0,2),(126,15,5),(126,0,3),(126,20,3),(126,0,5)] [(126,5,1),(126,6,1),(126,6,2),(126,14,1),(126,19,1)] (adQ s)
def aaz:Sc:=(.fork .fin (.fork .fin (.fork (.lit .fin) (.fork .fin (.fork (.lit .fin) .fin)))))
def eR:az:=
 (.out (.ret (.au [sI .i32 65533,sI .i64 1]) []))
def mQ (s:ByteArray):az:=
 (.test (decide ((↑s.data.toList.length:Int)<1))
 (.out (.ret (.au [sI .i32 65533,sI .i64 0]) []))
 (.must (aW 0 s.data.toList.length&&true)
 (.must (aW (↑(s.data.toList.getD 0 0).toNat:Int) 256&&true)
 (.must (isInt aeX (aF b9 (0+(↑(s.data.toList.getD 0 0).toNat:Int).toNat*1))&&true)
 (.need (sI .u8 (av (aF b9 (0+(↑(s.data.toList.getD 0 0).toNat:Int).toNat*1)))=sI aeX 3)
 (.test (decide ((↑s.data.toList.length:Int)<3))
 (eR)
 (.must (aW 1 s.data.toList.length&&true)
 (.test (decide ((↑(s.data.toList.getD 1 0).toNat:Int)<128))
 (eR)
 (.test (decide (191<(↑(s.data.toList.getD 1 0).toNat:Int)))
 (eR)
 (.must (aW 2 s.data.toList.length&&true)
 (.test (decide ((↑(s.data.toList.getD 2 0).toNat:Int)<128))
 (eR)
 (.test (decide (191<(↑(s.data.toList.getD 2 0).toNat:Int)))
 (eR)
 (.out (.ret (.au [sI .i32 (aeW.wrap (↑(cp 32 (aeW.wrap (↑(cp 32 (aeW.wrap (aeW.wrap (aeX.wrap (↑(cp 8 (↑(s.data.toList.getD 0 0).toNat:Int)&&&cp 8 15).toNat:Int))*4096))|||cp 32 (aeW.wrap (aeW.wrap (aeX.wrap (↑(cp 8 (↑(s.data.toList.getD 1 0).toNat:Int)&&&cp 8 63).toNat:Int))*64))).toNat:Int))|||cp 32 (aeW.wrap (aeX.wrap (↑(cp 8 (↑(s.data.toList.getD 2 0).toNat:Int)&&&cp 8 63).toNat:Int)))).toNat:Int)),sI .i64 3]) []))))))))))))))
theorem lT (s:ByteArray):aG acb env (Wy s) 1000000 126 ([AV.p (PV.sc (aeY s))]) ([]) aaz=mQ s:=by kernel_rfl
def Wz (s:ByteArray):bH:=gx aH aA [] [(126,0,0),(126,0,2),(126,15,5),(126,0,3),(126,20,3),(126,0,5)] [(126,5,1),(126,6,1),(126,6,2),(126,14,1),(126,19,1)] (adR s)
def aaA:Sc:=(.fork .fin (.fork .fin (.fork (.lit .fin) (.fork .fin (.fork (.lit .fin) .fin)))))
def eS:az:=
 (.out (.ret (.au [sI .i32 65533,sI .i64 1]) []))
def mR (s:ByteArray):az:=
 (.test (decide ((↑s.data.toList.length:Int)<1))
 (.out (.ret (.au [sI .i32 65533,sI .i64 0]) []))
 (.must (aW 0 s.data.toList.length&&true)
 (.must (aW (↑(s.data.toList.getD 0 0).toNat:Int) 256&&true)
 (.must (isInt aeX (aF b9 (0+(↑(s.data.toList.getD 0 0).toNat:Int).toNat*1))&&true)
 (.need (sI .u8 (av (aF b9 (0+(↑(s.data.toList.getD 0 0).toNat:Int).toNat*1)))=sI aeX 35)
 (.test (decide ((↑s.data.toList.length:Int)<3))
 (eS)
 (.must (aW 1 s.data.toList.length&&true)
 (.test (decide ((↑(s.data.toList.getD 1 0).toNat:Int)<128))
 (eS)
 (.test (decide (159<(↑(s.data.toList.getD 1 0).toNat:Int)))
 (eS)
 (.must (aW 2 s.data.toList.length&&true)
 (.test (decide ((↑(s.data.toList.getD 2 0).toNat:Int)<128))
 (eS)
 (.test (decide (191<(↑(s.data.toList.getD 2 0).toNat:Int)))
 (eS)
 (.out (.ret (.au [sI .i32 (aeW.wrap (↑(cp 32 (aeW.wrap (↑(cp 32 (aeW.wrap (aeW.wrap (aeX.wrap (↑(cp 8 (↑(s.data.toList.getD 0 0).toNat:Int)&&&cp 8 15).toNat:Int))*4096))|||cp 32 (aeW.wrap (aeW.wrap (aeX.wrap (↑(cp 8 (↑(s.data.toList.getD 1 0).toNat:Int)&&&cp 8 63).toNat:Int))*64))).toNat:Int))|||cp 32 (aeW.wrap (aeX.wrap (↑(cp 8 (↑(s.data.toList.getD 2 0).toNat:Int)&&&cp 8 63).toNat:Int)))).toNat:Int)),sI .i64 3]) []))))))))))))))
theorem lU (s:ByteArray):aG acb env (Wz s) 1000000 126 ([AV.p (PV.sc (aeY s))]) ([]) aaA=mR s:=by kernel_rfl
def WA (s:ByteArray):bH:=gx aH aA [] [(126,0,0),(126,0,2),(126,15,5),(126,0,3),(126,20,3),(126,0,5),(126,25,3),(126,0,7)] [(126,5,1),(126,6,1),(126,6,2),(126,14,1),(126,19,1),(126,24,1)] (adS s)
def aaB:Sc:=(.fork .fin (.fork .fin (.fork (.lit .fin) (.fork .fin (.fork (.lit .fin) (.fork .fin (.fork (.lit .fin) .fin)))))))
def dr:az:=
 (.out (.ret (.au [sI .i32 65533,sI .i64 1]) []))
def jD (s:ByteArray):az:=
 (.test (decide ((↑s.data.toList.length:Int)<1))
 (.out (.ret (.au [sI .i32 65533,sI .i64 0]) []))
 (.must (aW 0 s.data.toList.length&&true)
 (.must (aW (↑(s.data.toList.getD 0 0).toNat:Int) 256&&true)
 (.must (isInt aeX (aF b9 (0+(↑(s.data.toList.getD 0 0).toNat:Int).toNat*1))&&true)
 (.need (sI .u8 (av (aF b9 (0+(↑(s.data.toList.getD 0 0).toNat:Int).toNat*1)))=sI aeX 52)
 (.test (decide ((↑s.data.toList.length:Int)<4))
 (dr)
 (.must (aW 1 s.data.toList.length&&true)
 (.test (decide ((↑(s.data.toList.getD 1 0).toNat:Int)<144))
 (dr)
 (.test (decide (191<(↑(s.data.toList.getD 1 0).toNat:Int)))
 (dr)
 (.must (aW 2 s.data.toList.length&&true)
 (.test (decide ((↑(s.data.toList.getD 2 0).toNat:Int)<128))
 (dr)
 (.test (decide (191<(↑(s.data.toList.getD 2 0).toNat:Int)))
 (dr)
 (.must (aW 3 s.data.toList.length&&true)
 (.test (decide ((↑(s.data.toList.getD 3 0).toNat:Int)<128))
 (dr)
 (.test (decide (191<(↑(s.data.toList.getD 3 0).toNat:Int)))
 (dr)
 (.out (.ret (.au [sI .i32 (aeW.wrap (↑(cp 32 (aeW.wrap (↑(cp 32 (aeW.wrap (↑(cp 32 (aeW.wrap (aeW.wrap (aeX.wrap (↑(cp 8 (↑(s.data.toList.getD 0 0).toNat:Int)&&&cp 8 7).toNat:Int))*262144))|||cp 32 (aeW.wrap (aeW.wrap (aeX.wrap (↑(cp 8 (↑(s.data.toList.getD 1 0).toNat:Int)&&&cp 8 63).toNat:Int))*4096))).toNat:Int))|||cp 32 (aeW.wrap (aeW.wrap (aeX.wrap (↑(cp 8 (↑(s.data.toList.getD 2 0).toNat:Int)&&&cp 8 63).toNat:Int))*64))).toNat:Int))|||cp 32 (aeW.wrap (aeX.wrap (↑(cp 8 (↑(s.data.toList.getD 3 0).toNat:Int)&&&cp 8 63).toNat:Int)))).toNat:Int)),sI .i64 4]) [])))))))))))))))))
theorem je (s:ByteArray):aG acb env (WA s) 1000000 126 ([AV.p (PV.sc (aeY s))]) ([]) aaB=jD s:=by kernel_rfl
def WB (s:ByteArray):bH:=gx aH aA [] [(126,0,0),(126,0,2),(126,15,5),(126,0,3),(126,20,3),(126,0,5),(126,25,3),(126,0,7)] [(126,5,1),(126,6,1),(126,6,2),(126,14,1),(126,19,1),(126,24,1)] (adT s)
def aaC:Sc:=(.fork .fin (.fork .fin (.fork (.lit .fin) (.fork .fin (.fork (.lit .fin) (.fork .fin (.fork (.lit .fin) .fin)))))))
def dw:az:=
 (.out (.ret (.au [sI .i32 65533,sI .i64 1]) []))
def jE (s:ByteArray):az:=
 (.test (decide ((↑s.data.toList.length:Int)<1))
 (.out (.ret (.au [sI .i32 65533,sI .i64 0]) []))
 (.must (aW 0 s.data.toList.length&&true)
 (.must (aW (↑(s.data.toList.getD 0 0).toNat:Int) 256&&true)
 (.must (isInt aeX (aF b9 (0+(↑(s.data.toList.getD 0 0).toNat:Int).toNat*1))&&true)
 (.need (sI .u8 (av (aF b9 (0+(↑(s.data.toList.getD 0 0).toNat:Int).toNat*1)))=sI aeX 4)
 (.test (decide ((↑s.data.toList.length:Int)<4))
 (dw)
 (.must (aW 1 s.data.toList.length&&true)
 (.test (decide ((↑(s.data.toList.getD 1 0).toNat:Int)<128))
 (dw)
 (.test (decide (191<(↑(s.data.toList.getD 1 0).toNat:Int)))
 (dw)
 (.must (aW 2 s.data.toList.length&&true)
 (.test (decide ((↑(s.data.toList.getD 2 0).toNat:Int)<128))
 (dw)
 (.test (decide (191<(↑(s.data.toList.getD 2 0).toNat:Int)))
 (dw)
 (.must (aW 3 s.data.toList.length&&true)
 (.test (decide ((↑(s.data.toList.getD 3 0).toNat:Int)<128))
 (dw)
 (.test (decide (191<(↑(s.data.toList.getD 3 0).toNat:Int)))
 (dw)
 (.out (.ret (.au [sI .i32 (aeW.wrap (↑(cp 32 (aeW.wrap (↑(cp 32 (aeW.wrap (↑(cp 32 (aeW.wrap (aeW.wrap (aeX.wrap (↑(cp 8 (↑(s.data.toList.getD 0 0).toNat:Int)&&&cp 8 7).toNat:Int))*262144))|||cp 32 (aeW.wrap (aeW.wrap (aeX.wrap (↑(cp 8 (↑(s.data.toList.getD 1 0).toNat:Int)&&&cp 8 63).toNat:Int))*4096))).toNat:Int))|||cp 32 (aeW.wrap (aeW.wrap (aeX.wrap (↑(cp 8 (↑(s.data.toList.getD 2 0).toNat:Int)&&&cp 8 63).toNat:Int))*64))).toNat:Int))|||cp 32 (aeW.wrap (aeX.wrap (↑(cp 8 (↑(s.data.toList.getD 3 0).toNat:Int)&&&cp 8 63).toNat:Int)))).toNat:Int)),sI .i64 4]) [])))))))))))))))))
theorem jf (s:ByteArray):aG acb env (WB s) 1000000 126 ([AV.p (PV.sc (aeY s))]) ([]) aaC=jE s:=by kernel_rfl
def WC (s:ByteArray):bH:=gx aH aA [] [(126,0,0),(126,0,2),(126,15,5),(126,0,3),(126,20,3),(126,0,5),(126,25,3),(126,0,7)] [(126,5,1),(126,6,1),(126,6,2),(126,14,1),(126,19,1),(126,24,1)] (adU s)
def aaD:Sc:=(.fork .fin (.fork .fin (.fork (.lit .fin) (.fork .fin (.fork (.lit .fin) (.fork .fin (.fork (.lit .fin) .fin)))))))
def dx:az:=
 (.out (.ret (.au [sI .i32 65533,sI .i64 1]) []))
def jF (s:ByteArray):az:=
 (.test (decide ((↑s.data.toList.length:Int)<1))
 (.out (.ret (.au [sI .i32 65533,sI .i64 0]) []))
 (.must (aW 0 s.data.toList.length&&true)
 (.must (aW (↑(s.data.toList.getD 0 0).toNat:Int) 256&&true)
 (.must (isInt aeX (aF b9 (0+(↑(s.data.toList.getD 0 0).toNat:Int).toNat*1))&&true)
 (.need (sI .u8 (av (aF b9 (0+(↑(s.data.toList.getD 0 0).toNat:Int).toNat*1)))=sI aeX 68)
 (.test (decide ((↑s.data.toList.length:Int)<4))
 (dx)
 (.must (aW 1 s.data.toList.length&&true)
 (.test (decide ((↑(s.data.toList.getD 1 0).toNat:Int)<128))
 (dx)
 (.test (decide (143<(↑(s.data.toList.getD 1 0).toNat:Int)))
 (dx)
 (.must (aW 2 s.data.toList.length&&true)
 (.test (decide ((↑(s.data.toList.getD 2 0).toNat:Int)<128))
 (dx)
 (.test (decide (191<(↑(s.data.toList.getD 2 0).toNat:Int)))
 (dx)
 (.must (aW 3 s.data.toList.length&&true)
 (.test (decide ((↑(s.data.toList.getD 3 0).toNat:Int)<128))
 (dx)
 (.test (decide (191<(↑(s.data.toList.getD 3 0).toNat:Int)))
 (dx)
 (.out (.ret (.au [sI .i32 (aeW.wrap (↑(cp 32 (aeW.wrap (↑(cp 32 (aeW.wrap (↑(cp 32 (aeW.wrap (aeW.wrap (aeX.wrap (↑(cp 8 (↑(s.data.toList.getD 0 0).toNat:Int)&&&cp 8 7).toNat:Int))*262144))|||cp 32 (aeW.wrap (aeW.wrap (aeX.wrap (↑(cp 8 (↑(s.data.toList.getD 1 0).toNat:Int)&&&cp 8 63).toNat:Int))*4096))).toNat:Int))|||cp 32 (aeW.wrap (aeW.wrap (aeX.wrap (↑(cp 8 (↑(s.data.toList.getD 2 0).toNat:Int)&&&cp 8 63).toNat:Int))*64))).toNat:Int))|||cp 32 (aeW.wrap (aeX.wrap (↑(cp 8 (↑(s.data.toList.getD 3 0).toNat:Int)&&&cp 8 63).toNat:Int)))).toNat:Int)),sI .i64 4]) [])))))))))))))))))
theorem jg (s:ByteArray):aG acb env (WC s) 1000000 126 ([AV.p (PV.sc (aeY s))]) ([]) aaD=jF s:=by kernel_rfl
def WD:bH:=aT aH aA [(67,0)] [] [(67,2,1)]
def aaE:Sc:= .fin
def Iu (n:Nat) (l:List PV):az:=
 (.must (l.all isByte&&true)
 (.at (ak acb env 67 0 [.p (.sc (.string (aeO (ab6 Am.byteOf l).toArray))),.mp 0 0] ([.ob (aD.iter (aeO (ab6 Am.byteOf l).toArray) 0) []]) 0 28)))
theorem NY (n:Nat) (l:List PV):aG acb env WD 1000000 67 ([AV.p (PV.ps n 1 l)]) ([]) aaE=Iu n l:=by kernel_rfl
def WE (s:ByteArray) (i:Nat) (w:Int):bH:=aT (blC s i w) aA [(67,0)] [(67,0,2),(67,0,3)] [(67,7,2)]
def aaF:Sc:= .fin
def Iv (s:ByteArray) (i:Nat) (w:Int):az:=
 (.test ((↑(ae0 s i).fst:Int) != 65533)
 (.at (ak acb env 67 0 [.p (.sc (.string s)),.mp 0 0] ([.ob (aD.iter s (i+(ae0 s i).snd)) []]) 0 28))
 (.must ((aJ i).ble s.data.toList.length&&s.data.toList.length.ble s.data.toList.length&&true)
 (.call ⟨111,[.p (.sc (.string (s.extract (aJ i) s.data.toList.length)))],[],.au [.ah,sI .i64 w],[]⟩
 (.test (w==1)
 (.out (.ret (sI .i64 (↑i:Int)) []))
 (.at (ak acb env 67 0 [.p (.sc (.string s)),.mp 0 0] ([.ob (aD.iter s (i+(ae0 s i).snd)) []]) 0 28))))))
theorem NZ (s:ByteArray) (i:Nat) (w:Int):grow acb env (WE s i w) 1000000 true (ak acb env 67 0 ([AV.p (PV.sc (aeY s)),AV.mp 0 0]) ([aU.ob (aD.P6 s i true) []]) 0 28) aaF atEnd=Iv s i w:=by kernel_rfl
def WG (s:ByteArray) (i:Nat) (w:Int):bH:=aT (blC s i w) aA [(67,0)] [] []
def aaG:Sc:= .fin
def Iw (s:ByteArray) (i:Nat) (w:Int):az:=
 (.out (.ret (sI .i64 (-1)) []))
theorem Er (s:ByteArray) (i:Nat) (w:Int):grow acb env (WG s i w) 1000000 true (ak acb env 67 0 ([AV.p (PV.sc (aeY s)),AV.mp 0 0]) ([aU.ob (aD.P6 s i false) []]) 0 28) aaG atEnd=Iw s i w:=by kernel_rfl
theorem aY {f:FuncId} {args:List AV} {r w:Int} (h:an acb env f args [] (.au [sI .i32 r,sI .i64 w]) []):an acb env f args [] (.au [.ah,sI .i64 w]) []:=
 h.weak fun g wd cv q=>by
   cases q with
   |au _ cs hl hc=>
    have hv:cL g wd [sI .i32 r,sI .i64 w] cs.toList:=bu.dA hl hc
    refine VA.lF.2 ?_
    generalize cs.toList=vs at hv
    match vs,hv with
    |[u,t],hv=>
     obtain⟨_,h2,_⟩:=hv
     cases h2 with
     |p _ _ h2=>cases h2 with
      |sc=>exact⟨.ah _,.p _ _ (.sc _),trivial⟩
theorem fL {b:Nat} (h:b<256):b9.getD b .bw = .sc (.int .u8 (iK.getD b 0)):=by
 have hl:iK.length=256:=by decide +kernel
 rw[b9,ch,List.getElem?_map,cb (by omega),ch,cb (by omega)]
 rfl
section
variable (s:ByteArray)
abbrev bE (j:Nat):Nat:=(s.data.toList.getD j 0).toNat
def dQ (sz lo hi:Nat):Nat×Nat:=ae1 s.data.toList.length (bE s 0) (bE s 1) (bE s 2) (bE s 3) sz lo hi
theorem CH (j:Nat):bE s j<256:=(s.data.toList.getD j 0).toNat_lt
theorem WH (b:Nat) (h:128≤b∧b<194∨245≤b∧b<256):b9.getD b .bw = .sc (.int .u8 241):=by
 have hb:b<256:=by omega
 have h:b∈(ei 256).filter (fun b=>decide (128≤b∧b<194∨245≤b∧b<256)):=aeZ.2 ⟨QQ.2 (by omega),decide_eq_true h⟩
 have hall : ∀b∈(ei 256).filter (fun b=>decide (128≤b∧b<194∨245≤b∧b<256)),iK.getD b 0=241:=by decide +kernel
 rw[fL hb,hall b h]
theorem N0 (h0:0<s.data.toList.length) (hb:128≤bE s 0∧bE s 0<194∨245≤bE s 0∧bE s 0<256):an acb env 126 [.p (.sc (.string s))] [] (.au [.ah,sI .i64 1]) []:=by
 have firstAt:b9.getD (0+(s.data.toList.getD 0 0).toNat*1) .bw = .sc (.int .u8 241):=by rw[pw,aeR];exact WH (bE s 0) hb
 have hn0:decide ((s.data.toList.length:Int)<1)=false:=decide_eq_false (by omega)
 have hin : ∀j:Nat,j<s.data.toList.length→aW (j:Int) s.data.toList.length=true:=fun j h=>by simp only[aW,c8,decide_eq_true_eq];omega
 have fj:aW 0 s.data.toList.length=true:=hin 0 h0
 have bO:aW (bE s 0:Int) 256=true:=by simp only[aW,c8,decide_eq_true_eq];omega
 refine aY (r:=(aeW.wrap (↑(cp 32 (aeW.wrap (↑(cp 32 (aeW.wrap (↑(s.data.toList.getD 0 0).toNat:Int)) &&& ~~~cp 32 (-1)).toNat:Int))|||cp 32 65533).toNat:Int))) (af aM (NX s) ?_)
 simp only[Is,bF,az.ok,hn0,fj,bO,acy,firstAt,isInt,av,aeq,pb,ae5,false_implies,true_implies,true_and,and_true]
 first | rfl | exact⟨rfl,rfl⟩ | exact⟨rfl,rfl,rfl⟩
theorem WI (b:Nat) (h:194≤b∧b<224):b9.getD b .bw = .sc (.int .u8 2):=by
 have hb:b<256:=by omega
 have h:b∈(ei 256).filter (fun b=>decide (194≤b∧b<224)):=aeZ.2 ⟨QQ.2 (by omega),decide_eq_true h⟩
 have hall : ∀b∈(ei 256).filter (fun b=>decide (194≤b∧b<224)),iK.getD b 0=2:=by decide +kernel
 rw[fL hb,hall b h]
theorem N1 (h0:0<s.data.toList.length) (hb:194≤bE s 0∧bE s 0<224):an acb env 126 [.p (.sc (.string s))] [] (.au [.ah,sI .i64 ((dQ s 2 128 191).2:Nat)]) []:=by
 have firstAt:b9.getD (0+(s.data.toList.getD 0 0).toNat*1) .bw = .sc (.int .u8 2):=by rw[pw,aeR];exact WI (bE s 0) hb
 have hn0:decide ((s.data.toList.length:Int)<1)=false:=decide_eq_false (by omega)
 have hin : ∀j:Nat,j<s.data.toList.length→aW (j:Int) s.data.toList.length=true:=fun j h=>by simp only[aW,c8,decide_eq_true_eq];omega
 have fj:aW 0 s.data.toList.length=true:=hin 0 h0
 have bO:aW (bE s 0:Int) 256=true:=by simp only[aW,c8,decide_eq_true_eq];omega
 by_cases q0:s.data.toList.length<2
 · have e0:decide ((s.data.toList.length:Int)<2)=true:=decide_eq_true (by omega)
   have hs:dQ s 2 128 191=(65533,1):=by unfold dQ ae1;rw[if_pos q0]
   rw[hs]
   refine aY (r:=65533) (af aM (rZ s) ?_)
   simp only[rY,bF,az.ok,hn0,fj,bO,acy,firstAt,isInt,av,aeq,pb,ae5,false_implies,true_implies,true_and,and_true,e0]
   first | rfl | exact⟨rfl,rfl⟩ | exact⟨rfl,rfl,rfl⟩
 have e0:decide ((s.data.toList.length:Int)<2)=false:=decide_eq_false (by omega)
 have hi1:aW 1 s.data.toList.length=true:=hin 1 (by omega)
 by_cases q1:bE s 1<128
 · have e1:decide ((bE s 1:Int)<128)=true:=decide_eq_true (by omega)
   have hs:dQ s 2 128 191=(65533,1):=by unfold dQ ae1;rw[if_neg q0,if_pos (.inl q1)]
   rw[hs]
   refine aY (r:=65533) (af aM (rZ s) ?_)
   simp only[rY,bF,az.ok,hn0,fj,bO,acy,firstAt,isInt,av,aeq,pb,ae5,false_implies,true_implies,true_and,and_true,e0,e1,hi1]
   first | rfl | exact⟨rfl,rfl⟩ | exact⟨rfl,rfl,rfl⟩
 have e1:decide ((bE s 1:Int)<128)=false:=decide_eq_false (by omega)
 by_cases q2:191<bE s 1
 · have e2:decide (191<(bE s 1:Int))=true:=decide_eq_true (by omega)
   have hs:dQ s 2 128 191=(65533,1):=by unfold dQ ae1;rw[if_neg q0,if_pos (.inr q2)]
   rw[hs]
   refine aY (r:=65533) (af aM (rZ s) ?_)
   simp only[rY,bF,az.ok,hn0,fj,bO,acy,firstAt,isInt,av,aeq,pb,ae5,false_implies,true_implies,true_and,and_true,e0,e1,e2,hi1]
   first | rfl | exact⟨rfl,rfl⟩ | exact⟨rfl,rfl,rfl⟩
 have e2:decide (191<(bE s 1:Int))=false:=decide_eq_false (by omega)
 have hs:dQ s 2 128 191=(bE s 0%32*64+bE s 1%64,2):=by unfold dQ ae1;rw[if_neg q0,if_neg (not_or.2 ⟨q1,q2⟩),if_pos (by decide)]
 rw[hs]
 refine aY (r:=(aeW.wrap (↑(cp 32 (aeW.wrap (aeW.wrap (aeX.wrap (↑(cp 8 (↑(s.data.toList.getD 0 0).toNat:Int)&&&cp 8 31).toNat:Int))*64))|||cp 32 (aeW.wrap (aeX.wrap (↑(cp 8 (↑(s.data.toList.getD 1 0).toNat:Int)&&&cp 8 63).toNat:Int)))).toNat:Int))) (af aM (rZ s) ?_)
 simp only[rY,bF,az.ok,hn0,fj,bO,acy,firstAt,isInt,av,aeq,pb,ae5,false_implies,true_implies,true_and,and_true,e0,e1,e2,hi1]
 first | rfl | exact⟨rfl,rfl⟩ | exact⟨rfl,rfl,rfl⟩
theorem WJ (b:Nat) (h:b=224):b9.getD b .bw = .sc (.int .u8 19):=by
 have hb:b<256:=by omega
 have h:b∈(ei 256).filter (fun b=>decide (b=224)):=aeZ.2 ⟨QQ.2 (by omega),decide_eq_true h⟩
 have hall : ∀b∈(ei 256).filter (fun b=>decide (b=224)),iK.getD b 0=19:=by decide +kernel
 rw[fL hb,hall b h]
theorem N2 (h0:0<s.data.toList.length) (hb:bE s 0=224):an acb env 126 [.p (.sc (.string s))] [] (.au [.ah,sI .i64 ((dQ s 3 160 191).2:Nat)]) []:=by
 have firstAt:b9.getD (0+(s.data.toList.getD 0 0).toNat*1) .bw = .sc (.int .u8 19):=by rw[pw,aeR];exact WJ (bE s 0) hb
 have hn0:decide ((s.data.toList.length:Int)<1)=false:=decide_eq_false (by omega)
 have hin : ∀j:Nat,j<s.data.toList.length→aW (j:Int) s.data.toList.length=true:=fun j h=>by simp only[aW,c8,decide_eq_true_eq];omega
 have fj:aW 0 s.data.toList.length=true:=hin 0 h0
 have bO:aW (bE s 0:Int) 256=true:=by simp only[aW,c8,decide_eq_true_eq];omega
 by_cases q0:s.data.toList.length<3
 · have e0:decide ((s.data.toList.length:Int)<3)=true:=decide_eq_true (by omega)
   have hs:dQ s 3 160 191=(65533,1):=by unfold dQ ae1;rw[if_pos q0]
   rw[hs]
   refine aY (r:=65533) (af aM (lS s) ?_)
   simp only[mP,eP,bF,az.ok,hn0,fj,bO,acy,firstAt,isInt,av,aeq,pb,ae5,false_implies,true_implies,true_and,and_true,e0]
   first | rfl | exact⟨rfl,rfl⟩ | exact⟨rfl,rfl,rfl⟩
 have e0:decide ((s.data.toList.length:Int)<3)=false:=decide_eq_false (by omega)
 have hi1:aW 1 s.data.toList.length=true:=hin 1 (by omega)
 by_cases q1:bE s 1<160
 · have e1:decide ((bE s 1:Int)<160)=true:=decide_eq_true (by omega)
   have hs:dQ s 3 160 191=(65533,1):=by unfold dQ ae1;rw[if_neg q0,if_pos (.inl q1)]
   rw[hs]
   refine aY (r:=65533) (af aM (lS s) ?_)
   simp only[mP,eP,bF,az.ok,hn0,fj,bO,acy,firstAt,isInt,av,aeq,pb,ae5,false_implies,true_implies,true_and,and_true,e0,e1,hi1]
   first | rfl | exact⟨rfl,rfl⟩ | exact⟨rfl,rfl,rfl⟩
 have e1:decide ((bE s 1:Int)<160)=false:=decide_eq_false (by omega)
 by_cases q2:191<bE s 1
 · have e2:decide (191<(bE s 1:Int))=true:=decide_eq_true (by omega)
   have hs:dQ s 3 160 191=(65533,1):=by unfold dQ ae1;rw[if_neg q0,if_pos (.inr q2)]
   rw[hs]
   refine aY (r:=65533) (af aM (lS s) ?_)
   simp only[mP,eP,bF,az.ok,hn0,fj,bO,acy,firstAt,isInt,av,aeq,pb,ae5,false_implies,true_implies,true_and,and_true,e0,e1,e2,hi1]
   first | rfl | exact⟨rfl,rfl⟩ | exact⟨rfl,rfl,rfl⟩
 have e2:decide (191<(bE s 1:Int))=false:=decide_eq_false (by omega)
 have hi2:aW 2 s.data.toList.length=true:=hin 2 (by omega)
 by_cases q3:bE s 2<128
 · have e3:decide ((bE s 2:Int)<128)=true:=decide_eq_true (by omega)
   have hs:dQ s 3 160 191=(65533,1):=by unfold dQ ae1;rw[if_neg q0,if_neg (not_or.2 ⟨q1,q2⟩),if_neg (by decide),if_pos (.inl q3)]
   rw[hs]
   refine aY (r:=65533) (af aM (lS s) ?_)
   simp only[mP,eP,bF,az.ok,hn0,fj,bO,acy,firstAt,isInt,av,aeq,pb,ae5,false_implies,true_implies,true_and,and_true,e0,e1,e2,e3,hi1,hi2]
   first | rfl | exact⟨rfl,rfl⟩ | exact⟨rfl,rfl,rfl⟩
 have e3:decide ((bE s 2:Int)<128)=false:=decide_eq_false (by omega)
 by_cases q4:191<bE s 2
 · have e4:decide (191<(bE s 2:Int))=true:=decide_eq_true (by omega)
   have hs:dQ s 3 160 191=(65533,1):=by unfold dQ ae1;rw[if_neg q0,if_neg (not_or.2 ⟨q1,q2⟩),if_neg (by decide),if_pos (.inr q4)]
   rw[hs]
   refine aY (r:=65533) (af aM (lS s) ?_)
   simp only[mP,eP,bF,az.ok,hn0,fj,bO,acy,firstAt,isInt,av,aeq,pb,ae5,false_implies,true_implies,true_and,and_true,e0,e1,e2,e3,e4,hi1,hi2]
   first | rfl | exact⟨rfl,rfl⟩ | exact⟨rfl,rfl,rfl⟩
 have e4:decide (191<(bE s 2:Int))=false:=decide_eq_false (by omega)
 have hs:dQ s 3 160 191=(bE s 0%16*4096+bE s 1%64*64+bE s 2%64,3):=by unfold dQ ae1;rw[if_neg q0,if_neg (not_or.2 ⟨q1,q2⟩),if_neg (by decide),if_neg (not_or.2 ⟨q3,q4⟩),if_pos (by decide)]
 rw[hs]
 refine aY (r:=(aeW.wrap (↑(cp 32 (aeW.wrap (↑(cp 32 (aeW.wrap (aeW.wrap (aeX.wrap (↑(cp 8 (↑(s.data.toList.getD 0 0).toNat:Int)&&&cp 8 15).toNat:Int))*4096))|||cp 32 (aeW.wrap (aeW.wrap (aeX.wrap (↑(cp 8 (↑(s.data.toList.getD 1 0).toNat:Int)&&&cp 8 63).toNat:Int))*64))).toNat:Int))|||cp 32 (aeW.wrap (aeX.wrap (↑(cp 8 (↑(s.data.toList.getD 2 0).toNat:Int)&&&cp 8 63).toNat:Int)))).toNat:Int))) (af aM (lS s) ?_)
 simp only[mP,eP,bF,az.ok,hn0,fj,bO,acy,firstAt,isInt,av,aeq,pb,ae5,false_implies,true_implies,true_and,and_true,e0,e1,e2,e3,e4,hi1,hi2]
 first | rfl | exact⟨rfl,rfl⟩ | exact⟨rfl,rfl,rfl⟩
theorem WK (b:Nat) (h:225≤b∧b<237∨238≤b∧b<240):b9.getD b .bw = .sc (.int .u8 3):=by
 have hb:b<256:=by omega
 have h:b∈(ei 256).filter (fun b=>decide (225≤b∧b<237∨238≤b∧b<240)):=aeZ.2 ⟨QQ.2 (by omega),decide_eq_true h⟩
 have hall : ∀b∈(ei 256).filter (fun b=>decide (225≤b∧b<237∨238≤b∧b<240)),iK.getD b 0=3:=by decide +kernel
 rw[fL hb,hall b h]
theorem N3 (h0:0<s.data.toList.length) (hb:225≤bE s 0∧bE s 0<237∨238≤bE s 0∧bE s 0<240):an acb env 126 [.p (.sc (.string s))] [] (.au [.ah,sI .i64 ((dQ s 3 128 191).2:Nat)]) []:=by
 have firstAt:b9.getD (0+(s.data.toList.getD 0 0).toNat*1) .bw = .sc (.int .u8 3):=by rw[pw,aeR];exact WK (bE s 0) hb
 have hn0:decide ((s.data.toList.length:Int)<1)=false:=decide_eq_false (by omega)
 have hin : ∀j:Nat,j<s.data.toList.length→aW (j:Int) s.data.toList.length=true:=fun j h=>by simp only[aW,c8,decide_eq_true_eq];omega
 have fj:aW 0 s.data.toList.length=true:=hin 0 h0
 have bO:aW (bE s 0:Int) 256=true:=by simp only[aW,c8,decide_eq_true_eq];omega
 by_cases q0:s.data.toList.length<3
 · have e0:decide ((s.data.toList.length:Int)<3)=true:=decide_eq_true (by omega)
   have hs:dQ s 3 128 191=(65533,1):=by unfold dQ ae1;rw[if_pos q0]
   rw[hs]
   refine aY (r:=65533) (af aM (lT s) ?_)
   simp only[mQ,eR,bF,az.ok,hn0,fj,bO,acy,firstAt,isInt,av,aeq,pb,ae5,false_implies,true_implies,true_and,and_true,e0]
   first | rfl | exact⟨rfl,rfl⟩ | exact⟨rfl,rfl,rfl⟩
 have e0:decide ((s.data.toList.length:Int)<3)=false:=decide_eq_false (by omega)
 have hi1:aW 1 s.data.toList.length=true:=hin 1 (by omega)
 by_cases q1:bE s 1<128
 · have e1:decide ((bE s 1:Int)<128)=true:=decide_eq_true (by omega)
   have hs:dQ s 3 128 191=(65533,1):=by unfold dQ ae1;rw[if_neg q0,if_pos (.inl q1)]
   rw[hs]
   refine aY (r:=65533) (af aM (lT s) ?_)
   simp only[mQ,eR,bF,az.ok,hn0,fj,bO,acy,firstAt,isInt,av,aeq,pb,ae5,false_implies,true_implies,true_and,and_true,e0,e1,hi1]
   first | rfl | exact⟨rfl,rfl⟩ | exact⟨rfl,rfl,rfl⟩
 have e1:decide ((bE s 1:Int)<128)=false:=decide_eq_false (by omega)
 by_cases q2:191<bE s 1
 · have e2:decide (191<(bE s 1:Int))=true:=decide_eq_true (by omega)
   have hs:dQ s 3 128 191=(65533,1):=by unfold dQ ae1;rw[if_neg q0,if_pos (.inr q2)]
   rw[hs]
   refine aY (r:=65533) (af aM (lT s) ?_)
   simp only[mQ,eR,bF,az.ok,hn0,fj,bO,acy,firstAt,isInt,av,aeq,pb,ae5,false_implies,true_implies,true_and,and_true,e0,e1,e2,hi1]
   first | rfl | exact⟨rfl,rfl⟩ | exact⟨rfl,rfl,rfl⟩
 have e2:decide (191<(bE s 1:Int))=false:=decide_eq_false (by omega)
 have hi2:aW 2 s.data.toList.length=true:=hin 2 (by omega)
 by_cases q3:bE s 2<128
 · have e3:decide ((bE s 2:Int)<128)=true:=decide_eq_true (by omega)
   have hs:dQ s 3 128 191=(65533,1):=by unfold dQ ae1;rw[if_neg q0,if_neg (not_or.2 ⟨q1,q2⟩),if_neg (by decide),if_pos (.inl q3)]
   rw[hs]
   refine aY (r:=65533) (af aM (lT s) ?_)
   simp only[mQ,eR,bF,az.ok,hn0,fj,bO,acy,firstAt,isInt,av,aeq,pb,ae5,false_implies,true_implies,true_and,and_true,e0,e1,e2,e3,hi1,hi2]
   first | rfl | exact⟨rfl,rfl⟩ | exact⟨rfl,rfl,rfl⟩
 have e3:decide ((bE s 2:Int)<128)=false:=decide_eq_false (by omega)
 by_cases q4:191<bE s 2
 · have e4:decide (191<(bE s 2:Int))=true:=decide_eq_true (by omega)
   have hs:dQ s 3 128 191=(65533,1):=by unfold dQ ae1;rw[if_neg q0,if_neg (not_or.2 ⟨q1,q2⟩),if_neg (by decide),if_pos (.inr q4)]
   rw[hs]
   refine aY (r:=65533) (af aM (lT s) ?_)
   simp only[mQ,eR,bF,az.ok,hn0,fj,bO,acy,firstAt,isInt,av,aeq,pb,ae5,false_implies,true_implies,true_and,and_true,e0,e1,e2,e3,e4,hi1,hi2]
   first | rfl | exact⟨rfl,rfl⟩ | exact⟨rfl,rfl,rfl⟩
 have e4:decide (191<(bE s 2:Int))=false:=decide_eq_false (by omega)
 have hs:dQ s 3 128 191=(bE s 0%16*4096+bE s 1%64*64+bE s 2%64,3):=by unfold dQ ae1;rw[if_neg q0,if_neg (not_or.2 ⟨q1,q2⟩),if_neg (by decide),if_neg (not_or.2 ⟨q3,q4⟩),if_pos (by decide)]
 rw[hs]
 refine aY (r:=(aeW.wrap (↑(cp 32 (aeW.wrap (↑(cp 32 (aeW.wrap (aeW.wrap (aeX.wrap (↑(cp 8 (↑(s.data.toList.getD 0 0).toNat:Int)&&&cp 8 15).toNat:Int))*4096))|||cp 32 (aeW.wrap (aeW.wrap (aeX.wrap (↑(cp 8 (↑(s.data.toList.getD 1 0).toNat:Int)&&&cp 8 63).toNat:Int))*64))).toNat:Int))|||cp 32 (aeW.wrap (aeX.wrap (↑(cp 8 (↑(s.data.toList.getD 2 0).toNat:Int)&&&cp 8 63).toNat:Int)))).toNat:Int))) (af aM (lT s) ?_)
 simp only[mQ,eR,bF,az.ok,hn0,fj,bO,acy,firstAt,isInt,av,aeq,pb,ae5,false_implies,true_implies,true_and,and_true,e0,e1,e2,e3,e4,hi1,hi2]
 first | rfl | exact⟨rfl,rfl⟩ | exact⟨rfl,rfl,rfl⟩
theorem WL (b:Nat) (h:b=237):b9.getD b .bw = .sc (.int .u8 35):=by
 have hb:b<256:=by omega
 have h:b∈(ei 256).filter (fun b=>decide (b=237)):=aeZ.2 ⟨QQ.2 (by omega),decide_eq_true h⟩
 have hall : ∀b∈(ei 256).filter (fun b=>decide (b=237)),iK.getD b 0=35:=by decide +kernel
 rw[fL hb,hall b h]
theorem N4 (h0:0<s.data.toList.length) (hb:bE s 0=237):an acb env 126 [.p (.sc (.string s))] [] (.au [.ah,sI .i64 ((dQ s 3 128 159).2:Nat)]) []:=by
 have firstAt:b9.getD (0+(s.data.toList.getD 0 0).toNat*1) .bw = .sc (.int .u8 35):=by rw[pw,aeR];exact WL (bE s 0) hb
 have hn0:decide ((s.data.toList.length:Int)<1)=false:=decide_eq_false (by omega)
 have hin : ∀j:Nat,j<s.data.toList.length→aW (j:Int) s.data.toList.length=true:=fun j h=>by simp only[aW,c8,decide_eq_true_eq];omega
 have fj:aW 0 s.data.toList.length=true:=hin 0 h0
 have bO:aW (bE s 0:Int) 256=true:=by simp only[aW,c8,decide_eq_true_eq];omega
 by_cases q0:s.data.toList.length<3
 · have e0:decide ((s.data.toList.length:Int)<3)=true:=decide_eq_true (by omega)
   have hs:dQ s 3 128 159=(65533,1):=by unfold dQ ae1;rw[if_pos q0]
   rw[hs]
   refine aY (r:=65533) (af aM (lU s) ?_)
   simp only[mR,eS,bF,az.ok,hn0,fj,bO,acy,firstAt,isInt,av,aeq,pb,ae5,false_implies,true_implies,true_and,and_true,e0]
   first | rfl | exact⟨rfl,rfl⟩ | exact⟨rfl,rfl,rfl⟩
 have e0:decide ((s.data.toList.length:Int)<3)=false:=decide_eq_false (by omega)
 have hi1:aW 1 s.data.toList.length=true:=hin 1 (by omega)
 by_cases q1:bE s 1<128
 · have e1:decide ((bE s 1:Int)<128)=true:=decide_eq_true (by omega)
   have hs:dQ s 3 128 159=(65533,1):=by unfold dQ ae1;rw[if_neg q0,if_pos (.inl q1)]
   rw[hs]
   refine aY (r:=65533) (af aM (lU s) ?_)
   simp only[mR,eS,bF,az.ok,hn0,fj,bO,acy,firstAt,isInt,av,aeq,pb,ae5,false_implies,true_implies,true_and,and_true,e0,e1,hi1]
   first | rfl | exact⟨rfl,rfl⟩ | exact⟨rfl,rfl,rfl⟩
 have e1:decide ((bE s 1:Int)<128)=false:=decide_eq_false (by omega)
 by_cases q2:159<bE s 1
 · have e2:decide (159<(bE s 1:Int))=true:=decide_eq_true (by omega)
   have hs:dQ s 3 128 159=(65533,1):=by unfold dQ ae1;rw[if_neg q0,if_pos (.inr q2)]
   rw[hs]
   refine aY (r:=65533) (af aM (lU s) ?_)
   simp only[mR,eS,bF,az.ok,hn0,fj,bO,acy,firstAt,isInt,av,aeq,pb,ae5,false_implies,true_implies,true_and,and_true,e0,e1,e2,hi1]
   first | rfl | exact⟨rfl,rfl⟩ | exact⟨rfl,rfl,rfl⟩
 have e2:decide (159<(bE s 1:Int))=false:=decide_eq_false (by omega)
 have hi2:aW 2 s.data.toList.length=true:=hin 2 (by omega)
 by_cases q3:bE s 2<128
 · have e3:decide ((bE s 2:Int)<128)=true:=decide_eq_true (by omega)
   have hs:dQ s 3 128 159=(65533,1):=by unfold dQ ae1;rw[if_neg q0,if_neg (not_or.2 ⟨q1,q2⟩),if_neg (by decide),if_pos (.inl q3)]
   rw[hs]
   refine aY (r:=65533) (af aM (lU s) ?_)
   simp only[mR,eS,bF,az.ok,hn0,fj,bO,acy,firstAt,isInt,av,aeq,pb,ae5,false_implies,true_implies,true_and,and_true,e0,e1,e2,e3,hi1,hi2]
   first | rfl | exact⟨rfl,rfl⟩ | exact⟨rfl,rfl,rfl⟩
 have e3:decide ((bE s 2:Int)<128)=false:=decide_eq_false (by omega)
 by_cases q4:191<bE s 2
 · have e4:decide (191<(bE s 2:Int))=true:=decide_eq_true (by omega)
   have hs:dQ s 3 128 159=(65533,1):=by unfold dQ ae1;rw[if_neg q0,if_neg (not_or.2 ⟨q1,q2⟩),if_neg (by decide),if_pos (.inr q4)]
   rw[hs]
   refine aY (r:=65533) (af aM (lU s) ?_)
   simp only[mR,eS,bF,az.ok,hn0,fj,bO,acy,firstAt,isInt,av,aeq,pb,ae5,false_implies,true_implies,true_and,and_true,e0,e1,e2,e3,e4,hi1,hi2]
   first | rfl | exact⟨rfl,rfl⟩ | exact⟨rfl,rfl,rfl⟩
 have e4:decide (191<(bE s 2:Int))=false:=decide_eq_false (by omega)
 have hs:dQ s 3 128 159=(bE s 0%16*4096+bE s 1%64*64+bE s 2%64,3):=by unfold dQ ae1;rw[if_neg q0,if_neg (not_or.2 ⟨q1,q2⟩),if_neg (by decide),if_neg (not_or.2 ⟨q3,q4⟩),if_pos (by decide)]
 rw[hs]
 refine aY (r:=(aeW.wrap (↑(cp 32 (aeW.wrap (↑(cp 32 (aeW.wrap (aeW.wrap (aeX.wrap (↑(cp 8 (↑(s.data.toList.getD 0 0).toNat:Int)&&&cp 8 15).toNat:Int))*4096))|||cp 32 (aeW.wrap (aeW.wrap (aeX.wrap (↑(cp 8 (↑(s.data.toList.getD 1 0).toNat:Int)&&&cp 8 63).toNat:Int))*64))).toNat:Int))|||cp 32 (aeW.wrap (aeX.wrap (↑(cp 8 (↑(s.data.toList.getD 2 0).toNat:Int)&&&cp 8 63).toNat:Int)))).toNat:Int))) (af aM (lU s) ?_)
 simp only[mR,eS,bF,az.ok,hn0,fj,bO,acy,firstAt,isInt,av,aeq,pb,ae5,false_implies,true_implies,true_and,and_true,e0,e1,e2,e3,e4,hi1,hi2]
 first | rfl | exact⟨rfl,rfl⟩ | exact⟨rfl,rfl,rfl⟩
theorem WM (b:Nat) (h:b=240):b9.getD b .bw = .sc (.int .u8 52):=by
 have hb:b<256:=by omega
 have h:b∈(ei 256).filter (fun b=>decide (b=240)):=aeZ.2 ⟨QQ.2 (by omega),decide_eq_true h⟩
 have hall : ∀b∈(ei 256).filter (fun b=>decide (b=240)),iK.getD b 0=52:=by decide +kernel
 rw[fL hb,hall b h]
theorem N5 (h0:0<s.data.toList.length) (hb:bE s 0=240):an acb env 126 [.p (.sc (.string s))] [] (.au [.ah,sI .i64 ((dQ s 4 144 191).2:Nat)]) []:=by
 have firstAt:b9.getD (0+(s.data.toList.getD 0 0).toNat*1) .bw = .sc (.int .u8 52):=by rw[pw,aeR];exact WM (bE s 0) hb
 have hn0:decide ((s.data.toList.length:Int)<1)=false:=decide_eq_false (by omega)
 have hin : ∀j:Nat,j<s.data.toList.length→aW (j:Int) s.data.toList.length=true:=fun j h=>by simp only[aW,c8,decide_eq_true_eq];omega
 have fj:aW 0 s.data.toList.length=true:=hin 0 h0
 have bO:aW (bE s 0:Int) 256=true:=by simp only[aW,c8,decide_eq_true_eq];omega
 by_cases q0:s.data.toList.length<4
 · have e0:decide ((s.data.toList.length:Int)<4)=true:=decide_eq_true (by omega)
   have hs:dQ s 4 144 191=(65533,1):=by unfold dQ ae1;rw[if_pos q0]
   rw[hs]
   refine aY (r:=65533) (af aM (je s) ?_)
   simp only[jD,dr,bF,az.ok,hn0,fj,bO,acy,firstAt,isInt,av,aeq,pb,ae5,false_implies,true_implies,true_and,and_true,e0]
   first | rfl | exact⟨rfl,rfl⟩ | exact⟨rfl,rfl,rfl⟩
 have e0:decide ((s.data.toList.length:Int)<4)=false:=decide_eq_false (by omega)
 have hi1:aW 1 s.data.toList.length=true:=hin 1 (by omega)
 by_cases q1:bE s 1<144
 · have e1:decide ((bE s 1:Int)<144)=true:=decide_eq_true (by omega)
   have hs:dQ s 4 144 191=(65533,1):=by unfold dQ ae1;rw[if_neg q0,if_pos (.inl q1)]
   rw[hs]
   refine aY (r:=65533) (af aM (je s) ?_)
   simp only[jD,dr,bF,az.ok,hn0,fj,bO,acy,firstAt,isInt,av,aeq,pb,ae5,false_implies,true_implies,true_and,and_true,e0,e1,hi1]
   first | rfl | exact⟨rfl,rfl⟩ | exact⟨rfl,rfl,rfl⟩
 have e1:decide ((bE s 1:Int)<144)=false:=decide_eq_false (by omega)
 by_cases q2:191<bE s 1
 · have e2:decide (191<(bE s 1:Int))=true:=decide_eq_true (by omega)
   have hs:dQ s 4 144 191=(65533,1):=by unfold dQ ae1;rw[if_neg q0,if_pos (.inr q2)]
   rw[hs]
   refine aY (r:=65533) (af aM (je s) ?_)
   simp only[jD,dr,bF,az.ok,hn0,fj,bO,acy,firstAt,isInt,av,aeq,pb,ae5,false_implies,true_implies,true_and,and_true,e0,e1,e2,hi1]
   first | rfl | exact⟨rfl,rfl⟩ | exact⟨rfl,rfl,rfl⟩
 have e2:decide (191<(bE s 1:Int))=false:=decide_eq_false (by omega)
 have hi2:aW 2 s.data.toList.length=true:=hin 2 (by omega)
 by_cases q3:bE s 2<128
 · have e3:decide ((bE s 2:Int)<128)=true:=decide_eq_true (by omega)
   have hs:dQ s 4 144 191=(65533,1):=by unfold dQ ae1;rw[if_neg q0,if_neg (not_or.2 ⟨q1,q2⟩),if_neg (by decide),if_pos (.inl q3)]
   rw[hs]
   refine aY (r:=65533) (af aM (je s) ?_)
   simp only[jD,dr,bF,az.ok,hn0,fj,bO,acy,firstAt,isInt,av,aeq,pb,ae5,false_implies,true_implies,true_and,and_true,e0,e1,e2,e3,hi1,hi2]
   first | rfl | exact⟨rfl,rfl⟩ | exact⟨rfl,rfl,rfl⟩
 have e3:decide ((bE s 2:Int)<128)=false:=decide_eq_false (by omega)
 by_cases q4:191<bE s 2
 · have e4:decide (191<(bE s 2:Int))=true:=decide_eq_true (by omega)
   have hs:dQ s 4 144 191=(65533,1):=by unfold dQ ae1;rw[if_neg q0,if_neg (not_or.2 ⟨q1,q2⟩),if_neg (by decide),if_pos (.inr q4)]
   rw[hs]
   refine aY (r:=65533) (af aM (je s) ?_)
   simp only[jD,dr,bF,az.ok,hn0,fj,bO,acy,firstAt,isInt,av,aeq,pb,ae5,false_implies,true_implies,true_and,and_true,e0,e1,e2,e3,e4,hi1,hi2]
   first | rfl | exact⟨rfl,rfl⟩ | exact⟨rfl,rfl,rfl⟩
 have e4:decide (191<(bE s 2:Int))=false:=decide_eq_false (by omega)
 have N6:aW 3 s.data.toList.length=true:=hin 3 (by omega)
 by_cases q5:bE s 3<128
 · have e5:decide ((bE s 3:Int)<128)=true:=decide_eq_true (by omega)
   have hs:dQ s 4 144 191=(65533,1):=by unfold dQ ae1;rw[if_neg q0,if_neg (not_or.2 ⟨q1,q2⟩),if_neg (by decide),if_neg (not_or.2 ⟨q3,q4⟩),if_neg (by decide),if_pos (.inl q5)]
   rw[hs]
   refine aY (r:=65533) (af aM (je s) ?_)
   simp only[jD,dr,bF,az.ok,hn0,fj,bO,acy,firstAt,isInt,av,aeq,pb,ae5,false_implies,true_implies,true_and,and_true,e0,e1,e2,e3,e4,e5,hi1,hi2,N6]
   first | rfl | exact⟨rfl,rfl⟩ | exact⟨rfl,rfl,rfl⟩
 have e5:decide ((bE s 3:Int)<128)=false:=decide_eq_false (by omega)
 by_cases q6:191<bE s 3
 · have e6:decide (191<(bE s 3:Int))=true:=decide_eq_true (by omega)
   have hs:dQ s 4 144 191=(65533,1):=by unfold dQ ae1;rw[if_neg q0,if_neg (not_or.2 ⟨q1,q2⟩),if_neg (by decide),if_neg (not_or.2 ⟨q3,q4⟩),if_neg (by decide),if_pos (.inr q6)]
   rw[hs]
   refine aY (r:=65533) (af aM (je s) ?_)
   simp only[jD,dr,bF,az.ok,hn0,fj,bO,acy,firstAt,isInt,av,aeq,pb,ae5,false_implies,true_implies,true_and,and_true,e0,e1,e2,e3,e4,e5,e6,hi1,hi2,N6]
   first | rfl | exact⟨rfl,rfl⟩ | exact⟨rfl,rfl,rfl⟩
 have e6:decide (191<(bE s 3:Int))=false:=decide_eq_false (by omega)
 have hs:dQ s 4 144 191=(bE s 0%8*262144+bE s 1%64*4096+bE s 2%64*64+bE s 3%64,4):=by unfold dQ ae1;rw[if_neg q0,if_neg (not_or.2 ⟨q1,q2⟩),if_neg (by decide),if_neg (not_or.2 ⟨q3,q4⟩),if_neg (by decide),if_neg (not_or.2 ⟨q5,q6⟩)]
 rw[hs]
 refine aY (r:=(aeW.wrap (↑(cp 32 (aeW.wrap (↑(cp 32 (aeW.wrap (↑(cp 32 (aeW.wrap (aeW.wrap (aeX.wrap (↑(cp 8 (↑(s.data.toList.getD 0 0).toNat:Int)&&&cp 8 7).toNat:Int))*262144))|||cp 32 (aeW.wrap (aeW.wrap (aeX.wrap (↑(cp 8 (↑(s.data.toList.getD 1 0).toNat:Int)&&&cp 8 63).toNat:Int))*4096))).toNat:Int))|||cp 32 (aeW.wrap (aeW.wrap (aeX.wrap (↑(cp 8 (↑(s.data.toList.getD 2 0).toNat:Int)&&&cp 8 63).toNat:Int))*64))).toNat:Int))|||cp 32 (aeW.wrap (aeX.wrap (↑(cp 8 (↑(s.data.toList.getD 3 0).toNat:Int)&&&cp 8 63).toNat:Int)))).toNat:Int))) (af aM (je s) ?_)
 simp only[jD,dr,bF,az.ok,hn0,fj,bO,acy,firstAt,isInt,av,aeq,pb,ae5,false_implies,true_implies,true_and,and_true,e0,e1,e2,e3,e4,e5,e6,hi1,hi2,N6]
 first | rfl | exact⟨rfl,rfl⟩ | exact⟨rfl,rfl,rfl⟩
theorem WN (b:Nat) (h:241≤b∧b<244):b9.getD b .bw = .sc (.int .u8 4):=by
 have hb:b<256:=by omega
 have h:b∈(ei 256).filter (fun b=>decide (241≤b∧b<244)):=aeZ.2 ⟨QQ.2 (by omega),decide_eq_true h⟩
 have hall : ∀b∈(ei 256).filter (fun b=>decide (241≤b∧b<244)),iK.getD b 0=4:=by decide +kernel
 rw[fL hb,hall b h]
theorem N7 (h0:0<s.data.toList.length) (hb:241≤bE s 0∧bE s 0<244):an acb env 126 [.p (.sc (.string s))] [] (.au [.ah,sI .i64 ((dQ s 4 128 191).2:Nat)]) []:=by
 have firstAt:b9.getD (0+(s.data.toList.getD 0 0).toNat*1) .bw = .sc (.int .u8 4):=by rw[pw,aeR];exact WN (bE s 0) hb
 have hn0:decide ((s.data.toList.length:Int)<1)=false:=decide_eq_false (by omega)
 have hin : ∀j:Nat,j<s.data.toList.length→aW (j:Int) s.data.toList.length=true:=fun j h=>by simp only[aW,c8,decide_eq_true_eq];omega
 have fj:aW 0 s.data.toList.length=true:=hin 0 h0
 have bO:aW (bE s 0:Int) 256=true:=by simp only[aW,c8,decide_eq_true_eq];omega
 by_cases q0:s.data.toList.length<4
 · have e0:decide ((s.data.toList.length:Int)<4)=true:=decide_eq_true (by omega)
   have hs:dQ s 4 128 191=(65533,1):=by unfold dQ ae1;rw[if_pos q0]
   rw[hs]
   refine aY (r:=65533) (af aM (jf s) ?_)
   simp only[jE,dw,bF,az.ok,hn0,fj,bO,acy,firstAt,isInt,av,aeq,pb,ae5,false_implies,true_implies,true_and,and_true,e0]
   first | rfl | exact⟨rfl,rfl⟩ | exact⟨rfl,rfl,rfl⟩
 have e0:decide ((s.data.toList.length:Int)<4)=false:=decide_eq_false (by omega)
 have hi1:aW 1 s.data.toList.length=true:=hin 1 (by omega)
 by_cases q1:bE s 1<128
 · have e1:decide ((bE s 1:Int)<128)=true:=decide_eq_true (by omega)
   have hs:dQ s 4 128 191=(65533,1):=by unfold dQ ae1;rw[if_neg q0,if_pos (.inl q1)]
   rw[hs]
   refine aY (r:=65533) (af aM (jf s) ?_)
   simp only[jE,dw,bF,az.ok,hn0,fj,bO,acy,firstAt,isInt,av,aeq,pb,ae5,false_implies,true_implies,true_and,and_true,e0,e1,hi1]
   first | rfl | exact⟨rfl,rfl⟩ | exact⟨rfl,rfl,rfl⟩
 have e1:decide ((bE s 1:Int)<128)=false:=decide_eq_false (by omega)
 by_cases q2:191<bE s 1
 · have e2:decide (191<(bE s 1:Int))=true:=decide_eq_true (by omega)
   have hs:dQ s 4 128 191=(65533,1):=by unfold dQ ae1;rw[if_neg q0,if_pos (.inr q2)]
   rw[hs]
   refine aY (r:=65533) (af aM (jf s) ?_)
   simp only[jE,dw,bF,az.ok,hn0,fj,bO,acy,firstAt,isInt,av,aeq,pb,ae5,false_implies,true_implies,true_and,and_true,e0,e1,e2,hi1]
   first | rfl | exact⟨rfl,rfl⟩ | exact⟨rfl,rfl,rfl⟩
 have e2:decide (191<(bE s 1:Int))=false:=decide_eq_false (by omega)
 have hi2:aW 2 s.data.toList.length=true:=hin 2 (by omega)
 by_cases q3:bE s 2<128
 · have e3:decide ((bE s 2:Int)<128)=true:=decide_eq_true (by omega)
   have hs:dQ s 4 128 191=(65533,1):=by unfold dQ ae1;rw[if_neg q0,if_neg (not_or.2 ⟨q1,q2⟩),if_neg (by decide),if_pos (.inl q3)]
   rw[hs]
   refine aY (r:=65533) (af aM (jf s) ?_)
   simp only[jE,dw,bF,az.ok,hn0,fj,bO,acy,firstAt,isInt,av,aeq,pb,ae5,false_implies,true_implies,true_and,and_true,e0,e1,e2,e3,hi1,hi2]
   first | rfl | exact⟨rfl,rfl⟩ | exact⟨rfl,rfl,rfl⟩
 have e3:decide ((bE s 2:Int)<128)=false:=decide_eq_false (by omega)
 by_cases q4:191<bE s 2
 · have e4:decide (191<(bE s 2:Int))=true:=decide_eq_true (by omega)
   have hs:dQ s 4 128 191=(65533,1):=by unfold dQ ae1;rw[if_neg q0,if_neg (not_or.2 ⟨q1,q2⟩),if_neg (by decide),if_pos (.inr q4)]
   rw[hs]
   refine aY (r:=65533) (af aM (jf s) ?_)
   simp only[jE,dw,bF,az.ok,hn0,fj,bO,acy,firstAt,isInt,av,aeq,pb,ae5,false_implies,true_implies,true_and,and_true,e0,e1,e2,e3,e4,hi1,hi2]
   first | rfl | exact⟨rfl,rfl⟩ | exact⟨rfl,rfl,rfl⟩
 have e4:decide (191<(bE s 2:Int))=false:=decide_eq_false (by omega)
 have N6:aW 3 s.data.toList.length=true:=hin 3 (by omega)
 by_cases q5:bE s 3<128
 · have e5:decide ((bE s 3:Int)<128)=true:=decide_eq_true (by omega)
   have hs:dQ s 4 128 191=(65533,1):=by unfold dQ ae1;rw[if_neg q0,if_neg (not_or.2 ⟨q1,q2⟩),if_neg (by decide),if_neg (not_or.2 ⟨q3,q4⟩),if_neg (by decide),if_pos (.inl q5)]
   rw[hs]
   refine aY (r:=65533) (af aM (jf s) ?_)
   simp only[jE,dw,bF,az.ok,hn0,fj,bO,acy,firstAt,isInt,av,aeq,pb,ae5,false_implies,true_implies,true_and,and_true,e0,e1,e2,e3,e4,e5,hi1,hi2,N6]
   first | rfl | exact⟨rfl,rfl⟩ | exact⟨rfl,rfl,rfl⟩
 have e5:decide ((bE s 3:Int)<128)=false:=decide_eq_false (by omega)
 by_cases q6:191<bE s 3
 · have e6:decide (191<(bE s 3:Int))=true:=decide_eq_true (by omega)
   have hs:dQ s 4 128 191=(65533,1):=by unfold dQ ae1;rw[if_neg q0,if_neg (not_or.2 ⟨q1,q2⟩),if_neg (by decide),if_neg (not_or.2 ⟨q3,q4⟩),if_neg (by decide),if_pos (.inr q6)]
   rw[hs]
   refine aY (r:=65533) (af aM (jf s) ?_)
   simp only[jE,dw,bF,az.ok,hn0,fj,bO,acy,firstAt,isInt,av,aeq,pb,ae5,false_implies,true_implies,true_and,and_true,e0,e1,e2,e3,e4,e5,e6,hi1,hi2,N6]
   first | rfl | exact⟨rfl,rfl⟩ | exact⟨rfl,rfl,rfl⟩
 have e6:decide (191<(bE s 3:Int))=false:=decide_eq_false (by omega)
 have hs:dQ s 4 128 191=(bE s 0%8*262144+bE s 1%64*4096+bE s 2%64*64+bE s 3%64,4):=by unfold dQ ae1;rw[if_neg q0,if_neg (not_or.2 ⟨q1,q2⟩),if_neg (by decide),if_neg (not_or.2 ⟨q3,q4⟩),if_neg (by decide),if_neg (not_or.2 ⟨q5,q6⟩)]
 rw[hs]
 refine aY (r:=(aeW.wrap (↑(cp 32 (aeW.wrap (↑(cp 32 (aeW.wrap (↑(cp 32 (aeW.wrap (aeW.wrap (aeX.wrap (↑(cp 8 (↑(s.data.toList.getD 0 0).toNat:Int)&&&cp 8 7).toNat:Int))*262144))|||cp 32 (aeW.wrap (aeW.wrap (aeX.wrap (↑(cp 8 (↑(s.data.toList.getD 1 0).toNat:Int)&&&cp 8 63).toNat:Int))*4096))).toNat:Int))|||cp 32 (aeW.wrap (aeW.wrap (aeX.wrap (↑(cp 8 (↑(s.data.toList.getD 2 0).toNat:Int)&&&cp 8 63).toNat:Int))*64))).toNat:Int))|||cp 32 (aeW.wrap (aeX.wrap (↑(cp 8 (↑(s.data.toList.getD 3 0).toNat:Int)&&&cp 8 63).toNat:Int)))).toNat:Int))) (af aM (jf s) ?_)
 simp only[jE,dw,bF,az.ok,hn0,fj,bO,acy,firstAt,isInt,av,aeq,pb,ae5,false_implies,true_implies,true_and,and_true,e0,e1,e2,e3,e4,e5,e6,hi1,hi2,N6]
 first | rfl | exact⟨rfl,rfl⟩ | exact⟨rfl,rfl,rfl⟩
theorem WO (b:Nat) (h:b=244):b9.getD b .bw = .sc (.int .u8 68):=by
 have hb:b<256:=by omega
 have h:b∈(ei 256).filter (fun b=>decide (b=244)):=aeZ.2 ⟨QQ.2 (by omega),decide_eq_true h⟩
 have hall : ∀b∈(ei 256).filter (fun b=>decide (b=244)),iK.getD b 0=68:=by decide +kernel
 rw[fL hb,hall b h]
theorem N8 (h0:0<s.data.toList.length) (hb:bE s 0=244):an acb env 126 [.p (.sc (.string s))] [] (.au [.ah,sI .i64 ((dQ s 4 128 143).2:Nat)]) []:=by
 have firstAt:b9.getD (0+(s.data.toList.getD 0 0).toNat*1) .bw = .sc (.int .u8 68):=by rw[pw,aeR];exact WO (bE s 0) hb
 have hn0:decide ((s.data.toList.length:Int)<1)=false:=decide_eq_false (by omega)
 have hin : ∀j:Nat,j<s.data.toList.length→aW (j:Int) s.data.toList.length=true:=fun j h=>by simp only[aW,c8,decide_eq_true_eq];omega
 have fj:aW 0 s.data.toList.length=true:=hin 0 h0
 have bO:aW (bE s 0:Int) 256=true:=by simp only[aW,c8,decide_eq_true_eq];omega
 by_cases q0:s.data.toList.length<4
 · have e0:decide ((s.data.toList.length:Int)<4)=true:=decide_eq_true (by omega)
   have hs:dQ s 4 128 143=(65533,1):=by unfold dQ ae1;rw[if_pos q0]
   rw[hs]
   refine aY (r:=65533) (af aM (jg s) ?_)
   simp only[jF,dx,bF,az.ok,hn0,fj,bO,acy,firstAt,isInt,av,aeq,pb,ae5,false_implies,true_implies,true_and,and_true,e0]
   first | rfl | exact⟨rfl,rfl⟩ | exact⟨rfl,rfl,rfl⟩
 have e0:decide ((s.data.toList.length:Int)<4)=false:=decide_eq_false (by omega)
 have hi1:aW 1 s.data.toList.length=true:=hin 1 (by omega)
 by_cases q1:bE s 1<128
 · have e1:decide ((bE s 1:Int)<128)=true:=decide_eq_true (by omega)
   have hs:dQ s 4 128 143=(65533,1):=by unfold dQ ae1;rw[if_neg q0,if_pos (.inl q1)]
   rw[hs]
   refine aY (r:=65533) (af aM (jg s) ?_)
   simp only[jF,dx,bF,az.ok,hn0,fj,bO,acy,firstAt,isInt,av,aeq,pb,ae5,false_implies,true_implies,true_and,and_true,e0,e1,hi1]
   first | rfl | exact⟨rfl,rfl⟩ | exact⟨rfl,rfl,rfl⟩
 have e1:decide ((bE s 1:Int)<128)=false:=decide_eq_false (by omega)
 by_cases q2:143<bE s 1
 · have e2:decide (143<(bE s 1:Int))=true:=decide_eq_true (by omega)
   have hs:dQ s 4 128 143=(65533,1):=by unfold dQ ae1;rw[if_neg q0,if_pos (.inr q2)]
   rw[hs]
   refine aY (r:=65533) (af aM (jg s) ?_)
   simp only[jF,dx,bF,az.ok,hn0,fj,bO,acy,firstAt,isInt,av,aeq,pb,ae5,false_implies,true_implies,true_and,and_true,e0,e1,e2,hi1]
   first | rfl | exact⟨rfl,rfl⟩ | exact⟨rfl,rfl,rfl⟩
 have e2:decide (143<(bE s 1:Int))=false:=decide_eq_false (by omega)
 have hi2:aW 2 s.data.toList.length=true:=hin 2 (by omega)
 by_cases q3:bE s 2<128
 · have e3:decide ((bE s 2:Int)<128)=true:=decide_eq_true (by omega)
   have hs:dQ s 4 128 143=(65533,1):=by unfold dQ ae1;rw[if_neg q0,if_neg (not_or.2 ⟨q1,q2⟩),if_neg (by decide),if_pos (.inl q3)]
   rw[hs]
   refine aY (r:=65533) (af aM (jg s) ?_)
   simp only[jF,dx,bF,az.ok,hn0,fj,bO,acy,firstAt,isInt,av,aeq,pb,ae5,false_implies,true_implies,true_and,and_true,e0,e1,e2,e3,hi1,hi2]
   first | rfl | exact⟨rfl,rfl⟩ | exact⟨rfl,rfl,rfl⟩
 have e3:decide ((bE s 2:Int)<128)=false:=decide_eq_false (by omega)
 by_cases q4:191<bE s 2
 · have e4:decide (191<(bE s 2:Int))=true:=decide_eq_true (by omega)
   have hs:dQ s 4 128 143=(65533,1):=by unfold dQ ae1;rw[if_neg q0,if_neg (not_or.2 ⟨q1,q2⟩),if_neg (by decide),if_pos (.inr q4)]
   rw[hs]
   refine aY (r:=65533) (af aM (jg s) ?_)
   simp only[jF,dx,bF,az.ok,hn0,fj,bO,acy,firstAt,isInt,av,aeq,pb,ae5,false_implies,true_implies,true_and,and_true,e0,e1,e2,e3,e4,hi1,hi2]
   first | rfl | exact⟨rfl,rfl⟩ | exact⟨rfl,rfl,rfl⟩
 have e4:decide (191<(bE s 2:Int))=false:=decide_eq_false (by omega)
 have N6:aW 3 s.data.toList.length=true:=hin 3 (by omega)
 by_cases q5:bE s 3<128
 · have e5:decide ((bE s 3:Int)<128)=true:=decide_eq_true (by omega)
   have hs:dQ s 4 128 143=(65533,1):=by unfold dQ ae1;rw[if_neg q0,if_neg (not_or.2 ⟨q1,q2⟩),if_neg (by decide),if_neg (not_or.2 ⟨q3,q4⟩),if_neg (by decide),if_pos (.inl q5)]
   rw[hs]
   refine aY (r:=65533) (af aM (jg s) ?_)
   simp only[jF,dx,bF,az.ok,hn0,fj,bO,acy,firstAt,isInt,av,aeq,pb,ae5,false_implies,true_implies,true_and,and_true,e0,e1,e2,e3,e4,e5,hi1,hi2,N6]
   first | rfl | exact⟨rfl,rfl⟩ | exact⟨rfl,rfl,rfl⟩
 have e5:decide ((bE s 3:Int)<128)=false:=decide_eq_false (by omega)
 by_cases q6:191<bE s 3
 · have e6:decide (191<(bE s 3:Int))=true:=decide_eq_true (by omega)
   have hs:dQ s 4 128 143=(65533,1):=by unfold dQ ae1;rw[if_neg q0,if_neg (not_or.2 ⟨q1,q2⟩),if_neg (by decide),if_neg (not_or.2 ⟨q3,q4⟩),if_neg (by decide),if_pos (.inr q6)]
   rw[hs]
   refine aY (r:=65533) (af aM (jg s) ?_)
   simp only[jF,dx,bF,az.ok,hn0,fj,bO,acy,firstAt,isInt,av,aeq,pb,ae5,false_implies,true_implies,true_and,and_true,e0,e1,e2,e3,e4,e5,e6,hi1,hi2,N6]
   first | rfl | exact⟨rfl,rfl⟩ | exact⟨rfl,rfl,rfl⟩
 have e6:decide (191<(bE s 3:Int))=false:=decide_eq_false (by omega)
 have hs:dQ s 4 128 143=(bE s 0%8*262144+bE s 1%64*4096+bE s 2%64*64+bE s 3%64,4):=by unfold dQ ae1;rw[if_neg q0,if_neg (not_or.2 ⟨q1,q2⟩),if_neg (by decide),if_neg (not_or.2 ⟨q3,q4⟩),if_neg (by decide),if_neg (not_or.2 ⟨q5,q6⟩)]
 rw[hs]
 refine aY (r:=(aeW.wrap (↑(cp 32 (aeW.wrap (↑(cp 32 (aeW.wrap (↑(cp 32 (aeW.wrap (aeW.wrap (aeX.wrap (↑(cp 8 (↑(s.data.toList.getD 0 0).toNat:Int)&&&cp 8 7).toNat:Int))*262144))|||cp 32 (aeW.wrap (aeW.wrap (aeX.wrap (↑(cp 8 (↑(s.data.toList.getD 1 0).toNat:Int)&&&cp 8 63).toNat:Int))*4096))).toNat:Int))|||cp 32 (aeW.wrap (aeW.wrap (aeX.wrap (↑(cp 8 (↑(s.data.toList.getD 2 0).toNat:Int)&&&cp 8 63).toNat:Int))*64))).toNat:Int))|||cp 32 (aeW.wrap (aeX.wrap (↑(cp 8 (↑(s.data.toList.getD 3 0).toNat:Int)&&&cp 8 63).toNat:Int)))).toNat:Int))) (af aM (jg s) ?_)
 simp only[jF,dx,bF,az.ok,hn0,fj,bO,acy,firstAt,isInt,av,aeq,pb,ae5,false_implies,true_implies,true_and,and_true,e0,e1,e2,e3,e4,e5,e6,hi1,hi2,N6]
 first | rfl | exact⟨rfl,rfl⟩ | exact⟨rfl,rfl,rfl⟩
theorem N9 (n b0 b1 b2 b3:Nat) (h:128≤b0∧b0<194∨245≤b0∧b0<256):(ae3 n b0 b1 b2 b3).2=1:=by
 unfold ae3
 repeat' split
 all_goals first | rfl | omega
abbrev Gu:Nat×Nat:=ae3 s.data.toList.length (bE s 0) (bE s 1) (bE s 2) (bE s 3)
theorem J5 (h0:0<s.data.toList.length) (hb:128≤bE s 0):an acb env 126 [.p (.sc (.string s))] [] (.au [.ah,sI .i64 ((Gu s).2:Nat)]) []:=by
 have a0:=CH s 0
 have a1:=CH s 1
 have a2:=CH s 2
 have a3:=CH s 3
 by_cases cB:128≤bE s 0∧bE s 0<194∨245≤bE s 0∧bE s 0<256
 · rw[Gu,N9 _ _ _ _ _ cB];exact N0 s h0 cB
 by_cases cC:194≤bE s 0∧bE s 0<224
 · rw[Gu,←Lib.slow_C2 _ _ _ _ _ h0 a1 a2 a3 cC];exact N1 s h0 cC
 by_cases cD:bE s 0=224
 · rw[Gu,←Lib.slow_E0 _ _ _ _ _ h0 a1 a2 a3 cD];exact N2 s h0 cD
 by_cases cE:225≤bE s 0∧bE s 0<237∨238≤bE s 0∧bE s 0<240
 · rw[Gu,←Lib.slow_E1 _ _ _ _ _ h0 a1 a2 a3 cE];exact N3 s h0 cE
 by_cases cF:bE s 0=237
 · rw[Gu,←Lib.slow_ED _ _ _ _ _ h0 a1 a2 a3 cF];exact N4 s h0 cF
 by_cases cG:bE s 0=240
 · rw[Gu,←Lib.slow_F0 _ _ _ _ _ h0 a1 a2 a3 cG];exact N5 s h0 cG
 by_cases cH:241≤bE s 0∧bE s 0<244
 · rw[Gu,←Lib.slow_F1 _ _ _ _ _ h0 a1 a2 a3 cH];exact N7 s h0 cH
 · have cI:bE s 0=244:=by omega
   rw[Gu,←Lib.slow_F4 _ _ _ _ _ h0 a1 a2 a3 cI];exact N8 s h0 cI
theorem Gv (h0:0<s.data.toList.length):an acb env 111 [.p (.sc (.string s))] [] (.au [.ah,sI .i64 ((Gu s).2:Nat)]) []:=by
 have he:(s.data.toList==(aeO #[]).data.toList)=false:=by
  cases h:s.data.toList with
  |nil=>rw[h] at h0;cases h0
  |cons a r=>rfl
 have fj:aW 0 s.data.toList.length=true:=by simp only[aW,c8,decide_eq_true_eq];omega
 by_cases hb:bE s 0<128
 · have e:decide ((bE s 0:Int)<128)=true:=decide_eq_true (by omega)
   have hd:(Gu s).2=1:=by unfold Gu ae3;rw[if_pos hb]
   rw[hd]
   refine aY (r:=aeW.wrap (bE s 0:Nat)) (af aM (Ep s 0) ?_)
   simp only[CG,az.ok,he,fj,e,ph,aeq,pb,ae5,false_implies,true_implies,true_and,and_true]
   first | rfl | trivial
 · have e:decide ((bE s 0:Int)<128)=false:=decide_eq_false (by omega)
   refine af aM (Ep s ((Gu s).2:Nat)) ?_
   simp only[CG,az.ok,he,fj,e,ph,aeq,pb,ae5,false_implies,true_implies,true_and,and_true]
   exact J5 s h0 (by omega)
end
theorem RV (s:ByteArray) (i:Nat):1≤(ae0 s i).2:=by
 rw[ae4]
 unfold ae3
 repeat' split
 all_goals simp
theorem mS (s:ByteArray) (i:Nat):(s.extract i s.data.toList.length).data.toList=s.data.toList.drop i:=by
 simp only[ByteArray.data_extract,Array.toList_extract,List.extract_eq_take_drop]
 rw[List.take_of_length_le]
 rw[dv]
 exact Nat.le_refl _
theorem Oa (s:ByteArray) (j:Nat):s.get! j=s.data.toList.getD j 0:=by
 obtain⟨d⟩:=s
 show d[j]! = d.toList.getD j 0
 rw[Array.getElem!_eq_getD,ch,Array.getElem?_toList]
 by_cases h:j<d.size
 · simp[Array.getD,h]
 · simp[Array.getD,h];rfl
theorem Ob (s:ByteArray) (i:Nat):Gu (s.extract i s.data.toList.length)=ae0 s i:=by
 have g : ∀j,(s.get! (i+j)).toNat=bE (s.extract i s.data.toList.length) j:=fun j=>by
  rw[Oa,bE,mS,ch,ch,List.getElem?_drop]
 have g0:=g 0
 rw[Nat.add_zero] at g0
 rw[ae4,Gu,g0,g 1,g 2,g 3,mS,dv]
 rfl
def Oc (s:ByteArray):Nat→Nat→Int
 |0,_=> -1
 |k+1,i=>if i<s.size then(if(ae0 s i).1=65533∧(ae0 s i).2=1 then i else Oc s k (i+(ae0 s i).2)) else -1
def RW (s:ByteArray):Int:=Oc s (s.size+1) 0
noncomputable abbrev uU (s:ByteArray) (k:aD):cw:=ak acb env 67 0 [.p (.sc (.string s)),.mp 0 0] [.ob k []] 0 28
theorem WQ (s:ByteArray) (i:Nat):(uU s (.iter s i)).st.mem=[.ob (.iter s i) []]:=by kernel_rfl
theorem RX (s:ByteArray) (i:Nat):L8 (uU s (.iter s i))=true:=by kernel_rfl
theorem RY (s:ByteArray) (i:Nat) (b:Bool):({uU s (.iter s i) with st:={(uU s (.iter s i)).st with mem:=[.ob (.P6 s i b) []]}}:cw)=uU s (.P6 s i b):=by kernel_rfl
theorem Ix (s:ByteArray) (i:Nat) (o:Out) (h:cO acb env (uU s (.P6 s i (ar i s.size))) o):cO acb env (uU s (.iter s i)) o:=by
 rw[←RY] at h
 have e1:=WQ s i
 have e2:=RX s i
 generalize uU s (.iter s i)=c at h e1 e2 ⊢
 exact Go.Am.cO.more e1 e2 h
theorem RZ (s:ByteArray) (hs:s.size≤maxLen) : ∀(k i:Nat),s.size+1≤i+k →
  cO acb env (ak acb env 67 0 [.p (.sc (.string s)),.mp 0 0] [.ob (.iter s i) []] 0 28) (.ret (sI .i64 (Oc s k i)) []):=by
 intro k
 induction k with
 |zero=>
  intro i hi
  refine Ix s i _ ?_
  have hb:ar i s.size=false:=by cases h:ar i s.size with | false=>rfl | true=>rw[ft] at h;omega
  rw[hb]
  exact aj aM (Er s i 0) rfl
 |succ k ih=>
  intro i hi
  refine Ix s i _ ?_
  by_cases hlt:i<s.size
  · have hb:ar i s.size=true:=by rw[ft];exact hlt
    have hp:=RV s i
    have hn:s.data.toList.length=s.size:=Array.length_toList
    have hc:=Gv (s.extract i s.data.toList.length) (by rw[mS,dv];omega)
    rw[Ob] at hc
    rw[hb]
    refine aj aM (NZ s i ((ae0 s i).2:Nat)) ?_
    have next:=ih (i+(ae0 s i).2) (by omega)
    simp only[Iv,bF,az.ok,acy,Oc,if_pos hlt]
    refine⟨fun q=> ?_,fun q=>⟨?_,hc,fun r=> ?_,fun r=> ?_⟩⟩
    · have q:(ae0 s i).1≠65533:=fun h=>by rw[h] at q;exact absurd q (by decide)
      rw[if_neg (fun h=>q h.1)]
      exact next
    · simp only[aeq,c8,Nat.ble_eq];omega
    · have q:(ae0 s i).1=65533:=by simp only[bne_eq_false_iff_eq] at q;omega
      have r:(ae0 s i).2=1:=by simp only[beq_iff_eq] at r;omega
      rw[if_pos ⟨q,r⟩]
    · have r:(ae0 s i).2≠1:=fun h=>by rw[h] at r;exact absurd r (by decide)
      rw[if_neg (fun h=>r h.2)]
      exact next
  · have hb:ar i s.size=false:=by cases h:ar i s.size with | false=>rfl | true=>rw[ft] at h;omega
    rw[hb]
    refine aj aM (Er s i 0) ?_
    simp only[Iw,az.ok,Oc,if_neg hlt]
theorem CJ (s:ByteArray):aeO ((s.data.toList.map mm).map Am.byteOf).toArray=s:=by
 have h:(Am.byteOf ∘ mm)=id:=funext fun b=>by
  show UInt8.ofNat ((b.toNat:Int)).toNat=b
  simp
 rw[List.map_map,h,List.map_id]
theorem Od (l:List UInt8):(l.map mm).all isByte=true:=by
 rw[List.all_map,List.all_eq_true]
 intro b _
 rfl
theorem J6 (s:ByteArray) (hs:s.size≤maxLen):an acb env 67 [.p (.ps s.data.toList.length 1 (s.data.toList.map mm))] [] (sI .i64 (RW s)) []:=by
 refine af aM (NY s.data.toList.length (s.data.toList.map mm)) ?_
 simp only[Iu,az.ok,CJ]
 exact⟨by rw[Od];rfl,RZ s hs (s.size+1) 0 (by omega)⟩
end Go.Proofs.YtdmmllcjgjmbbaaGreatDoor.N
end
