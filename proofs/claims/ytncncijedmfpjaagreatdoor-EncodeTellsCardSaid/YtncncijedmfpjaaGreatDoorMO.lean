import Derived.Test.YtncncijedmfpjaaGreatDoorML
import Derived.Test.YtncncijedmfpjaaGreatDoorMN
import Derived.Lib.DecodeN
open ByteArray renaming mk→afC
open Go.IntKind renaming i32→ajx,u8→ajw
open Go.Proofs.Tryz renaming prog→ae
open Go.Value renaming string→ajZ
open BitVec renaming ofInt→df
open List renaming range→fe,getD_eq_getElem?_getD→de,mem_filter→aj0,mem_range→Hn,getElem?_eq_getElem→da,length_drop→ee,map→aeM
open Go.Utf8 renaming decode→aj2
open Go.Lib renaming slowN→aj4,decodeN→aj5,decode_at→aj7
open Nat renaming zero_add→pn,mul_one→ajS,blt→bj,blt_eq→gg
open Bool renaming false_eq_true→o0,true_eq_false→ajE,and_true→ajQ,and_eq_true→di,not_false→pa
open Int renaming toNat_natCast→afm
noncomputable section
section
set_option linter.unusedSimpArgs false
set_option linter.unusedVariables false
namespace Go.Proofs.YtncncijedmfpjaaGreatDoor.N
open Go Go.Am
def cP:List PV:=iR.map fun z=> .sc (.int .u8 z)
def drC (s:ByteArray) (w:Int) (fn:FuncId) (_:List AV) (m:Mem):Option (AV×Mem):=cond (Nat.beq fn 126) (some (.aK [.bC,sI .i64 w],m)) none
def alu (s:ByteArray):FuncId→Nat→Nat→Option (AV→AV):=bJ [(126,6,2,sI .u8 241)]
def alv (s:ByteArray):FuncId→Nat→Nat→Option (AV→AV):=bJ [(126,6,2,sI .u8 2)]
def alw (s:ByteArray):FuncId→Nat→Nat→Option (AV→AV):=bJ [(126,6,2,sI .u8 19)]
def alx (s:ByteArray):FuncId→Nat→Nat→Option (AV→AV):=bJ [(126,6,2,sI .u8 3)]
def aly (s:ByteArray):FuncId→Nat→Nat→Option (AV→AV):=bJ [(126,6,2,sI .u8 35)]
def alz (s:ByteArray):FuncId→Nat→Nat→Option (AV→AV):=bJ [(126,6,2,sI .u8 52)]
def alA (s:ByteArray):FuncId→Nat→Nat→Option (AV→AV):=bJ [(126,6,2,sI .u8 4)]
def alB (s:ByteArray):FuncId→Nat→Nat→Option (AV→AV):=bJ [(126,6,2,sI .u8 68)]
def blC (s:ByteArray) (i:Nat) (w:Int) (fn:FuncId) (_:List AV) (m:Mem):Option (AV×Mem):=cond (Nat.beq fn 114) (some (.aK [.bC,sI .i64 w],m)) none
def abv (s:ByteArray) (w:Int):bA:=aM (drC s w) aC [] [(114,2,3),(114,0,0)] [(114,2,4),(114,3,1)]
def ag3:Sc:=(.fork .fin (.lit .fin))
def DT (s:ByteArray) (w:Int):aA:=
 (.test (!s.data.toList==(afC #[]).data.toList)
 (.must (aP 0 s.data.toList.length&&true)
 (.test (decide ((↑(s.data.toList.getD 0 0).toNat:Int)<128))
 (.must (aP 0 s.data.toList.length&&true)
 (.out (.ret (.aK [sI .i32 (ajx.wrap (↑(s.data.toList.getD 0 0).toNat:Int)),sI .i64 1]) [])))
 (.call ⟨126,[.p (.sc (.string s))],[],.aK [.bC,sI .i64 w],[]⟩
 (.out (.ret (.aK [.bC,sI .i64 w]) [])))))
 (.call ⟨126,[.p (.sc (.string s))],[],.aK [.bC,sI .i64 w],[]⟩
 (.out (.ret (.aK [.bC,sI .i64 w]) []))))
theorem F8 (s:ByteArray) (w:Int):aI ae env (abv s w) 1000000 114 ([AV.p (PV.sc (ajZ s))]) ([]) ag3=DT s w:=by kernel_rfl
def abw (s:ByteArray):bA:=dY aE aC [] [(126,0,0)] [(126,5,1),(126,6,1),(126,6,2),(126,9,1)] (alu s)
def ag4:Sc:= .fin
def KK (s:ByteArray):aA:=
 (.test (decide ((↑s.data.toList.length:Int)<1))
 (.out (.ret (.aK [sI .i32 65533,sI .i64 0]) []))
 (.must (aP 0 s.data.toList.length&&true)
 (.must (aP (↑(s.data.toList.getD 0 0).toNat:Int) 256&&true)
 (.must (isInt ajw (aq cP (0+(↑(s.data.toList.getD 0 0).toNat:Int).toNat*1))&&true)
 (.need (sI .u8 (au (aq cP (0+(↑(s.data.toList.getD 0 0).toNat:Int).toNat*1)))=sI ajw 241)
 (.must (aP 0 s.data.toList.length&&true)
 (.out (.ret (.aK [sI .i32 (ajx.wrap (↑(df 32 (ajx.wrap (↑(df 32 (ajx.wrap (↑(s.data.toList.getD 0 0).toNat:Int)) &&& ~~~df 32 (-1)).toNat:Int))|||df 32 65533).toNat:Int)),sI .i64 1]) []))))))))
theorem Rm (s:ByteArray):aI ae env (abw s) 1000000 126 ([AV.p (PV.sc (ajZ s))]) ([]) ag4=KK s:=by kernel_rfl
def abx (s:ByteArray):bA:=dY aE aC [] [(126,0,0),(126,0,2),(126,15,5),(126,0,3)] [(126,5,1),(126,6,1),(126,6,2),(126,14,1)] (alv s)
def ag5:Sc:=(.fork .fin (.fork .fin (.fork (.lit .fin) .fin)))
def sD (s:ByteArray):aA:=
 (.test (decide ((↑s.data.toList.length:Int)<1))
 (.out (.ret (.aK [sI .i32 65533,sI .i64 0]) []))
 (.must (aP 0 s.data.toList.length&&true)
 (.must (aP (↑(s.data.toList.getD 0 0).toNat:Int) 256&&true)
 (.must (isInt ajw (aq cP (0+(↑(s.data.toList.getD 0 0).toNat:Int).toNat*1))&&true)
 (.need (sI .u8 (au (aq cP (0+(↑(s.data.toList.getD 0 0).toNat:Int).toNat*1)))=sI ajw 2)
 (.test (decide ((↑s.data.toList.length:Int)<2))
 (.out (.ret (.aK [sI .i32 65533,sI .i64 1]) []))
 (.must (aP 1 s.data.toList.length&&true)
 (.test (decide ((↑(s.data.toList.getD 1 0).toNat:Int)<128))
 (.out (.ret (.aK [sI .i32 65533,sI .i64 1]) []))
 (.test (decide (191<(↑(s.data.toList.getD 1 0).toNat:Int)))
 (.out (.ret (.aK [sI .i32 65533,sI .i64 1]) []))
 (.out (.ret (.aK [sI .i32 (ajx.wrap (↑(df 32 (ajx.wrap (ajx.wrap (ajw.wrap (↑(df 8 (↑(s.data.toList.getD 0 0).toNat:Int)&&&df 8 31).toNat:Int))*64))|||df 32 (ajx.wrap (ajw.wrap (↑(df 8 (↑(s.data.toList.getD 1 0).toNat:Int)&&&df 8 63).toNat:Int)))).toNat:Int)),sI .i64 2]) [])))))))))))
theorem sE (s:ByteArray):aI ae env (abx s) 1000000 126 ([AV.p (PV.sc (ajZ s))]) ([]) ag5=sD s:=by kernel_rfl
def aby (s:ByteArray):bA:=dY aE aC [] [(126,0,0),(126,0,2),(126,15,5),(126,0,3),(126,20,3),(126,0,5)] [(126,5,1),(126,6,1),(126,6,2),(126,14,1),(126,19,1)] (alw s)
def ag6:Sc:=(.fork .fin (.fork .fin (.fork (.lit .fin) (.fork .fin (.fork (.lit .fin) .fin)))))
def fc:aA:=
 (.out (.ret (.aK [sI .i32 65533,sI .i64 1]) []))
def m7 (s:ByteArray):aA:=
 (.test (decide ((↑s.data.toList.length:Int)<1))
 (.out (.ret (.aK [sI .i32 65533,sI .i64 0]) []))
 (.must (aP 0 s.data.toList.length&&true)
 (.must (aP (↑(s.data.toList.getD 0 0).toNat:Int) 256&&true)
 (.must (isInt ajw (aq cP (0+(↑(s.data.toList.getD 0 0).toNat:Int).toNat*1))&&true)
 (.need (sI .u8 (au (aq cP (0+(↑(s.data.toList.getD 0 0).toNat:Int).toNat*1)))=sI ajw 19)
 (.test (decide ((↑s.data.toList.length:Int)<3))
 (fc)
 (.must (aP 1 s.data.toList.length&&true)
 (.test (decide ((↑(s.data.toList.getD 1 0).toNat:Int)<160))
 (fc)
 (.test (decide (191<(↑(s.data.toList.getD 1 0).toNat:Int)))
 (fc)
 (.must (aP 2 s.data.toList.length&&true)
 (.test (decide ((↑(s.data.toList.getD 2 0).toNat:Int)<128))
 (fc)
 (.test (decide (191<(↑(s.data.toList.getD 2 0).toNat:Int)))
 (fc)
 (.out (.ret (.aK [sI .i32 (ajx.wrap (↑(df 32 (ajx.wrap (↑(df 32 (ajx.wrap (ajx.wrap (ajw.wrap (↑(df 8 (↑(s.data.toList.getD 0 0).toNat:Int)&&&df 8 15).toNat:Int))*4096))|||df 32 (ajx.wrap (ajx.wrap (ajw.wrap (↑(df 8 (↑(s.data.toList.getD 1 0).toNat:Int)&&&df 8 63).toNat:Int))*64))).toNat:Int))|||df 32 (ajx.wrap (ajw.wrap (↑(df 8 (↑(s.data.toList.getD 2 0).toNat:Int)&&&df 8 63).toNat:Int)))).toNat:Int)),sI .i64 3]) []))))))))))))))
theorem mC (s:ByteArray):aI ae env (aby s) 1000000 126 ([AV.p (PV.sc (ajZ s))]) ([]) ag6=m7 s:=by kernel_rfl
def abz (s:ByteArray):bA:=dY aE aC [] [(126,0,0),(126,0,2),(126,15,5),(126,0,3),(126,20,3),(126,0,5)] [(126,5,1),(126,6,1),(126,6,2),(126,14,1),(126,19,1)] (alx s)
def ag7:Sc:=(.fork .fin (.fork .fin (.fork (.lit .fin) (.fork .fin (.fork (.lit .fin) .fin)))))
def ff:aA:=
 (.out (.ret (.aK [sI .i32 65533,sI .i64 1]) []))
def m8 (s:ByteArray):aA:=
 (.test (decide ((↑s.data.toList.length:Int)<1))
 (.out (.ret (.aK [sI .i32 65533,sI .i64 0]) []))
 (.must (aP 0 s.data.toList.length&&true)
 (.must (aP (↑(s.data.toList.getD 0 0).toNat:Int) 256&&true)
 (.must (isInt ajw (aq cP (0+(↑(s.data.toList.getD 0 0).toNat:Int).toNat*1))&&true)
 (.need (sI .u8 (au (aq cP (0+(↑(s.data.toList.getD 0 0).toNat:Int).toNat*1)))=sI ajw 3)
 (.test (decide ((↑s.data.toList.length:Int)<3))
 (ff)
 (.must (aP 1 s.data.toList.length&&true)
 (.test (decide ((↑(s.data.toList.getD 1 0).toNat:Int)<128))
 (ff)
 (.test (decide (191<(↑(s.data.toList.getD 1 0).toNat:Int)))
 (ff)
 (.must (aP 2 s.data.toList.length&&true)
 (.test (decide ((↑(s.data.toList.getD 2 0).toNat:Int)<128))
 (ff)
 (.test (decide (191<(↑(s.data.toList.getD 2 0).toNat:Int)))
 (ff)
 (.out (.ret (.aK [sI .i32 (ajx.wrap (↑(df 32 (ajx.wrap (↑(df 32 (ajx.wrap (ajx.wrap (ajw.wrap (↑(df 8 (↑(s.data.toList.getD 0 0).toNat:Int)&&&df 8 15).toNat:Int))*4096))|||df 32 (ajx.wrap (ajx.wrap (ajw.wrap (↑(df 8 (↑(s.data.toList.getD 1 0).toNat:Int)&&&df 8 63).toNat:Int))*64))).toNat:Int))|||df 32 (ajx.wrap (ajw.wrap (↑(df 8 (↑(s.data.toList.getD 2 0).toNat:Int)&&&df 8 63).toNat:Int)))).toNat:Int)),sI .i64 3]) []))))))))))))))
theorem mD (s:ByteArray):aI ae env (abz s) 1000000 126 ([AV.p (PV.sc (ajZ s))]) ([]) ag7=m8 s:=by kernel_rfl
def abA (s:ByteArray):bA:=dY aE aC [] [(126,0,0),(126,0,2),(126,15,5),(126,0,3),(126,20,3),(126,0,5)] [(126,5,1),(126,6,1),(126,6,2),(126,14,1),(126,19,1)] (aly s)
def ag8:Sc:=(.fork .fin (.fork .fin (.fork (.lit .fin) (.fork .fin (.fork (.lit .fin) .fin)))))
def fj:aA:=
 (.out (.ret (.aK [sI .i32 65533,sI .i64 1]) []))
def m9 (s:ByteArray):aA:=
 (.test (decide ((↑s.data.toList.length:Int)<1))
 (.out (.ret (.aK [sI .i32 65533,sI .i64 0]) []))
 (.must (aP 0 s.data.toList.length&&true)
 (.must (aP (↑(s.data.toList.getD 0 0).toNat:Int) 256&&true)
 (.must (isInt ajw (aq cP (0+(↑(s.data.toList.getD 0 0).toNat:Int).toNat*1))&&true)
 (.need (sI .u8 (au (aq cP (0+(↑(s.data.toList.getD 0 0).toNat:Int).toNat*1)))=sI ajw 35)
 (.test (decide ((↑s.data.toList.length:Int)<3))
 (fj)
 (.must (aP 1 s.data.toList.length&&true)
 (.test (decide ((↑(s.data.toList.getD 1 0).toNat:Int)<128))
 (fj)
 (.test (decide (159<(↑(s.data.toList.getD 1 0).toNat:Int)))
 (fj)
 (.must (aP 2 s.data.toList.length&&true)
 (.test (decide ((↑(s.data.toList.getD 2 0).toNat:Int)<128))
 (fj)
 (.test (decide (191<(↑(s.data.toList.getD 2 0).toNat:Int)))
 (fj)
 (.out (.ret (.aK [sI .i32 (ajx.wrap (↑(df 32 (ajx.wrap (↑(df 32 (ajx.wrap (ajx.wrap (ajw.wrap (↑(df 8 (↑(s.data.toList.getD 0 0).toNat:Int)&&&df 8 15).toNat:Int))*4096))|||df 32 (ajx.wrap (ajx.wrap (ajw.wrap (↑(df 8 (↑(s.data.toList.getD 1 0).toNat:Int)&&&df 8 63).toNat:Int))*64))).toNat:Int))|||df 32 (ajx.wrap (ajw.wrap (↑(df 8 (↑(s.data.toList.getD 2 0).toNat:Int)&&&df 8 63).toNat:Int)))).toNat:Int)),sI .i64 3]) []))))))))))))))
theorem mE (s:ByteArray):aI ae env (abA s) 1000000 126 ([AV.p (PV.sc (ajZ s))]) ([]) ag8=m9 s:=by kernel_rfl
def abB (s:ByteArray):bA:=dY aE aC [] [(126,0,0),(126,0,2),(126,15,5),(126,0,3),(126,20,3),(126,0,5),(126,25,3),(126,0,7)] [(126,5,1),(126,6,1),(126,6,2),(126,14,1),(126,19,1),(126,24,1)] (alz s)
def ag9:Sc:=(.fork .fin (.fork .fin (.fork (.lit .fin) (.fork .fin (.fork (.lit .fin) (.fork .fin (.fork (.lit .fin) .fin)))))))
def dK:aA:=
 (.out (.ret (.aK [sI .i32 65533,sI .i64 1]) []))
def jV (s:ByteArray):aA:=
 (.test (decide ((↑s.data.toList.length:Int)<1))
 (.out (.ret (.aK [sI .i32 65533,sI .i64 0]) []))
 (.must (aP 0 s.data.toList.length&&true)
 (.must (aP (↑(s.data.toList.getD 0 0).toNat:Int) 256&&true)
 (.must (isInt ajw (aq cP (0+(↑(s.data.toList.getD 0 0).toNat:Int).toNat*1))&&true)
 (.need (sI .u8 (au (aq cP (0+(↑(s.data.toList.getD 0 0).toNat:Int).toNat*1)))=sI ajw 52)
 (.test (decide ((↑s.data.toList.length:Int)<4))
 (dK)
 (.must (aP 1 s.data.toList.length&&true)
 (.test (decide ((↑(s.data.toList.getD 1 0).toNat:Int)<144))
 (dK)
 (.test (decide (191<(↑(s.data.toList.getD 1 0).toNat:Int)))
 (dK)
 (.must (aP 2 s.data.toList.length&&true)
 (.test (decide ((↑(s.data.toList.getD 2 0).toNat:Int)<128))
 (dK)
 (.test (decide (191<(↑(s.data.toList.getD 2 0).toNat:Int)))
 (dK)
 (.must (aP 3 s.data.toList.length&&true)
 (.test (decide ((↑(s.data.toList.getD 3 0).toNat:Int)<128))
 (dK)
 (.test (decide (191<(↑(s.data.toList.getD 3 0).toNat:Int)))
 (dK)
 (.out (.ret (.aK [sI .i32 (ajx.wrap (↑(df 32 (ajx.wrap (↑(df 32 (ajx.wrap (↑(df 32 (ajx.wrap (ajx.wrap (ajw.wrap (↑(df 8 (↑(s.data.toList.getD 0 0).toNat:Int)&&&df 8 7).toNat:Int))*262144))|||df 32 (ajx.wrap (ajx.wrap (ajw.wrap (↑(df 8 (↑(s.data.toList.getD 1 0).toNat:Int)&&&df 8 63).toNat:Int))*4096))).toNat:Int))|||df 32 (ajx.wrap (ajx.wrap (ajw.wrap (↑(df 8 (↑(s.data.toList.getD 2 0).toNat:Int)&&&df 8 63).toNat:Int))*64))).toNat:Int))|||df 32 (ajx.wrap (ajw.wrap (↑(df 8 (↑(s.data.toList.getD 3 0).toNat:Int)&&&df 8 63).toNat:Int)))).toNat:Int)),sI .i64 4]) [])))))))))))))))))
theorem jx (s:ByteArray):aI ae env (abB s) 1000000 126 ([AV.p (PV.sc (ajZ s))]) ([]) ag9=jV s:=by kernel_rfl
def abC (s:ByteArray):bA:=dY aE aC [] [(126,0,0),(126,0,2),(126,15,5),(126,0,3),(126,20,3),(126,0,5),(126,25,3),(126,0,7)] [(126,5,1),(126,6,1),(126,6,2),(126,14,1),(126,19,1),(126,24,1)] (alA s)
def aha:Sc:=(.fork .fin (.fork .fin (.fork (.lit .fin) (.fork .fin (.fork (.lit .fin) (.fork .fin (.fork (.lit .fin) .fin)))))))
def dL:aA:=
 (.out (.ret (.aK [sI .i32 65533,sI .i64 1]) []))
def jX (s:ByteArray):aA:=
 (.test (decide ((↑s.data.toList.length:Int)<1))
 (.out (.ret (.aK [sI .i32 65533,sI .i64 0]) []))
 (.must (aP 0 s.data.toList.length&&true)
 (.must (aP (↑(s.data.toList.getD 0 0).toNat:Int) 256&&true)
 (.must (isInt ajw (aq cP (0+(↑(s.data.toList.getD 0 0).toNat:Int).toNat*1))&&true)
 (.need (sI .u8 (au (aq cP (0+(↑(s.data.toList.getD 0 0).toNat:Int).toNat*1)))=sI ajw 4)
 (.test (decide ((↑s.data.toList.length:Int)<4))
 (dL)
 (.must (aP 1 s.data.toList.length&&true)
 (.test (decide ((↑(s.data.toList.getD 1 0).toNat:Int)<128))
 (dL)
 (.test (decide (191<(↑(s.data.toList.getD 1 0).toNat:Int)))
 (dL)
 (.must (aP 2 s.data.toList.length&&true)
 (.test (decide ((↑(s.data.toList.getD 2 0).toNat:Int)<128))
 (dL)
 (.test (decide (191<(↑(s.data.toList.getD 2 0).toNat:Int)))
 (dL)
 (.must (aP 3 s.data.toList.length&&true)
 (.test (decide ((↑(s.data.toList.getD 3 0).toNat:Int)<128))
 (dL)
 (.test (decide (191<(↑(s.data.toList.getD 3 0).toNat:Int)))
 (dL)
 (.out (.ret (.aK [sI .i32 (ajx.wrap (↑(df 32 (ajx.wrap (↑(df 32 (ajx.wrap (↑(df 32 (ajx.wrap (ajx.wrap (ajw.wrap (↑(df 8 (↑(s.data.toList.getD 0 0).toNat:Int)&&&df 8 7).toNat:Int))*262144))|||df 32 (ajx.wrap (ajx.wrap (ajw.wrap (↑(df 8 (↑(s.data.toList.getD 1 0).toNat:Int)&&&df 8 63).toNat:Int))*4096))).toNat:Int))|||df 32 (ajx.wrap (ajx.wrap (ajw.wrap (↑(df 8 (↑(s.data.toList.getD 2 0).toNat:Int)&&&df 8 63).toNat:Int))*64))).toNat:Int))|||df 32 (ajx.wrap (ajw.wrap (↑(df 8 (↑(s.data.toList.getD 3 0).toNat:Int)&&&df 8 63).toNat:Int)))).toNat:Int)),sI .i64 4]) [])))))))))))))))))
theorem jy (s:ByteArray):aI ae env (abC s) 1000000 126 ([AV.p (PV.sc (ajZ s))]) ([]) aha=jX s:=by kernel_rfl
def abD (s:ByteArray):bA:=dY aE aC [] [(126,0,0),(126,0,2),(126,15,5),(126,0,3),(126,20,3),(126,0,5),(126,25,3),(126,0,7)] [(126,5,1),(126,6,1),(126,6,2),(126,14,1),(126,19,1),(126,24,1)] (alB s)
def ahb:Sc:=(.fork .fin (.fork .fin (.fork (.lit .fin) (.fork .fin (.fork (.lit .fin) (.fork .fin (.fork (.lit .fin) .fin)))))))
def dM:aA:=
 (.out (.ret (.aK [sI .i32 65533,sI .i64 1]) []))
def jY (s:ByteArray):aA:=
 (.test (decide ((↑s.data.toList.length:Int)<1))
 (.out (.ret (.aK [sI .i32 65533,sI .i64 0]) []))
 (.must (aP 0 s.data.toList.length&&true)
 (.must (aP (↑(s.data.toList.getD 0 0).toNat:Int) 256&&true)
 (.must (isInt ajw (aq cP (0+(↑(s.data.toList.getD 0 0).toNat:Int).toNat*1))&&true)
 (.need (sI .u8 (au (aq cP (0+(↑(s.data.toList.getD 0 0).toNat:Int).toNat*1)))=sI ajw 68)
 (.test (decide ((↑s.data.toList.length:Int)<4))
 (dM)
 (.must (aP 1 s.data.toList.length&&true)
 (.test (decide ((↑(s.data.toList.getD 1 0).toNat:Int)<128))
 (dM)
 (.test (decide (143<(↑(s.data.toList.getD 1 0).toNat:Int)))
 (dM)
 (.must (aP 2 s.data.toList.length&&true)
 (.test (decide ((↑(s.data.toList.getD 2 0).toNat:Int)<128))
 (dM)
 (.test (decide (191<(↑(s.data.toList.getD 2 0).toNat:Int)))
 (dM)
 (.must (aP 3 s.data.toList.length&&true)
 (.test (decide ((↑(s.data.toList.getD 3 0).toNat:Int)<128))
 (dM)
 (.test (decide (191<(↑(s.data.toList.getD 3 0).toNat:Int)))
 (dM)
 (.out (.ret (.aK [sI .i32 (ajx.wrap (↑(df 32 (ajx.wrap (↑(df 32 (ajx.wrap (↑(df 32 (ajx.wrap (ajx.wrap (ajw.wrap (↑(df 8 (↑(s.data.toList.getD 0 0).toNat:Int)&&&df 8 7).toNat:Int))*262144))|||df 32 (ajx.wrap (ajx.wrap (ajw.wrap (↑(df 8 (↑(s.data.toList.getD 1 0).toNat:Int)&&&df 8 63).toNat:Int))*4096))).toNat:Int))|||df 32 (ajx.wrap (ajx.wrap (ajw.wrap (↑(df 8 (↑(s.data.toList.getD 2 0).toNat:Int)&&&df 8 63).toNat:Int))*64))).toNat:Int))|||df 32 (ajx.wrap (ajw.wrap (↑(df 8 (↑(s.data.toList.getD 3 0).toNat:Int)&&&df 8 63).toNat:Int)))).toNat:Int)),sI .i64 4]) [])))))))))))))))))
theorem jz (s:ByteArray):aI ae env (abD s) 1000000 126 ([AV.p (PV.sc (ajZ s))]) ([]) ahb=jY s:=by kernel_rfl
def abE:bA:=aM aE aC [(74,0)] [] [(74,2,1)]
def ahc:Sc:= .fin
def KL (n:Nat) (l:List PV):aA:=
 (.must (l.all isByte&&true)
 (.at (ah ae env 74 0 [.p (.sc (.string (afC (aeM Am.byteOf l).toArray))),.mp 0 0] ([.ob (dS.iter (afC (aeM Am.byteOf l).toArray) 0) []]) 0 28)))
theorem Rn (n:Nat) (l:List PV):aI ae env abE 1000000 74 ([AV.p (PV.ps n 1 l)]) ([]) ahc=KL n l:=by kernel_rfl
def abF (s:ByteArray) (i:Nat) (w:Int):bA:=aM (blC s i w) aC [(74,0)] [(74,0,2),(74,0,3)] [(74,7,2)]
def ahd:Sc:= .fin
def KM (s:ByteArray) (i:Nat) (w:Int):aA:=
 (.test ((↑(aj2 s i).fst:Int) != 65533)
 (.at (ah ae env 74 0 [.p (.sc (.string s)),.mp 0 0] ([.ob (dS.iter s (i+(aj2 s i).snd)) []]) 0 28))
 (.must ((aB i).ble s.data.toList.length&&s.data.toList.length.ble s.data.toList.length&&true)
 (.call ⟨114,[.p (.sc (.string (s.extract (aB i) s.data.toList.length)))],[],.aK [.bC,sI .i64 w],[]⟩
 (.test (w==1)
 (.out (.ret (sI .i64 (↑i:Int)) []))
 (.at (ah ae env 74 0 [.p (.sc (.string s)),.mp 0 0] ([.ob (dS.iter s (i+(aj2 s i).snd)) []]) 0 28))))))
theorem Ro (s:ByteArray) (i:Nat) (w:Int):grow ae env (abF s i w) 1000000 true (ah ae env 74 0 ([AV.p (PV.sc (ajZ s)),AV.mp 0 0]) ([bq.ob (dS.TD s i true) []]) 0 28) ahd atEnd=KM s i w:=by kernel_rfl
def abG (s:ByteArray) (i:Nat) (w:Int):bA:=aM (blC s i w) aC [(74,0)] [] []
def ahe:Sc:= .fin
def KN (s:ByteArray) (i:Nat) (w:Int):aA:=
 (.out (.ret (sI .i64 (-1)) []))
theorem F9 (s:ByteArray) (i:Nat) (w:Int):grow ae env (abG s i w) 1000000 true (ah ae env 74 0 ([AV.p (PV.sc (ajZ s)),AV.mp 0 0]) ([bq.ob (dS.TD s i false) []]) 0 28) ahe atEnd=KN s i w:=by kernel_rfl
theorem bH {f:FuncId} {args:List AV} {r w:Int} (h:az ae env f args [] (.aK [sI .i32 r,sI .i64 w]) []):az ae env f args [] (.aK [.bC,sI .i64 w]) []:=
 h.weak fun g wd cv q=>by
   cases q with
   |aK _ cs hl hc=>
    have hv:dj g wd [sI .i32 r,sI .i64 w] cs.toList:=bP.cY hl hc
    refine VA.mP.2 ?_
    generalize cs.toList=vs at hv
    match vs,hv with
    |[u,t],hv=>
     obtain⟨_,h2,_⟩:=hv
     cases h2 with
     |p _ _ h2=>cases h2 with
      |sc=>exact⟨.bC _,.p _ _ (.sc _),trivial⟩
theorem fV {b:Nat} (h:b<256):cP.getD b .bz = .sc (.int .u8 (iR.getD b 0)):=by
 have hl:iR.length=256:=by decide +kernel
 rw[cP,de,List.getElem?_map,da (by omega),de,da (by omega)]
 rfl
section
variable (s:ByteArray)
abbrev bQ (j:Nat):Nat:=(s.data.toList.getD j 0).toNat
def ef (sz lo hi:Nat):Nat×Nat:=aj4 s.data.toList.length (bQ s 0) (bQ s 1) (bQ s 2) (bQ s 3) sz lo hi
theorem lS (j:Nat):bQ s j<256:=(s.data.toList.getD j 0).toNat_lt
theorem abH (b:Nat) (h:128≤b∧b<194∨245≤b∧b<256):cP.getD b .bz = .sc (.int .u8 241):=by
 have hb:b<256:=by omega
 have h:b∈(fe 256).filter (fun b=>decide (128≤b∧b<194∨245≤b∧b<256)):=aj0.2 ⟨Hn.2 (by omega),decide_eq_true h⟩
 have hall : ∀b∈(fe 256).filter (fun b=>decide (128≤b∧b<194∨245≤b∧b<256)),iR.getD b 0=241:=by decide +kernel
 rw[fV hb,hall b h]
theorem Rp (h0:0<s.data.toList.length) (hb:128≤bQ s 0∧bQ s 0<194∨245≤bQ s 0∧bQ s 0<256):az ae env 126 [.p (.sc (.string s))] [] (.aK [.bC,sI .i64 1]) []:=by
 have firstAt:cP.getD (0+(s.data.toList.getD 0 0).toNat*1) .bz = .sc (.int .u8 241):=by rw[pn,ajS];exact abH (bQ s 0) hb
 have hn0:decide ((s.data.toList.length:Int)<1)=false:=decide_eq_false (by omega)
 have hin : ∀j:Nat,j<s.data.toList.length→aP (j:Int) s.data.toList.length=true:=fun j h=>by simp only[aP,di,decide_eq_true_eq];omega
 have fy:aP 0 s.data.toList.length=true:=hin 0 h0
 have ct:aP (bQ s 0:Int) 256=true:=by simp only[aP,di,decide_eq_true_eq];omega
 refine bH (r:=(ajx.wrap (↑(df 32 (ajx.wrap (↑(df 32 (ajx.wrap (↑(s.data.toList.getD 0 0).toNat:Int)) &&& ~~~df 32 (-1)).toNat:Int))|||df 32 65533).toNat:Int))) (aa aH (Rm s) ?_)
 simp only[KK,aV,aA.ok,hn0,fy,ct,afm,firstAt,isInt,au,ajQ,o0,ajE,false_implies,true_implies,true_and,and_true]
 first | rfl | exact⟨rfl,rfl⟩ | exact⟨rfl,rfl,rfl⟩
theorem abI (b:Nat) (h:194≤b∧b<224):cP.getD b .bz = .sc (.int .u8 2):=by
 have hb:b<256:=by omega
 have h:b∈(fe 256).filter (fun b=>decide (194≤b∧b<224)):=aj0.2 ⟨Hn.2 (by omega),decide_eq_true h⟩
 have hall : ∀b∈(fe 256).filter (fun b=>decide (194≤b∧b<224)),iR.getD b 0=2:=by decide +kernel
 rw[fV hb,hall b h]
theorem Rq (h0:0<s.data.toList.length) (hb:194≤bQ s 0∧bQ s 0<224):az ae env 126 [.p (.sc (.string s))] [] (.aK [.bC,sI .i64 ((ef s 2 128 191).2:Nat)]) []:=by
 have firstAt:cP.getD (0+(s.data.toList.getD 0 0).toNat*1) .bz = .sc (.int .u8 2):=by rw[pn,ajS];exact abI (bQ s 0) hb
 have hn0:decide ((s.data.toList.length:Int)<1)=false:=decide_eq_false (by omega)
 have hin : ∀j:Nat,j<s.data.toList.length→aP (j:Int) s.data.toList.length=true:=fun j h=>by simp only[aP,di,decide_eq_true_eq];omega
 have fy:aP 0 s.data.toList.length=true:=hin 0 h0
 have ct:aP (bQ s 0:Int) 256=true:=by simp only[aP,di,decide_eq_true_eq];omega
 by_cases q0:s.data.toList.length<2
 · have e0:decide ((s.data.toList.length:Int)<2)=true:=decide_eq_true (by omega)
   have hs:ef s 2 128 191=(65533,1):=by unfold ef aj4;rw[if_pos q0]
   rw[hs]
   refine bH (r:=65533) (aa aH (sE s) ?_)
   simp only[sD,aV,aA.ok,hn0,fy,ct,afm,firstAt,isInt,au,ajQ,o0,ajE,false_implies,true_implies,true_and,and_true,e0]
   first | rfl | exact⟨rfl,rfl⟩ | exact⟨rfl,rfl,rfl⟩
 have e0:decide ((s.data.toList.length:Int)<2)=false:=decide_eq_false (by omega)
 have hi1:aP 1 s.data.toList.length=true:=hin 1 (by omega)
 by_cases q1:bQ s 1<128
 · have e1:decide ((bQ s 1:Int)<128)=true:=decide_eq_true (by omega)
   have hs:ef s 2 128 191=(65533,1):=by unfold ef aj4;rw[if_neg q0,if_pos (.inl q1)]
   rw[hs]
   refine bH (r:=65533) (aa aH (sE s) ?_)
   simp only[sD,aV,aA.ok,hn0,fy,ct,afm,firstAt,isInt,au,ajQ,o0,ajE,false_implies,true_implies,true_and,and_true,e0,e1,hi1]
   first | rfl | exact⟨rfl,rfl⟩ | exact⟨rfl,rfl,rfl⟩
 have e1:decide ((bQ s 1:Int)<128)=false:=decide_eq_false (by omega)
 by_cases q2:191<bQ s 1
 · have e2:decide (191<(bQ s 1:Int))=true:=decide_eq_true (by omega)
   have hs:ef s 2 128 191=(65533,1):=by unfold ef aj4;rw[if_neg q0,if_pos (.inr q2)]
   rw[hs]
   refine bH (r:=65533) (aa aH (sE s) ?_)
   simp only[sD,aV,aA.ok,hn0,fy,ct,afm,firstAt,isInt,au,ajQ,o0,ajE,false_implies,true_implies,true_and,and_true,e0,e1,e2,hi1]
   first | rfl | exact⟨rfl,rfl⟩ | exact⟨rfl,rfl,rfl⟩
 have e2:decide (191<(bQ s 1:Int))=false:=decide_eq_false (by omega)
 have hs:ef s 2 128 191=(bQ s 0%32*64+bQ s 1%64,2):=by unfold ef aj4;rw[if_neg q0,if_neg (not_or.2 ⟨q1,q2⟩),if_pos (by decide)]
 rw[hs]
 refine bH (r:=(ajx.wrap (↑(df 32 (ajx.wrap (ajx.wrap (ajw.wrap (↑(df 8 (↑(s.data.toList.getD 0 0).toNat:Int)&&&df 8 31).toNat:Int))*64))|||df 32 (ajx.wrap (ajw.wrap (↑(df 8 (↑(s.data.toList.getD 1 0).toNat:Int)&&&df 8 63).toNat:Int)))).toNat:Int))) (aa aH (sE s) ?_)
 simp only[sD,aV,aA.ok,hn0,fy,ct,afm,firstAt,isInt,au,ajQ,o0,ajE,false_implies,true_implies,true_and,and_true,e0,e1,e2,hi1]
 first | rfl | exact⟨rfl,rfl⟩ | exact⟨rfl,rfl,rfl⟩
theorem abJ (b:Nat) (h:b=224):cP.getD b .bz = .sc (.int .u8 19):=by
 have hb:b<256:=by omega
 have h:b∈(fe 256).filter (fun b=>decide (b=224)):=aj0.2 ⟨Hn.2 (by omega),decide_eq_true h⟩
 have hall : ∀b∈(fe 256).filter (fun b=>decide (b=224)),iR.getD b 0=19:=by decide +kernel
 rw[fV hb,hall b h]
theorem Rr (h0:0<s.data.toList.length) (hb:bQ s 0=224):az ae env 126 [.p (.sc (.string s))] [] (.aK [.bC,sI .i64 ((ef s 3 160 191).2:Nat)]) []:=by
 have firstAt:cP.getD (0+(s.data.toList.getD 0 0).toNat*1) .bz = .sc (.int .u8 19):=by rw[pn,ajS];exact abJ (bQ s 0) hb
 have hn0:decide ((s.data.toList.length:Int)<1)=false:=decide_eq_false (by omega)
 have hin : ∀j:Nat,j<s.data.toList.length→aP (j:Int) s.data.toList.length=true:=fun j h=>by simp only[aP,di,decide_eq_true_eq];omega
 have fy:aP 0 s.data.toList.length=true:=hin 0 h0
 have ct:aP (bQ s 0:Int) 256=true:=by simp only[aP,di,decide_eq_true_eq];omega
 by_cases q0:s.data.toList.length<3
 · have e0:decide ((s.data.toList.length:Int)<3)=true:=decide_eq_true (by omega)
   have hs:ef s 3 160 191=(65533,1):=by unfold ef aj4;rw[if_pos q0]
   rw[hs]
   refine bH (r:=65533) (aa aH (mC s) ?_)
   simp only[m7,fc,aV,aA.ok,hn0,fy,ct,afm,firstAt,isInt,au,ajQ,o0,ajE,false_implies,true_implies,true_and,and_true,e0]
   first | rfl | exact⟨rfl,rfl⟩ | exact⟨rfl,rfl,rfl⟩
 have e0:decide ((s.data.toList.length:Int)<3)=false:=decide_eq_false (by omega)
 have hi1:aP 1 s.data.toList.length=true:=hin 1 (by omega)
 by_cases q1:bQ s 1<160
 · have e1:decide ((bQ s 1:Int)<160)=true:=decide_eq_true (by omega)
   have hs:ef s 3 160 191=(65533,1):=by unfold ef aj4;rw[if_neg q0,if_pos (.inl q1)]
   rw[hs]
   refine bH (r:=65533) (aa aH (mC s) ?_)
   simp only[m7,fc,aV,aA.ok,hn0,fy,ct,afm,firstAt,isInt,au,ajQ,o0,ajE,false_implies,true_implies,true_and,and_true,e0,e1,hi1]
   first | rfl | exact⟨rfl,rfl⟩ | exact⟨rfl,rfl,rfl⟩
 have e1:decide ((bQ s 1:Int)<160)=false:=decide_eq_false (by omega)
 by_cases q2:191<bQ s 1
 · have e2:decide (191<(bQ s 1:Int))=true:=decide_eq_true (by omega)
   have hs:ef s 3 160 191=(65533,1):=by unfold ef aj4;rw[if_neg q0,if_pos (.inr q2)]
   rw[hs]
   refine bH (r:=65533) (aa aH (mC s) ?_)
   simp only[m7,fc,aV,aA.ok,hn0,fy,ct,afm,firstAt,isInt,au,ajQ,o0,ajE,false_implies,true_implies,true_and,and_true,e0,e1,e2,hi1]
   first | rfl | exact⟨rfl,rfl⟩ | exact⟨rfl,rfl,rfl⟩
 have e2:decide (191<(bQ s 1:Int))=false:=decide_eq_false (by omega)
 have hi2:aP 2 s.data.toList.length=true:=hin 2 (by omega)
 by_cases q3:bQ s 2<128
 · have e3:decide ((bQ s 2:Int)<128)=true:=decide_eq_true (by omega)
   have hs:ef s 3 160 191=(65533,1):=by unfold ef aj4;rw[if_neg q0,if_neg (not_or.2 ⟨q1,q2⟩),if_neg (by decide),if_pos (.inl q3)]
   rw[hs]
   refine bH (r:=65533) (aa aH (mC s) ?_)
   simp only[m7,fc,aV,aA.ok,hn0,fy,ct,afm,firstAt,isInt,au,ajQ,o0,ajE,false_implies,true_implies,true_and,and_true,e0,e1,e2,e3,hi1,hi2]
   first | rfl | exact⟨rfl,rfl⟩ | exact⟨rfl,rfl,rfl⟩
 have e3:decide ((bQ s 2:Int)<128)=false:=decide_eq_false (by omega)
 by_cases q4:191<bQ s 2
 · have e4:decide (191<(bQ s 2:Int))=true:=decide_eq_true (by omega)
   have hs:ef s 3 160 191=(65533,1):=by unfold ef aj4;rw[if_neg q0,if_neg (not_or.2 ⟨q1,q2⟩),if_neg (by decide),if_pos (.inr q4)]
   rw[hs]
   refine bH (r:=65533) (aa aH (mC s) ?_)
   simp only[m7,fc,aV,aA.ok,hn0,fy,ct,afm,firstAt,isInt,au,ajQ,o0,ajE,false_implies,true_implies,true_and,and_true,e0,e1,e2,e3,e4,hi1,hi2]
   first | rfl | exact⟨rfl,rfl⟩ | exact⟨rfl,rfl,rfl⟩
 have e4:decide (191<(bQ s 2:Int))=false:=decide_eq_false (by omega)
 have hs:ef s 3 160 191=(bQ s 0%16*4096+bQ s 1%64*64+bQ s 2%64,3):=by unfold ef aj4;rw[if_neg q0,if_neg (not_or.2 ⟨q1,q2⟩),if_neg (by decide),if_neg (not_or.2 ⟨q3,q4⟩),if_pos (by decide)]
 rw[hs]
 refine bH (r:=(ajx.wrap (↑(df 32 (ajx.wrap (↑(df 32 (ajx.wrap (ajx.wrap (ajw.wrap (↑(df 8 (↑(s.data.toList.getD 0 0).toNat:Int)&&&df 8 15).toNat:Int))*4096))|||df 32 (ajx.wrap (ajx.wrap (ajw.wrap (↑(df 8 (↑(s.data.toList.getD 1 0).toNat:Int)&&&df 8 63).toNat:Int))*64))).toNat:Int))|||df 32 (ajx.wrap (ajw.wrap (↑(df 8 (↑(s.data.toList.getD 2 0).toNat:Int)&&&df 8 63).toNat:Int)))).toNat:Int))) (aa aH (mC s) ?_)
 simp only[m7,fc,aV,aA.ok,hn0,fy,ct,afm,firstAt,isInt,au,ajQ,o0,ajE,false_implies,true_implies,true_and,and_true,e0,e1,e2,e3,e4,hi1,hi2]
 first | rfl | exact⟨rfl,rfl⟩ | exact⟨rfl,rfl,rfl⟩
theorem abK (b:Nat) (h:225≤b∧b<237∨238≤b∧b<240):cP.getD b .bz = .sc (.int .u8 3):=by
 have hb:b<256:=by omega
 have h:b∈(fe 256).filter (fun b=>decide (225≤b∧b<237∨238≤b∧b<240)):=aj0.2 ⟨Hn.2 (by omega),decide_eq_true h⟩
 have hall : ∀b∈(fe 256).filter (fun b=>decide (225≤b∧b<237∨238≤b∧b<240)),iR.getD b 0=3:=by decide +kernel
 rw[fV hb,hall b h]
theorem Rs (h0:0<s.data.toList.length) (hb:225≤bQ s 0∧bQ s 0<237∨238≤bQ s 0∧bQ s 0<240):az ae env 126 [.p (.sc (.string s))] [] (.aK [.bC,sI .i64 ((ef s 3 128 191).2:Nat)]) []:=by
 have firstAt:cP.getD (0+(s.data.toList.getD 0 0).toNat*1) .bz = .sc (.int .u8 3):=by rw[pn,ajS];exact abK (bQ s 0) hb
 have hn0:decide ((s.data.toList.length:Int)<1)=false:=decide_eq_false (by omega)
 have hin : ∀j:Nat,j<s.data.toList.length→aP (j:Int) s.data.toList.length=true:=fun j h=>by simp only[aP,di,decide_eq_true_eq];omega
 have fy:aP 0 s.data.toList.length=true:=hin 0 h0
 have ct:aP (bQ s 0:Int) 256=true:=by simp only[aP,di,decide_eq_true_eq];omega
 by_cases q0:s.data.toList.length<3
 · have e0:decide ((s.data.toList.length:Int)<3)=true:=decide_eq_true (by omega)
   have hs:ef s 3 128 191=(65533,1):=by unfold ef aj4;rw[if_pos q0]
   rw[hs]
   refine bH (r:=65533) (aa aH (mD s) ?_)
   simp only[m8,ff,aV,aA.ok,hn0,fy,ct,afm,firstAt,isInt,au,ajQ,o0,ajE,false_implies,true_implies,true_and,and_true,e0]
   first | rfl | exact⟨rfl,rfl⟩ | exact⟨rfl,rfl,rfl⟩
 have e0:decide ((s.data.toList.length:Int)<3)=false:=decide_eq_false (by omega)
 have hi1:aP 1 s.data.toList.length=true:=hin 1 (by omega)
 by_cases q1:bQ s 1<128
 · have e1:decide ((bQ s 1:Int)<128)=true:=decide_eq_true (by omega)
   have hs:ef s 3 128 191=(65533,1):=by unfold ef aj4;rw[if_neg q0,if_pos (.inl q1)]
   rw[hs]
   refine bH (r:=65533) (aa aH (mD s) ?_)
   simp only[m8,ff,aV,aA.ok,hn0,fy,ct,afm,firstAt,isInt,au,ajQ,o0,ajE,false_implies,true_implies,true_and,and_true,e0,e1,hi1]
   first | rfl | exact⟨rfl,rfl⟩ | exact⟨rfl,rfl,rfl⟩
 have e1:decide ((bQ s 1:Int)<128)=false:=decide_eq_false (by omega)
 by_cases q2:191<bQ s 1
 · have e2:decide (191<(bQ s 1:Int))=true:=decide_eq_true (by omega)
   have hs:ef s 3 128 191=(65533,1):=by unfold ef aj4;rw[if_neg q0,if_pos (.inr q2)]
   rw[hs]
   refine bH (r:=65533) (aa aH (mD s) ?_)
   simp only[m8,ff,aV,aA.ok,hn0,fy,ct,afm,firstAt,isInt,au,ajQ,o0,ajE,false_implies,true_implies,true_and,and_true,e0,e1,e2,hi1]
   first | rfl | exact⟨rfl,rfl⟩ | exact⟨rfl,rfl,rfl⟩
 have e2:decide (191<(bQ s 1:Int))=false:=decide_eq_false (by omega)
 have hi2:aP 2 s.data.toList.length=true:=hin 2 (by omega)
 by_cases q3:bQ s 2<128
 · have e3:decide ((bQ s 2:Int)<128)=true:=decide_eq_true (by omega)
   have hs:ef s 3 128 191=(65533,1):=by unfold ef aj4;rw[if_neg q0,if_neg (not_or.2 ⟨q1,q2⟩),if_neg (by decide),if_pos (.inl q3)]
   rw[hs]
   refine bH (r:=65533) (aa aH (mD s) ?_)
   simp only[m8,ff,aV,aA.ok,hn0,fy,ct,afm,firstAt,isInt,au,ajQ,o0,ajE,false_implies,true_implies,true_and,and_true,e0,e1,e2,e3,hi1,hi2]
   first | rfl | exact⟨rfl,rfl⟩ | exact⟨rfl,rfl,rfl⟩
 have e3:decide ((bQ s 2:Int)<128)=false:=decide_eq_false (by omega)
 by_cases q4:191<bQ s 2
 · have e4:decide (191<(bQ s 2:Int))=true:=decide_eq_true (by omega)
   have hs:ef s 3 128 191=(65533,1):=by unfold ef aj4;rw[if_neg q0,if_neg (not_or.2 ⟨q1,q2⟩),if_neg (by decide),if_pos (.inr q4)]
   rw[hs]
   refine bH (r:=65533) (aa aH (mD s) ?_)
   simp only[m8,ff,aV,aA.ok,hn0,fy,ct,afm,firstAt,isInt,au,ajQ,o0,ajE,false_implies,true_implies,true_and,and_true,e0,e1,e2,e3,e4,hi1,hi2]
   first | rfl | exact⟨rfl,rfl⟩ | exact⟨rfl,rfl,rfl⟩
 have e4:decide (191<(bQ s 2:Int))=false:=decide_eq_false (by omega)
 have hs:ef s 3 128 191=(bQ s 0%16*4096+bQ s 1%64*64+bQ s 2%64,3):=by unfold ef aj4;rw[if_neg q0,if_neg (not_or.2 ⟨q1,q2⟩),if_neg (by decide),if_neg (not_or.2 ⟨q3,q4⟩),if_pos (by decide)]
 rw[hs]
 refine bH (r:=(ajx.wrap (↑(df 32 (ajx.wrap (↑(df 32 (ajx.wrap (ajx.wrap (ajw.wrap (↑(df 8 (↑(s.data.toList.getD 0 0).toNat:Int)&&&df 8 15).toNat:Int))*4096))|||df 32 (ajx.wrap (ajx.wrap (ajw.wrap (↑(df 8 (↑(s.data.toList.getD 1 0).toNat:Int)&&&df 8 63).toNat:Int))*64))).toNat:Int))|||df 32 (ajx.wrap (ajw.wrap (↑(df 8 (↑(s.data.toList.getD 2 0).toNat:Int)&&&df 8 63).toNat:Int)))).toNat:Int))) (aa aH (mD s) ?_)
 simp only[m8,ff,aV,aA.ok,hn0,fy,ct,afm,firstAt,isInt,au,ajQ,o0,ajE,false_implies,true_implies,true_and,and_true,e0,e1,e2,e3,e4,hi1,hi2]
 first | rfl | exact⟨rfl,rfl⟩ | exact⟨rfl,rfl,rfl⟩
theorem abL (b:Nat) (h:b=237):cP.getD b .bz = .sc (.int .u8 35):=by
 have hb:b<256:=by omega
 have h:b∈(fe 256).filter (fun b=>decide (b=237)):=aj0.2 ⟨Hn.2 (by omega),decide_eq_true h⟩
 have hall : ∀b∈(fe 256).filter (fun b=>decide (b=237)),iR.getD b 0=35:=by decide +kernel
 rw[fV hb,hall b h]
theorem Rt (h0:0<s.data.toList.length) (hb:bQ s 0=237):az ae env 126 [.p (.sc (.string s))] [] (.aK [.bC,sI .i64 ((ef s 3 128 159).2:Nat)]) []:=by
 have firstAt:cP.getD (0+(s.data.toList.getD 0 0).toNat*1) .bz = .sc (.int .u8 35):=by rw[pn,ajS];exact abL (bQ s 0) hb
 have hn0:decide ((s.data.toList.length:Int)<1)=false:=decide_eq_false (by omega)
 have hin : ∀j:Nat,j<s.data.toList.length→aP (j:Int) s.data.toList.length=true:=fun j h=>by simp only[aP,di,decide_eq_true_eq];omega
 have fy:aP 0 s.data.toList.length=true:=hin 0 h0
 have ct:aP (bQ s 0:Int) 256=true:=by simp only[aP,di,decide_eq_true_eq];omega
 by_cases q0:s.data.toList.length<3
 · have e0:decide ((s.data.toList.length:Int)<3)=true:=decide_eq_true (by omega)
   have hs:ef s 3 128 159=(65533,1):=by unfold ef aj4;rw[if_pos q0]
   rw[hs]
   refine bH (r:=65533) (aa aH (mE s) ?_)
   simp only[m9,fj,aV,aA.ok,hn0,fy,ct,afm,firstAt,isInt,au,ajQ,o0,ajE,false_implies,true_implies,true_and,and_true,e0]
   first | rfl | exact⟨rfl,rfl⟩ | exact⟨rfl,rfl,rfl⟩
 have e0:decide ((s.data.toList.length:Int)<3)=false:=decide_eq_false (by omega)
 have hi1:aP 1 s.data.toList.length=true:=hin 1 (by omega)
 by_cases q1:bQ s 1<128
 · have e1:decide ((bQ s 1:Int)<128)=true:=decide_eq_true (by omega)
   have hs:ef s 3 128 159=(65533,1):=by unfold ef aj4;rw[if_neg q0,if_pos (.inl q1)]
   rw[hs]
   refine bH (r:=65533) (aa aH (mE s) ?_)
   simp only[m9,fj,aV,aA.ok,hn0,fy,ct,afm,firstAt,isInt,au,ajQ,o0,ajE,false_implies,true_implies,true_and,and_true,e0,e1,hi1]
   first | rfl | exact⟨rfl,rfl⟩ | exact⟨rfl,rfl,rfl⟩
 have e1:decide ((bQ s 1:Int)<128)=false:=decide_eq_false (by omega)
 by_cases q2:159<bQ s 1
 · have e2:decide (159<(bQ s 1:Int))=true:=decide_eq_true (by omega)
   have hs:ef s 3 128 159=(65533,1):=by unfold ef aj4;rw[if_neg q0,if_pos (.inr q2)]
   rw[hs]
   refine bH (r:=65533) (aa aH (mE s) ?_)
   simp only[m9,fj,aV,aA.ok,hn0,fy,ct,afm,firstAt,isInt,au,ajQ,o0,ajE,false_implies,true_implies,true_and,and_true,e0,e1,e2,hi1]
   first | rfl | exact⟨rfl,rfl⟩ | exact⟨rfl,rfl,rfl⟩
 have e2:decide (159<(bQ s 1:Int))=false:=decide_eq_false (by omega)
 have hi2:aP 2 s.data.toList.length=true:=hin 2 (by omega)
 by_cases q3:bQ s 2<128
 · have e3:decide ((bQ s 2:Int)<128)=true:=decide_eq_true (by omega)
   have hs:ef s 3 128 159=(65533,1):=by unfold ef aj4;rw[if_neg q0,if_neg (not_or.2 ⟨q1,q2⟩),if_neg (by decide),if_pos (.inl q3)]
   rw[hs]
   refine bH (r:=65533) (aa aH (mE s) ?_)
   simp only[m9,fj,aV,aA.ok,hn0,fy,ct,afm,firstAt,isInt,au,ajQ,o0,ajE,false_implies,true_implies,true_and,and_true,e0,e1,e2,e3,hi1,hi2]
   first | rfl | exact⟨rfl,rfl⟩ | exact⟨rfl,rfl,rfl⟩
 have e3:decide ((bQ s 2:Int)<128)=false:=decide_eq_false (by omega)
 by_cases q4:191<bQ s 2
 · have e4:decide (191<(bQ s 2:Int))=true:=decide_eq_true (by omega)
   have hs:ef s 3 128 159=(65533,1):=by unfold ef aj4;rw[if_neg q0,if_neg (not_or.2 ⟨q1,q2⟩),if_neg (by decide),if_pos (.inr q4)]
   rw[hs]
   refine bH (r:=65533) (aa aH (mE s) ?_)
   simp only[m9,fj,aV,aA.ok,hn0,fy,ct,afm,firstAt,isInt,au,ajQ,o0,ajE,false_implies,true_implies,true_and,and_true,e0,e1,e2,e3,e4,hi1,hi2]
   first | rfl | exact⟨rfl,rfl⟩ | exact⟨rfl,rfl,rfl⟩
 have e4:decide (191<(bQ s 2:Int))=false:=decide_eq_false (by omega)
 have hs:ef s 3 128 159=(bQ s 0%16*4096+bQ s 1%64*64+bQ s 2%64,3):=by unfold ef aj4;rw[if_neg q0,if_neg (not_or.2 ⟨q1,q2⟩),if_neg (by decide),if_neg (not_or.2 ⟨q3,q4⟩),if_pos (by decide)]
 rw[hs]
 refine bH (r:=(ajx.wrap (↑(df 32 (ajx.wrap (↑(df 32 (ajx.wrap (ajx.wrap (ajw.wrap (↑(df 8 (↑(s.data.toList.getD 0 0).toNat:Int)&&&df 8 15).toNat:Int))*4096))|||df 32 (ajx.wrap (ajx.wrap (ajw.wrap (↑(df 8 (↑(s.data.toList.getD 1 0).toNat:Int)&&&df 8 63).toNat:Int))*64))).toNat:Int))|||df 32 (ajx.wrap (ajw.wrap (↑(df 8 (↑(s.data.toList.getD 2 0).toNat:Int)&&&df 8 63).toNat:Int)))).toNat:Int))) (aa aH (mE s) ?_)
 simp only[m9,fj,aV,aA.ok,hn0,fy,ct,afm,firstAt,isInt,au,ajQ,o0,ajE,false_implies,true_implies,true_and,and_true,e0,e1,e2,e3,e4,hi1,hi2]
 first | rfl | exact⟨rfl,rfl⟩ | exact⟨rfl,rfl,rfl⟩
theorem abM (b:Nat) (h:b=240):cP.getD b .bz = .sc (.int .u8 52):=by
 have hb:b<256:=by omega
 have h:b∈(fe 256).filter (fun b=>decide (b=240)):=aj0.2 ⟨Hn.2 (by omega),decide_eq_true h⟩
 have hall : ∀b∈(fe 256).filter (fun b=>decide (b=240)),iR.getD b 0=52:=by decide +kernel
 rw[fV hb,hall b h]
theorem Ru (h0:0<s.data.toList.length) (hb:bQ s 0=240):az ae env 126 [.p (.sc (.string s))] [] (.aK [.bC,sI .i64 ((ef s 4 144 191).2:Nat)]) []:=by
 have firstAt:cP.getD (0+(s.data.toList.getD 0 0).toNat*1) .bz = .sc (.int .u8 52):=by rw[pn,ajS];exact abM (bQ s 0) hb
 have hn0:decide ((s.data.toList.length:Int)<1)=false:=decide_eq_false (by omega)
 have hin : ∀j:Nat,j<s.data.toList.length→aP (j:Int) s.data.toList.length=true:=fun j h=>by simp only[aP,di,decide_eq_true_eq];omega
 have fy:aP 0 s.data.toList.length=true:=hin 0 h0
 have ct:aP (bQ s 0:Int) 256=true:=by simp only[aP,di,decide_eq_true_eq];omega
 by_cases q0:s.data.toList.length<4
 · have e0:decide ((s.data.toList.length:Int)<4)=true:=decide_eq_true (by omega)
   have hs:ef s 4 144 191=(65533,1):=by unfold ef aj4;rw[if_pos q0]
   rw[hs]
   refine bH (r:=65533) (aa aH (jx s) ?_)
   simp only[jV,dK,aV,aA.ok,hn0,fy,ct,afm,firstAt,isInt,au,ajQ,o0,ajE,false_implies,true_implies,true_and,and_true,e0]
   first | rfl | exact⟨rfl,rfl⟩ | exact⟨rfl,rfl,rfl⟩
 have e0:decide ((s.data.toList.length:Int)<4)=false:=decide_eq_false (by omega)
 have hi1:aP 1 s.data.toList.length=true:=hin 1 (by omega)
 by_cases q1:bQ s 1<144
 · have e1:decide ((bQ s 1:Int)<144)=true:=decide_eq_true (by omega)
   have hs:ef s 4 144 191=(65533,1):=by unfold ef aj4;rw[if_neg q0,if_pos (.inl q1)]
   rw[hs]
   refine bH (r:=65533) (aa aH (jx s) ?_)
   simp only[jV,dK,aV,aA.ok,hn0,fy,ct,afm,firstAt,isInt,au,ajQ,o0,ajE,false_implies,true_implies,true_and,and_true,e0,e1,hi1]
   first | rfl | exact⟨rfl,rfl⟩ | exact⟨rfl,rfl,rfl⟩
 have e1:decide ((bQ s 1:Int)<144)=false:=decide_eq_false (by omega)
 by_cases q2:191<bQ s 1
 · have e2:decide (191<(bQ s 1:Int))=true:=decide_eq_true (by omega)
   have hs:ef s 4 144 191=(65533,1):=by unfold ef aj4;rw[if_neg q0,if_pos (.inr q2)]
   rw[hs]
   refine bH (r:=65533) (aa aH (jx s) ?_)
   simp only[jV,dK,aV,aA.ok,hn0,fy,ct,afm,firstAt,isInt,au,ajQ,o0,ajE,false_implies,true_implies,true_and,and_true,e0,e1,e2,hi1]
   first | rfl | exact⟨rfl,rfl⟩ | exact⟨rfl,rfl,rfl⟩
 have e2:decide (191<(bQ s 1:Int))=false:=decide_eq_false (by omega)
 have hi2:aP 2 s.data.toList.length=true:=hin 2 (by omega)
 by_cases q3:bQ s 2<128
 · have e3:decide ((bQ s 2:Int)<128)=true:=decide_eq_true (by omega)
   have hs:ef s 4 144 191=(65533,1):=by unfold ef aj4;rw[if_neg q0,if_neg (not_or.2 ⟨q1,q2⟩),if_neg (by decide),if_pos (.inl q3)]
   rw[hs]
   refine bH (r:=65533) (aa aH (jx s) ?_)
   simp only[jV,dK,aV,aA.ok,hn0,fy,ct,afm,firstAt,isInt,au,ajQ,o0,ajE,false_implies,true_implies,true_and,and_true,e0,e1,e2,e3,hi1,hi2]
   first | rfl | exact⟨rfl,rfl⟩ | exact⟨rfl,rfl,rfl⟩
 have e3:decide ((bQ s 2:Int)<128)=false:=decide_eq_false (by omega)
 by_cases q4:191<bQ s 2
 · have e4:decide (191<(bQ s 2:Int))=true:=decide_eq_true (by omega)
   have hs:ef s 4 144 191=(65533,1):=by unfold ef aj4;rw[if_neg q0,if_neg (not_or.2 ⟨q1,q2⟩),if_neg (by decide),if_pos (.inr q4)]
   rw[hs]
   refine bH (r:=65533) (aa aH (jx s) ?_)
   simp only[jV,dK,aV,aA.ok,hn0,fy,ct,afm,firstAt,isInt,au,ajQ,o0,ajE,false_implies,true_implies,true_and,and_true,e0,e1,e2,e3,e4,hi1,hi2]
   first | rfl | exact⟨rfl,rfl⟩ | exact⟨rfl,rfl,rfl⟩
 have e4:decide (191<(bQ s 2:Int))=false:=decide_eq_false (by omega)
 have Rv:aP 3 s.data.toList.length=true:=hin 3 (by omega)
 by_cases q5:bQ s 3<128
 · have e5:decide ((bQ s 3:Int)<128)=true:=decide_eq_true (by omega)
   have hs:ef s 4 144 191=(65533,1):=by unfold ef aj4;rw[if_neg q0,if_neg (not_or.2 ⟨q1,q2⟩),if_neg (by decide),if_neg (not_or.2 ⟨q3,q4⟩),if_neg (by decide),if_pos (.inl q5)]
   rw[hs]
   refine bH (r:=65533) (aa aH (jx s) ?_)
   simp only[jV,dK,aV,aA.ok,hn0,fy,ct,afm,firstAt,isInt,au,ajQ,o0,ajE,false_implies,true_implies,true_and,and_true,e0,e1,e2,e3,e4,e5,hi1,hi2,Rv]
   first | rfl | exact⟨rfl,rfl⟩ | exact⟨rfl,rfl,rfl⟩
 have e5:decide ((bQ s 3:Int)<128)=false:=decide_eq_false (by omega)
 by_cases q6:191<bQ s 3
 · have e6:decide (191<(bQ s 3:Int))=true:=decide_eq_true (by omega)
   have hs:ef s 4 144 191=(65533,1):=by unfold ef aj4;rw[if_neg q0,if_neg (not_or.2 ⟨q1,q2⟩),if_neg (by decide),if_neg (not_or.2 ⟨q3,q4⟩),if_neg (by decide),if_pos (.inr q6)]
   rw[hs]
   refine bH (r:=65533) (aa aH (jx s) ?_)
   simp only[jV,dK,aV,aA.ok,hn0,fy,ct,afm,firstAt,isInt,au,ajQ,o0,ajE,false_implies,true_implies,true_and,and_true,e0,e1,e2,e3,e4,e5,e6,hi1,hi2,Rv]
   first | rfl | exact⟨rfl,rfl⟩ | exact⟨rfl,rfl,rfl⟩
 have e6:decide (191<(bQ s 3:Int))=false:=decide_eq_false (by omega)
 have hs:ef s 4 144 191=(bQ s 0%8*262144+bQ s 1%64*4096+bQ s 2%64*64+bQ s 3%64,4):=by unfold ef aj4;rw[if_neg q0,if_neg (not_or.2 ⟨q1,q2⟩),if_neg (by decide),if_neg (not_or.2 ⟨q3,q4⟩),if_neg (by decide),if_neg (not_or.2 ⟨q5,q6⟩)]
 rw[hs]
 refine bH (r:=(ajx.wrap (↑(df 32 (ajx.wrap (↑(df 32 (ajx.wrap (↑(df 32 (ajx.wrap (ajx.wrap (ajw.wrap (↑(df 8 (↑(s.data.toList.getD 0 0).toNat:Int)&&&df 8 7).toNat:Int))*262144))|||df 32 (ajx.wrap (ajx.wrap (ajw.wrap (↑(df 8 (↑(s.data.toList.getD 1 0).toNat:Int)&&&df 8 63).toNat:Int))*4096))).toNat:Int))|||df 32 (ajx.wrap (ajx.wrap (ajw.wrap (↑(df 8 (↑(s.data.toList.getD 2 0).toNat:Int)&&&df 8 63).toNat:Int))*64))).toNat:Int))|||df 32 (ajx.wrap (ajw.wrap (↑(df 8 (↑(s.data.toList.getD 3 0).toNat:Int)&&&df 8 63).toNat:Int)))).toNat:Int))) (aa aH (jx s) ?_)
 simp only[jV,dK,aV,aA.ok,hn0,fy,ct,afm,firstAt,isInt,au,ajQ,o0,ajE,false_implies,true_implies,true_and,and_true,e0,e1,e2,e3,e4,e5,e6,hi1,hi2,Rv]
 first | rfl | exact⟨rfl,rfl⟩ | exact⟨rfl,rfl,rfl⟩
theorem abN (b:Nat) (h:241≤b∧b<244):cP.getD b .bz = .sc (.int .u8 4):=by
 have hb:b<256:=by omega
 have h:b∈(fe 256).filter (fun b=>decide (241≤b∧b<244)):=aj0.2 ⟨Hn.2 (by omega),decide_eq_true h⟩
 have hall : ∀b∈(fe 256).filter (fun b=>decide (241≤b∧b<244)),iR.getD b 0=4:=by decide +kernel
 rw[fV hb,hall b h]
theorem Rw (h0:0<s.data.toList.length) (hb:241≤bQ s 0∧bQ s 0<244):az ae env 126 [.p (.sc (.string s))] [] (.aK [.bC,sI .i64 ((ef s 4 128 191).2:Nat)]) []:=by
 have firstAt:cP.getD (0+(s.data.toList.getD 0 0).toNat*1) .bz = .sc (.int .u8 4):=by rw[pn,ajS];exact abN (bQ s 0) hb
 have hn0:decide ((s.data.toList.length:Int)<1)=false:=decide_eq_false (by omega)
 have hin : ∀j:Nat,j<s.data.toList.length→aP (j:Int) s.data.toList.length=true:=fun j h=>by simp only[aP,di,decide_eq_true_eq];omega
 have fy:aP 0 s.data.toList.length=true:=hin 0 h0
 have ct:aP (bQ s 0:Int) 256=true:=by simp only[aP,di,decide_eq_true_eq];omega
 by_cases q0:s.data.toList.length<4
 · have e0:decide ((s.data.toList.length:Int)<4)=true:=decide_eq_true (by omega)
   have hs:ef s 4 128 191=(65533,1):=by unfold ef aj4;rw[if_pos q0]
   rw[hs]
   refine bH (r:=65533) (aa aH (jy s) ?_)
   simp only[jX,dL,aV,aA.ok,hn0,fy,ct,afm,firstAt,isInt,au,ajQ,o0,ajE,false_implies,true_implies,true_and,and_true,e0]
   first | rfl | exact⟨rfl,rfl⟩ | exact⟨rfl,rfl,rfl⟩
 have e0:decide ((s.data.toList.length:Int)<4)=false:=decide_eq_false (by omega)
 have hi1:aP 1 s.data.toList.length=true:=hin 1 (by omega)
 by_cases q1:bQ s 1<128
 · have e1:decide ((bQ s 1:Int)<128)=true:=decide_eq_true (by omega)
   have hs:ef s 4 128 191=(65533,1):=by unfold ef aj4;rw[if_neg q0,if_pos (.inl q1)]
   rw[hs]
   refine bH (r:=65533) (aa aH (jy s) ?_)
   simp only[jX,dL,aV,aA.ok,hn0,fy,ct,afm,firstAt,isInt,au,ajQ,o0,ajE,false_implies,true_implies,true_and,and_true,e0,e1,hi1]
   first | rfl | exact⟨rfl,rfl⟩ | exact⟨rfl,rfl,rfl⟩
 have e1:decide ((bQ s 1:Int)<128)=false:=decide_eq_false (by omega)
 by_cases q2:191<bQ s 1
 · have e2:decide (191<(bQ s 1:Int))=true:=decide_eq_true (by omega)
   have hs:ef s 4 128 191=(65533,1):=by unfold ef aj4;rw[if_neg q0,if_pos (.inr q2)]
   rw[hs]
   refine bH (r:=65533) (aa aH (jy s) ?_)
   simp only[jX,dL,aV,aA.ok,hn0,fy,ct,afm,firstAt,isInt,au,ajQ,o0,ajE,false_implies,true_implies,true_and,and_true,e0,e1,e2,hi1]
   first | rfl | exact⟨rfl,rfl⟩ | exact⟨rfl,rfl,rfl⟩
 have e2:decide (191<(bQ s 1:Int))=false:=decide_eq_false (by omega)
 have hi2:aP 2 s.data.toList.length=true:=hin 2 (by omega)
 by_cases q3:bQ s 2<128
 · have e3:decide ((bQ s 2:Int)<128)=true:=decide_eq_true (by omega)
   have hs:ef s 4 128 191=(65533,1):=by unfold ef aj4;rw[if_neg q0,if_neg (not_or.2 ⟨q1,q2⟩),if_neg (by decide),if_pos (.inl q3)]
   rw[hs]
   refine bH (r:=65533) (aa aH (jy s) ?_)
   simp only[jX,dL,aV,aA.ok,hn0,fy,ct,afm,firstAt,isInt,au,ajQ,o0,ajE,false_implies,true_implies,true_and,and_true,e0,e1,e2,e3,hi1,hi2]
   first | rfl | exact⟨rfl,rfl⟩ | exact⟨rfl,rfl,rfl⟩
 have e3:decide ((bQ s 2:Int)<128)=false:=decide_eq_false (by omega)
 by_cases q4:191<bQ s 2
 · have e4:decide (191<(bQ s 2:Int))=true:=decide_eq_true (by omega)
   have hs:ef s 4 128 191=(65533,1):=by unfold ef aj4;rw[if_neg q0,if_neg (not_or.2 ⟨q1,q2⟩),if_neg (by decide),if_pos (.inr q4)]
   rw[hs]
   refine bH (r:=65533) (aa aH (jy s) ?_)
   simp only[jX,dL,aV,aA.ok,hn0,fy,ct,afm,firstAt,isInt,au,ajQ,o0,ajE,false_implies,true_implies,true_and,and_true,e0,e1,e2,e3,e4,hi1,hi2]
   first | rfl | exact⟨rfl,rfl⟩ | exact⟨rfl,rfl,rfl⟩
 have e4:decide (191<(bQ s 2:Int))=false:=decide_eq_false (by omega)
 have Rv:aP 3 s.data.toList.length=true:=hin 3 (by omega)
 by_cases q5:bQ s 3<128
 · have e5:decide ((bQ s 3:Int)<128)=true:=decide_eq_true (by omega)
   have hs:ef s 4 128 191=(65533,1):=by unfold ef aj4;rw[if_neg q0,if_neg (not_or.2 ⟨q1,q2⟩),if_neg (by decide),if_neg (not_or.2 ⟨q3,q4⟩),if_neg (by decide),if_pos (.inl q5)]
   rw[hs]
   refine bH (r:=65533) (aa aH (jy s) ?_)
   simp only[jX,dL,aV,aA.ok,hn0,fy,ct,afm,firstAt,isInt,au,ajQ,o0,ajE,false_implies,true_implies,true_and,and_true,e0,e1,e2,e3,e4,e5,hi1,hi2,Rv]
   first | rfl | exact⟨rfl,rfl⟩ | exact⟨rfl,rfl,rfl⟩
 have e5:decide ((bQ s 3:Int)<128)=false:=decide_eq_false (by omega)
 by_cases q6:191<bQ s 3
 · have e6:decide (191<(bQ s 3:Int))=true:=decide_eq_true (by omega)
   have hs:ef s 4 128 191=(65533,1):=by unfold ef aj4;rw[if_neg q0,if_neg (not_or.2 ⟨q1,q2⟩),if_neg (by decide),if_neg (not_or.2 ⟨q3,q4⟩),if_neg (by decide),if_pos (.inr q6)]
   rw[hs]
   refine bH (r:=65533) (aa aH (jy s) ?_)
   simp only[jX,dL,aV,aA.ok,hn0,fy,ct,afm,firstAt,isInt,au,ajQ,o0,ajE,false_implies,true_implies,true_and,and_true,e0,e1,e2,e3,e4,e5,e6,hi1,hi2,Rv]
   first | rfl | exact⟨rfl,rfl⟩ | exact⟨rfl,rfl,rfl⟩
 have e6:decide (191<(bQ s 3:Int))=false:=decide_eq_false (by omega)
 have hs:ef s 4 128 191=(bQ s 0%8*262144+bQ s 1%64*4096+bQ s 2%64*64+bQ s 3%64,4):=by unfold ef aj4;rw[if_neg q0,if_neg (not_or.2 ⟨q1,q2⟩),if_neg (by decide),if_neg (not_or.2 ⟨q3,q4⟩),if_neg (by decide),if_neg (not_or.2 ⟨q5,q6⟩)]
 rw[hs]
 refine bH (r:=(ajx.wrap (↑(df 32 (ajx.wrap (↑(df 32 (ajx.wrap (↑(df 32 (ajx.wrap (ajx.wrap (ajw.wrap (↑(df 8 (↑(s.data.toList.getD 0 0).toNat:Int)&&&df 8 7).toNat:Int))*262144))|||df 32 (ajx.wrap (ajx.wrap (ajw.wrap (↑(df 8 (↑(s.data.toList.getD 1 0).toNat:Int)&&&df 8 63).toNat:Int))*4096))).toNat:Int))|||df 32 (ajx.wrap (ajx.wrap (ajw.wrap (↑(df 8 (↑(s.data.toList.getD 2 0).toNat:Int)&&&df 8 63).toNat:Int))*64))).toNat:Int))|||df 32 (ajx.wrap (ajw.wrap (↑(df 8 (↑(s.data.toList.getD 3 0).toNat:Int)&&&df 8 63).toNat:Int)))).toNat:Int))) (aa aH (jy s) ?_)
 simp only[jX,dL,aV,aA.ok,hn0,fy,ct,afm,firstAt,isInt,au,ajQ,o0,ajE,false_implies,true_implies,true_and,and_true,e0,e1,e2,e3,e4,e5,e6,hi1,hi2,Rv]
 first | rfl | exact⟨rfl,rfl⟩ | exact⟨rfl,rfl,rfl⟩
theorem abO (b:Nat) (h:b=244):cP.getD b .bz = .sc (.int .u8 68):=by
 have hb:b<256:=by omega
 have h:b∈(fe 256).filter (fun b=>decide (b=244)):=aj0.2 ⟨Hn.2 (by omega),decide_eq_true h⟩
 have hall : ∀b∈(fe 256).filter (fun b=>decide (b=244)),iR.getD b 0=68:=by decide +kernel
 rw[fV hb,hall b h]
theorem Rx (h0:0<s.data.toList.length) (hb:bQ s 0=244):az ae env 126 [.p (.sc (.string s))] [] (.aK [.bC,sI .i64 ((ef s 4 128 143).2:Nat)]) []:=by
 have firstAt:cP.getD (0+(s.data.toList.getD 0 0).toNat*1) .bz = .sc (.int .u8 68):=by rw[pn,ajS];exact abO (bQ s 0) hb
 have hn0:decide ((s.data.toList.length:Int)<1)=false:=decide_eq_false (by omega)
 have hin : ∀j:Nat,j<s.data.toList.length→aP (j:Int) s.data.toList.length=true:=fun j h=>by simp only[aP,di,decide_eq_true_eq];omega
 have fy:aP 0 s.data.toList.length=true:=hin 0 h0
 have ct:aP (bQ s 0:Int) 256=true:=by simp only[aP,di,decide_eq_true_eq];omega
 by_cases q0:s.data.toList.length<4
 · have e0:decide ((s.data.toList.length:Int)<4)=true:=decide_eq_true (by omega)
   have hs:ef s 4 128 143=(65533,1):=by unfold ef aj4;rw[if_pos q0]
   rw[hs]
   refine bH (r:=65533) (aa aH (jz s) ?_)
   simp only[jY,dM,aV,aA.ok,hn0,fy,ct,afm,firstAt,isInt,au,ajQ,o0,ajE,false_implies,true_implies,true_and,and_true,e0]
   first | rfl | exact⟨rfl,rfl⟩ | exact⟨rfl,rfl,rfl⟩
 have e0:decide ((s.data.toList.length:Int)<4)=false:=decide_eq_false (by omega)
 have hi1:aP 1 s.data.toList.length=true:=hin 1 (by omega)
 by_cases q1:bQ s 1<128
 · have e1:decide ((bQ s 1:Int)<128)=true:=decide_eq_true (by omega)
   have hs:ef s 4 128 143=(65533,1):=by unfold ef aj4;rw[if_neg q0,if_pos (.inl q1)]
   rw[hs]
   refine bH (r:=65533) (aa aH (jz s) ?_)
   simp only[jY,dM,aV,aA.ok,hn0,fy,ct,afm,firstAt,isInt,au,ajQ,o0,ajE,false_implies,true_implies,true_and,and_true,e0,e1,hi1]
   first | rfl | exact⟨rfl,rfl⟩ | exact⟨rfl,rfl,rfl⟩
 have e1:decide ((bQ s 1:Int)<128)=false:=decide_eq_false (by omega)
 by_cases q2:143<bQ s 1
 · have e2:decide (143<(bQ s 1:Int))=true:=decide_eq_true (by omega)
   have hs:ef s 4 128 143=(65533,1):=by unfold ef aj4;rw[if_neg q0,if_pos (.inr q2)]
   rw[hs]
   refine bH (r:=65533) (aa aH (jz s) ?_)
   simp only[jY,dM,aV,aA.ok,hn0,fy,ct,afm,firstAt,isInt,au,ajQ,o0,ajE,false_implies,true_implies,true_and,and_true,e0,e1,e2,hi1]
   first | rfl | exact⟨rfl,rfl⟩ | exact⟨rfl,rfl,rfl⟩
 have e2:decide (143<(bQ s 1:Int))=false:=decide_eq_false (by omega)
 have hi2:aP 2 s.data.toList.length=true:=hin 2 (by omega)
 by_cases q3:bQ s 2<128
 · have e3:decide ((bQ s 2:Int)<128)=true:=decide_eq_true (by omega)
   have hs:ef s 4 128 143=(65533,1):=by unfold ef aj4;rw[if_neg q0,if_neg (not_or.2 ⟨q1,q2⟩),if_neg (by decide),if_pos (.inl q3)]
   rw[hs]
   refine bH (r:=65533) (aa aH (jz s) ?_)
   simp only[jY,dM,aV,aA.ok,hn0,fy,ct,afm,firstAt,isInt,au,ajQ,o0,ajE,false_implies,true_implies,true_and,and_true,e0,e1,e2,e3,hi1,hi2]
   first | rfl | exact⟨rfl,rfl⟩ | exact⟨rfl,rfl,rfl⟩
 have e3:decide ((bQ s 2:Int)<128)=false:=decide_eq_false (by omega)
 by_cases q4:191<bQ s 2
 · have e4:decide (191<(bQ s 2:Int))=true:=decide_eq_true (by omega)
   have hs:ef s 4 128 143=(65533,1):=by unfold ef aj4;rw[if_neg q0,if_neg (not_or.2 ⟨q1,q2⟩),if_neg (by decide),if_pos (.inr q4)]
   rw[hs]
   refine bH (r:=65533) (aa aH (jz s) ?_)
   simp only[jY,dM,aV,aA.ok,hn0,fy,ct,afm,firstAt,isInt,au,ajQ,o0,ajE,false_implies,true_implies,true_and,and_true,e0,e1,e2,e3,e4,hi1,hi2]
   first | rfl | exact⟨rfl,rfl⟩ | exact⟨rfl,rfl,rfl⟩
 have e4:decide (191<(bQ s 2:Int))=false:=decide_eq_false (by omega)
 have Rv:aP 3 s.data.toList.length=true:=hin 3 (by omega)
 by_cases q5:bQ s 3<128
 · have e5:decide ((bQ s 3:Int)<128)=true:=decide_eq_true (by omega)
   have hs:ef s 4 128 143=(65533,1):=by unfold ef aj4;rw[if_neg q0,if_neg (not_or.2 ⟨q1,q2⟩),if_neg (by decide),if_neg (not_or.2 ⟨q3,q4⟩),if_neg (by decide),if_pos (.inl q5)]
   rw[hs]
   refine bH (r:=65533) (aa aH (jz s) ?_)
   simp only[jY,dM,aV,aA.ok,hn0,fy,ct,afm,firstAt,isInt,au,ajQ,o0,ajE,false_implies,true_implies,true_and,and_true,e0,e1,e2,e3,e4,e5,hi1,hi2,Rv]
   first | rfl | exact⟨rfl,rfl⟩ | exact⟨rfl,rfl,rfl⟩
 have e5:decide ((bQ s 3:Int)<128)=false:=decide_eq_false (by omega)
 by_cases q6:191<bQ s 3
 · have e6:decide (191<(bQ s 3:Int))=true:=decide_eq_true (by omega)
   have hs:ef s 4 128 143=(65533,1):=by unfold ef aj4;rw[if_neg q0,if_neg (not_or.2 ⟨q1,q2⟩),if_neg (by decide),if_neg (not_or.2 ⟨q3,q4⟩),if_neg (by decide),if_pos (.inr q6)]
   rw[hs]
   refine bH (r:=65533) (aa aH (jz s) ?_)
   simp only[jY,dM,aV,aA.ok,hn0,fy,ct,afm,firstAt,isInt,au,ajQ,o0,ajE,false_implies,true_implies,true_and,and_true,e0,e1,e2,e3,e4,e5,e6,hi1,hi2,Rv]
   first | rfl | exact⟨rfl,rfl⟩ | exact⟨rfl,rfl,rfl⟩
 have e6:decide (191<(bQ s 3:Int))=false:=decide_eq_false (by omega)
 have hs:ef s 4 128 143=(bQ s 0%8*262144+bQ s 1%64*4096+bQ s 2%64*64+bQ s 3%64,4):=by unfold ef aj4;rw[if_neg q0,if_neg (not_or.2 ⟨q1,q2⟩),if_neg (by decide),if_neg (not_or.2 ⟨q3,q4⟩),if_neg (by decide),if_neg (not_or.2 ⟨q5,q6⟩)]
 rw[hs]
 refine bH (r:=(ajx.wrap (↑(df 32 (ajx.wrap (↑(df 32 (ajx.wrap (↑(df 32 (ajx.wrap (ajx.wrap (ajw.wrap (↑(df 8 (↑(s.data.toList.getD 0 0).toNat:Int)&&&df 8 7).toNat:Int))*262144))|||df 32 (ajx.wrap (ajx.wrap (ajw.wrap (↑(df 8 (↑(s.data.toList.getD 1 0).toNat:Int)&&&df 8 63).toNat:Int))*4096))).toNat:Int))|||df 32 (ajx.wrap (ajx.wrap (ajw.wrap (↑(df 8 (↑(s.data.toList.getD 2 0).toNat:Int)&&&df 8 63).toNat:Int))*64))).toNat:Int))|||df 32 (ajx.wrap (ajw.wrap (↑(df 8 (↑(s.data.toList.getD 3 0).toNat:Int)&&&df 8 63).toNat:Int)))).toNat:Int))) (aa aH (jz s) ?_)
 simp only[jY,dM,aV,aA.ok,hn0,fy,ct,afm,firstAt,isInt,au,ajQ,o0,ajE,false_implies,true_implies,true_and,and_true,e0,e1,e2,e3,e4,e5,e6,hi1,hi2,Rv]
 first | rfl | exact⟨rfl,rfl⟩ | exact⟨rfl,rfl,rfl⟩
theorem Ry (n b0 b1 b2 b3:Nat) (h:128≤b0∧b0<194∨245≤b0∧b0<256):(aj5 n b0 b1 b2 b3).2=1:=by
 unfold aj5
 repeat' split
 all_goals first | rfl | omega
abbrev I7:Nat×Nat:=aj5 s.data.toList.length (bQ s 0) (bQ s 1) (bQ s 2) (bQ s 3)
theorem MB (h0:0<s.data.toList.length) (hb:128≤bQ s 0):az ae env 126 [.p (.sc (.string s))] [] (.aK [.bC,sI .i64 ((I7 s).2:Nat)]) []:=by
 have a0:=lS s 0
 have a1:=lS s 1
 have a2:=lS s 2
 have a3:=lS s 3
 by_cases cB:128≤bQ s 0∧bQ s 0<194∨245≤bQ s 0∧bQ s 0<256
 · rw[I7,Ry _ _ _ _ _ cB];exact Rp s h0 cB
 by_cases cC:194≤bQ s 0∧bQ s 0<224
 · rw[I7,←Lib.slow_C2 _ _ _ _ _ h0 a1 a2 a3 cC];exact Rq s h0 cC
 by_cases cD:bQ s 0=224
 · rw[I7,←Lib.slow_E0 _ _ _ _ _ h0 a1 a2 a3 cD];exact Rr s h0 cD
 by_cases cE:225≤bQ s 0∧bQ s 0<237∨238≤bQ s 0∧bQ s 0<240
 · rw[I7,←Lib.slow_E1 _ _ _ _ _ h0 a1 a2 a3 cE];exact Rs s h0 cE
 by_cases cF:bQ s 0=237
 · rw[I7,←Lib.slow_ED _ _ _ _ _ h0 a1 a2 a3 cF];exact Rt s h0 cF
 by_cases cG:bQ s 0=240
 · rw[I7,←Lib.slow_F0 _ _ _ _ _ h0 a1 a2 a3 cG];exact Ru s h0 cG
 by_cases cH:241≤bQ s 0∧bQ s 0<244
 · rw[I7,←Lib.slow_F1 _ _ _ _ _ h0 a1 a2 a3 cH];exact Rw s h0 cH
 · have cI:bQ s 0=244:=by omega
   rw[I7,←Lib.slow_F4 _ _ _ _ _ h0 a1 a2 a3 cI];exact Rx s h0 cI
theorem I8 (h0:0<s.data.toList.length):az ae env 114 [.p (.sc (.string s))] [] (.aK [.bC,sI .i64 ((I7 s).2:Nat)]) []:=by
 have he:(s.data.toList==(afC #[]).data.toList)=false:=by
  cases h:s.data.toList with
  |nil=>rw[h] at h0;cases h0
  |cons a r=>rfl
 have fy:aP 0 s.data.toList.length=true:=by simp only[aP,di,decide_eq_true_eq];omega
 by_cases hb:bQ s 0<128
 · have e:decide ((bQ s 0:Int)<128)=true:=decide_eq_true (by omega)
   have hd:(I7 s).2=1:=by unfold I7 aj5;rw[if_pos hb]
   rw[hd]
   refine bH (r:=ajx.wrap (bQ s 0:Nat)) (aa aH (F8 s 0) ?_)
   simp only[DT,aA.ok,he,fy,e,pa,ajQ,o0,ajE,false_implies,true_implies,true_and,and_true]
   first | rfl | trivial
 · have e:decide ((bQ s 0:Int)<128)=false:=decide_eq_false (by omega)
   refine aa aH (F8 s ((I7 s).2:Nat)) ?_
   simp only[DT,aA.ok,he,fy,e,pa,ajQ,o0,ajE,false_implies,true_implies,true_and,and_true]
   exact MB s h0 (by omega)
end
theorem KO (s:ByteArray) (i:Nat):1≤(aj2 s i).2:=by
 rw[aj7]
 unfold aj5
 repeat' split
 all_goals simp
theorem ng (s:ByteArray) (i:Nat):(s.extract i s.data.toList.length).data.toList=s.data.toList.drop i:=by
 simp only[ByteArray.data_extract,Array.toList_extract,List.extract_eq_take_drop]
 rw[List.take_of_length_le]
 rw[ee]
 exact Nat.le_refl _
theorem Ga (s:ByteArray) (j:Nat):s.get! j=s.data.toList.getD j 0:=by
 obtain⟨d⟩:=s
 show d[j]! = d.toList.getD j 0
 rw[Array.getElem!_eq_getD,de,Array.getElem?_toList]
 by_cases h:j<d.size
 · simp[Array.getD,h]
 · simp[Array.getD,h];rfl
theorem Rz (s:ByteArray) (i:Nat):I7 (s.extract i s.data.toList.length)=aj2 s i:=by
 have g : ∀j,(s.get! (i+j)).toNat=bQ (s.extract i s.data.toList.length) j:=fun j=>by
  rw[Ga,bQ,ng,de,de,List.getElem?_drop]
 have g0:=g 0
 rw[Nat.add_zero] at g0
 rw[aj7,I7,g0,g 1,g 2,g 3,ng,ee]
 rfl
def yE (s:ByteArray):Nat→Nat→Int
 |0,_=> -1
 |k+1,i=>if i<s.size then(if(aj2 s i).1=65533∧(aj2 s i).2=1 then i else yE s k (i+(aj2 s i).2)) else -1
def jZ (s:ByteArray):Int:=yE s (s.size+1) 0
noncomputable abbrev vh (s:ByteArray) (k:dS):cm:=ah ae env 74 0 [.p (.sc (.string s)),.mp 0 0] [.ob k []] 0 28
theorem abP (s:ByteArray) (i:Nat):(vh s (.iter s i)).st.mem=[.ob (.iter s i) []]:=by kernel_rfl
theorem Vn (s:ByteArray) (i:Nat):gU (vh s (.iter s i))=true:=by kernel_rfl
theorem Vo (s:ByteArray) (i:Nat) (b:Bool):({vh s (.iter s i) with st:={(vh s (.iter s i)).st with mem:=[.ob (.TD s i b) []]}}:cm)=vh s (.TD s i b):=by kernel_rfl
theorem KP (s:ByteArray) (i:Nat) (o:Out) (h:aU ae env (vh s (.TD s i (bj i s.size))) o):aU ae env (vh s (.iter s i)) o:=by
 rw[←Vo] at h
 have e1:=abP s i
 have e2:=Vn s i
 generalize vh s (.iter s i)=c at h e1 e2 ⊢
 exact Go.Am.aU.more e1 e2 h
theorem Vp (s:ByteArray) (hs:s.size≤maxLen) : ∀(k i:Nat),s.size+1≤i+k →
  aU ae env (ah ae env 74 0 [.p (.sc (.string s)),.mp 0 0] [.ob (.iter s i) []] 0 28) (.ret (sI .i64 (yE s k i)) []):=by
 intro k
 induction k with
 |zero=>
  intro i hi
  refine KP s i _ ?_
  have hb:bj i s.size=false:=by cases h:bj i s.size with | false=>rfl | true=>rw[gg] at h;omega
  rw[hb]
  exact af aH (F9 s i 0) rfl
 |succ k ih=>
  intro i hi
  refine KP s i _ ?_
  by_cases hlt:i<s.size
  · have hb:bj i s.size=true:=by rw[gg];exact hlt
    have hp:=KO s i
    have hn:s.data.toList.length=s.size:=Array.length_toList
    have hc:=I8 (s.extract i s.data.toList.length) (by rw[ng,ee];omega)
    rw[Rz] at hc
    rw[hb]
    refine af aH (Ro s i ((aj2 s i).2:Nat)) ?_
    have next:=ih (i+(aj2 s i).2) (by omega)
    simp only[KM,aV,aA.ok,afm,yE,if_pos hlt]
    refine⟨fun q=> ?_,fun q=>⟨?_,hc,fun r=> ?_,fun r=> ?_⟩⟩
    · have q:(aj2 s i).1≠65533:=fun h=>by rw[h] at q;exact absurd q (by decide)
      rw[if_neg (fun h=>q h.1)]
      exact next
    · simp only[ajQ,di,Nat.ble_eq];omega
    · have q:(aj2 s i).1=65533:=by simp only[bne_eq_false_iff_eq] at q;omega
      have r:(aj2 s i).2=1:=by simp only[beq_iff_eq] at r;omega
      rw[if_pos ⟨q,r⟩]
    · have r:(aj2 s i).2≠1:=fun h=>by rw[h] at r;exact absurd r (by decide)
      rw[if_neg (fun h=>r h.2)]
      exact next
  · have hb:bj i s.size=false:=by cases h:bj i s.size with | false=>rfl | true=>rw[gg] at h;omega
    rw[hb]
    refine af aH (F9 s i 0) ?_
    simp only[KN,aA.ok,yE,if_neg hlt]
theorem DU (s:ByteArray):afC ((s.data.toList.map eE).map Am.byteOf).toArray=s:=by
 have h:(Am.byteOf ∘ eE)=id:=funext fun b=>by
  show UInt8.ofNat ((b.toNat:Int)).toNat=b
  simp
 rw[List.map_map,h,List.map_id]
theorem RA (l:List UInt8):(l.map eE).all isByte=true:=by
 rw[List.all_map,List.all_eq_true]
 intro b _
 rfl
theorem BK (s:ByteArray) (hs:s.size≤maxLen):az ae env 74 [.p (.ps s.data.toList.length 1 (s.data.toList.map eE))] [] (sI .i64 (jZ s)) []:=by
 refine aa aH (Rn s.data.toList.length (s.data.toList.map eE)) ?_
 simp only[KL,aA.ok,DU]
 exact⟨by rw[RA];rfl,Vp s hs (s.size+1) 0 (by omega)⟩
end Go.Proofs.YtncncijedmfpjaaGreatDoor.N
end
