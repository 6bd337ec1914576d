/-
A text's first rune, as the library reads it; name.Bad.
-/
import Derived.Test.YtdmmllcjgjmbbaaGreatDoorMI
import Derived.Test.YtdmmllcjgjmbbaaGreatDoorML
import Derived.Lib.DecodeN
section
set_option linter.unusedSimpArgs false
set_option linter.unusedVariables false
namespace Go.Proofs.YtdmmllcjgjmbbaaGreatDoor.N
open Go Go.Am
def bP:List PV:=gb.map fun z=> .sc (.int .u8 z)
def drC (s:ByteArray) (w:Int) (fn:FuncId) (_:List AV) (m:Mem):Option (AV×Mem):=cond (Nat.beq fn 126) (some (.aS [.an,sI .i64 w],m)) none
def aaV (s:ByteArray):FuncId→Nat→Nat→Option (AV→AV):=dw [(126,6,2,sI .u8 241)]
def aaW (s:ByteArray):FuncId→Nat→Nat→Option (AV→AV):=dw [(126,6,2,sI .u8 2)]
def aaX (s:ByteArray):FuncId→Nat→Nat→Option (AV→AV):=dw [(126,6,2,sI .u8 19)]
def aaY (s:ByteArray):FuncId→Nat→Nat→Option (AV→AV):=dw [(126,6,2,sI .u8 3)]
def aaZ (s:ByteArray):FuncId→Nat→Nat→Option (AV→AV):=dw [(126,6,2,sI .u8 35)]
def aa0 (s:ByteArray):FuncId→Nat→Nat→Option (AV→AV):=dw [(126,6,2,sI .u8 52)]
def aa1 (s:ByteArray):FuncId→Nat→Nat→Option (AV→AV):=dw [(126,6,2,sI .u8 4)]
def aa2 (s:ByteArray):FuncId→Nat→Nat→Option (AV→AV):=dw [(126,6,2,sI .u8 68)]
def blC (s:ByteArray) (i:Nat) (w:Int) (fn:FuncId) (_:List AV) (m:Mem):Option (AV×Mem):=cond (Nat.beq fn 111) (some (.aS [.an,sI .i64 w],m)) none
noncomputable def Tz (s:ByteArray) (w:Int):bu:=aK (drC s w) az [] [(111,2,3),(111,0,0)] [(111,2,4),(111,3,1)]
def X0:Sc:=(.fork .fin (.lit .fin))
noncomputable def AB (s:ByteArray) (w:Int):Tree:=
 (.test (!s.data.toList==(ByteArray.mk #[]).data.toList)
 (.must (aG 0 s.data.toList.length&&true)
 (.test (decide ((↑(s.data.toList.getD 0 0).toNat:Int)<128))
 (.must (aG 0 s.data.toList.length&&true)
 (.out (.ret (.aS [sI .i32 (IntKind.i32.wrap (↑(s.data.toList.getD 0 0).toNat:Int)),sI .i64 1]) [])))
 (.call ⟨126,[.p (.sc (.string s))],[],.aS [.an,sI .i64 w],[]⟩
 (.out (.ret (.aS [.an,sI .i64 w]) [])))))
 (.call ⟨126,[.p (.sc (.string s))],[],.aS [.an,sI .i64 w],[]⟩
 (.out (.ret (.aS [.an,sI .i64 w]) []))))
theorem Cc (s:ByteArray) (w:Int):aR Tryz.prog env (Tz s w) 1000000 111 ([AV.p (PV.sc (Value.string s))]) ([]) X0=AB s w:=by kernel_rfl
noncomputable def TA (s:ByteArray):bu:=kM av az [] [(126,0,0)] [(126,5,1),(126,6,1),(126,6,2),(126,9,1)] (aaV s)
def X1:Sc:= .fin
noncomputable def FD (s:ByteArray):Tree:=
 (.test (decide ((↑s.data.toList.length:Int)<1))
 (.out (.ret (.aS [sI .i32 65533,sI .i64 0]) []))
 (.must (aG 0 s.data.toList.length&&true)
 (.must (aG (↑(s.data.toList.getD 0 0).toNat:Int) 256&&true)
 (.must (isInt IntKind.u8 (bP.getD (0+(↑(s.data.toList.getD 0 0).toNat:Int).toNat*1) PV.bad)&&true)
 (.need (sI .u8 (au (bP.getD (0+(↑(s.data.toList.getD 0 0).toNat:Int).toNat*1) PV.bad))=sI IntKind.u8 241)
 (.must (aG 0 s.data.toList.length&&true)
 (.out (.ret (.aS [sI .i32 (IntKind.i32.wrap (↑(BitVec.ofInt 32 (IntKind.i32.wrap (↑(BitVec.ofInt 32 (IntKind.i32.wrap (↑(s.data.toList.getD 0 0).toNat:Int)) &&& ~~~BitVec.ofInt 32 (-1)).toNat:Int))|||BitVec.ofInt 32 65533).toNat:Int)),sI .i64 1]) []))))))))
theorem Lc (s:ByteArray):aR Tryz.prog env (TA s) 1000000 126 ([AV.p (PV.sc (Value.string s))]) ([]) X1=FD s:=by kernel_rfl
noncomputable def TB (s:ByteArray):bu:=kM av az [] [(126,0,0),(126,0,2),(126,15,5),(126,0,3)] [(126,5,1),(126,6,1),(126,6,2),(126,14,1)] (aaW s)
def X2:Sc:=(.fork .fin (.fork .fin (.fork (.lit .fin) .fin)))
noncomputable def oU (s:ByteArray):Tree:=
 (.test (decide ((↑s.data.toList.length:Int)<1))
 (.out (.ret (.aS [sI .i32 65533,sI .i64 0]) []))
 (.must (aG 0 s.data.toList.length&&true)
 (.must (aG (↑(s.data.toList.getD 0 0).toNat:Int) 256&&true)
 (.must (isInt IntKind.u8 (bP.getD (0+(↑(s.data.toList.getD 0 0).toNat:Int).toNat*1) PV.bad)&&true)
 (.need (sI .u8 (au (bP.getD (0+(↑(s.data.toList.getD 0 0).toNat:Int).toNat*1) PV.bad))=sI IntKind.u8 2)
 (.test (decide ((↑s.data.toList.length:Int)<2))
 (.out (.ret (.aS [sI .i32 65533,sI .i64 1]) []))
 (.must (aG 1 s.data.toList.length&&true)
 (.test (decide ((↑(s.data.toList.getD 1 0).toNat:Int)<128))
 (.out (.ret (.aS [sI .i32 65533,sI .i64 1]) []))
 (.test (decide (191<(↑(s.data.toList.getD 1 0).toNat:Int)))
 (.out (.ret (.aS [sI .i32 65533,sI .i64 1]) []))
 (.out (.ret (.aS [sI .i32 (IntKind.i32.wrap (↑(BitVec.ofInt 32 (IntKind.i32.wrap (IntKind.i32.wrap (IntKind.u8.wrap (↑(BitVec.ofInt 8 (↑(s.data.toList.getD 0 0).toNat:Int)&&&BitVec.ofInt 8 31).toNat:Int))*64))|||BitVec.ofInt 32 (IntKind.i32.wrap (IntKind.u8.wrap (↑(BitVec.ofInt 8 (↑(s.data.toList.getD 1 0).toNat:Int)&&&BitVec.ofInt 8 63).toNat:Int)))).toNat:Int)),sI .i64 2]) [])))))))))))
theorem oV (s:ByteArray):aR Tryz.prog env (TB s) 1000000 126 ([AV.p (PV.sc (Value.string s))]) ([]) X2=oU s:=by kernel_rfl
noncomputable def TC (s:ByteArray):bu:=kM av az [] [(126,0,0),(126,0,2),(126,15,5),(126,0,3),(126,20,3),(126,0,5)] [(126,5,1),(126,6,1),(126,6,2),(126,14,1),(126,19,1)] (aaX s)
def X3:Sc:=(.fork .fin (.fork .fin (.fork (.lit .fin) (.fork .fin (.fork (.lit .fin) .fin)))))
noncomputable def ko (s:ByteArray):Tree:=
 (.test (decide ((↑s.data.toList.length:Int)<1))
 (.out (.ret (.aS [sI .i32 65533,sI .i64 0]) []))
 (.must (aG 0 s.data.toList.length&&true)
 (.must (aG (↑(s.data.toList.getD 0 0).toNat:Int) 256&&true)
 (.must (isInt IntKind.u8 (bP.getD (0+(↑(s.data.toList.getD 0 0).toNat:Int).toNat*1) PV.bad)&&true)
 (.need (sI .u8 (au (bP.getD (0+(↑(s.data.toList.getD 0 0).toNat:Int).toNat*1) PV.bad))=sI IntKind.u8 19)
 (.test (decide ((↑s.data.toList.length:Int)<3))
 (.out (.ret (.aS [sI .i32 65533,sI .i64 1]) []))
 (.must (aG 1 s.data.toList.length&&true)
 (.test (decide ((↑(s.data.toList.getD 1 0).toNat:Int)<160))
 (.out (.ret (.aS [sI .i32 65533,sI .i64 1]) []))
 (.test (decide (191<(↑(s.data.toList.getD 1 0).toNat:Int)))
 (.out (.ret (.aS [sI .i32 65533,sI .i64 1]) []))
 (.must (aG 2 s.data.toList.length&&true)
 (.test (decide ((↑(s.data.toList.getD 2 0).toNat:Int)<128))
 (.out (.ret (.aS [sI .i32 65533,sI .i64 1]) []))
 (.test (decide (191<(↑(s.data.toList.getD 2 0).toNat:Int)))
 (.out (.ret (.aS [sI .i32 65533,sI .i64 1]) []))
 (.out (.ret (.aS [sI .i32 (IntKind.i32.wrap (↑(BitVec.ofInt 32 (IntKind.i32.wrap (↑(BitVec.ofInt 32 (IntKind.i32.wrap (IntKind.i32.wrap (IntKind.u8.wrap (↑(BitVec.ofInt 8 (↑(s.data.toList.getD 0 0).toNat:Int)&&&BitVec.ofInt 8 15).toNat:Int))*4096))|||BitVec.ofInt 32 (IntKind.i32.wrap (IntKind.i32.wrap (IntKind.u8.wrap (↑(BitVec.ofInt 8 (↑(s.data.toList.getD 1 0).toNat:Int)&&&BitVec.ofInt 8 63).toNat:Int))*64))).toNat:Int))|||BitVec.ofInt 32 (IntKind.i32.wrap (IntKind.u8.wrap (↑(BitVec.ofInt 8 (↑(s.data.toList.getD 2 0).toNat:Int)&&&BitVec.ofInt 8 63).toNat:Int)))).toNat:Int)),sI .i64 3]) []))))))))))))))
theorem jM (s:ByteArray):aR Tryz.prog env (TC s) 1000000 126 ([AV.p (PV.sc (Value.string s))]) ([]) X3=ko s:=by kernel_rfl
noncomputable def TD (s:ByteArray):bu:=kM av az [] [(126,0,0),(126,0,2),(126,15,5),(126,0,3),(126,20,3),(126,0,5)] [(126,5,1),(126,6,1),(126,6,2),(126,14,1),(126,19,1)] (aaY s)
def X4:Sc:=(.fork .fin (.fork .fin (.fork (.lit .fin) (.fork .fin (.fork (.lit .fin) .fin)))))
noncomputable def kq (s:ByteArray):Tree:=
 (.test (decide ((↑s.data.toList.length:Int)<1))
 (.out (.ret (.aS [sI .i32 65533,sI .i64 0]) []))
 (.must (aG 0 s.data.toList.length&&true)
 (.must (aG (↑(s.data.toList.getD 0 0).toNat:Int) 256&&true)
 (.must (isInt IntKind.u8 (bP.getD (0+(↑(s.data.toList.getD 0 0).toNat:Int).toNat*1) PV.bad)&&true)
 (.need (sI .u8 (au (bP.getD (0+(↑(s.data.toList.getD 0 0).toNat:Int).toNat*1) PV.bad))=sI IntKind.u8 3)
 (.test (decide ((↑s.data.toList.length:Int)<3))
 (.out (.ret (.aS [sI .i32 65533,sI .i64 1]) []))
 (.must (aG 1 s.data.toList.length&&true)
 (.test (decide ((↑(s.data.toList.getD 1 0).toNat:Int)<128))
 (.out (.ret (.aS [sI .i32 65533,sI .i64 1]) []))
 (.test (decide (191<(↑(s.data.toList.getD 1 0).toNat:Int)))
 (.out (.ret (.aS [sI .i32 65533,sI .i64 1]) []))
 (.must (aG 2 s.data.toList.length&&true)
 (.test (decide ((↑(s.data.toList.getD 2 0).toNat:Int)<128))
 (.out (.ret (.aS [sI .i32 65533,sI .i64 1]) []))
 (.test (decide (191<(↑(s.data.toList.getD 2 0).toNat:Int)))
 (.out (.ret (.aS [sI .i32 65533,sI .i64 1]) []))
 (.out (.ret (.aS [sI .i32 (IntKind.i32.wrap (↑(BitVec.ofInt 32 (IntKind.i32.wrap (↑(BitVec.ofInt 32 (IntKind.i32.wrap (IntKind.i32.wrap (IntKind.u8.wrap (↑(BitVec.ofInt 8 (↑(s.data.toList.getD 0 0).toNat:Int)&&&BitVec.ofInt 8 15).toNat:Int))*4096))|||BitVec.ofInt 32 (IntKind.i32.wrap (IntKind.i32.wrap (IntKind.u8.wrap (↑(BitVec.ofInt 8 (↑(s.data.toList.getD 1 0).toNat:Int)&&&BitVec.ofInt 8 63).toNat:Int))*64))).toNat:Int))|||BitVec.ofInt 32 (IntKind.i32.wrap (IntKind.u8.wrap (↑(BitVec.ofInt 8 (↑(s.data.toList.getD 2 0).toNat:Int)&&&BitVec.ofInt 8 63).toNat:Int)))).toNat:Int)),sI .i64 3]) []))))))))))))))
theorem jN (s:ByteArray):aR Tryz.prog env (TD s) 1000000 126 ([AV.p (PV.sc (Value.string s))]) ([]) X4=kq s:=by kernel_rfl
noncomputable def TE (s:ByteArray):bu:=kM av az [] [(126,0,0),(126,0,2),(126,15,5),(126,0,3),(126,20,3),(126,0,5)] [(126,5,1),(126,6,1),(126,6,2),(126,14,1),(126,19,1)] (aaZ s)
def X5:Sc:=(.fork .fin (.fork .fin (.fork (.lit .fin) (.fork .fin (.fork (.lit .fin) .fin)))))
noncomputable def kr (s:ByteArray):Tree:=
 (.test (decide ((↑s.data.toList.length:Int)<1))
 (.out (.ret (.aS [sI .i32 65533,sI .i64 0]) []))
 (.must (aG 0 s.data.toList.length&&true)
 (.must (aG (↑(s.data.toList.getD 0 0).toNat:Int) 256&&true)
 (.must (isInt IntKind.u8 (bP.getD (0+(↑(s.data.toList.getD 0 0).toNat:Int).toNat*1) PV.bad)&&true)
 (.need (sI .u8 (au (bP.getD (0+(↑(s.data.toList.getD 0 0).toNat:Int).toNat*1) PV.bad))=sI IntKind.u8 35)
 (.test (decide ((↑s.data.toList.length:Int)<3))
 (.out (.ret (.aS [sI .i32 65533,sI .i64 1]) []))
 (.must (aG 1 s.data.toList.length&&true)
 (.test (decide ((↑(s.data.toList.getD 1 0).toNat:Int)<128))
 (.out (.ret (.aS [sI .i32 65533,sI .i64 1]) []))
 (.test (decide (159<(↑(s.data.toList.getD 1 0).toNat:Int)))
 (.out (.ret (.aS [sI .i32 65533,sI .i64 1]) []))
 (.must (aG 2 s.data.toList.length&&true)
 (.test (decide ((↑(s.data.toList.getD 2 0).toNat:Int)<128))
 (.out (.ret (.aS [sI .i32 65533,sI .i64 1]) []))
 (.test (decide (191<(↑(s.data.toList.getD 2 0).toNat:Int)))
 (.out (.ret (.aS [sI .i32 65533,sI .i64 1]) []))
 (.out (.ret (.aS [sI .i32 (IntKind.i32.wrap (↑(BitVec.ofInt 32 (IntKind.i32.wrap (↑(BitVec.ofInt 32 (IntKind.i32.wrap (IntKind.i32.wrap (IntKind.u8.wrap (↑(BitVec.ofInt 8 (↑(s.data.toList.getD 0 0).toNat:Int)&&&BitVec.ofInt 8 15).toNat:Int))*4096))|||BitVec.ofInt 32 (IntKind.i32.wrap (IntKind.i32.wrap (IntKind.u8.wrap (↑(BitVec.ofInt 8 (↑(s.data.toList.getD 1 0).toNat:Int)&&&BitVec.ofInt 8 63).toNat:Int))*64))).toNat:Int))|||BitVec.ofInt 32 (IntKind.i32.wrap (IntKind.u8.wrap (↑(BitVec.ofInt 8 (↑(s.data.toList.getD 2 0).toNat:Int)&&&BitVec.ofInt 8 63).toNat:Int)))).toNat:Int)),sI .i64 3]) []))))))))))))))
theorem jO (s:ByteArray):aR Tryz.prog env (TE s) 1000000 126 ([AV.p (PV.sc (Value.string s))]) ([]) X5=kr s:=by kernel_rfl
noncomputable def TF (s:ByteArray):bu:=kM av az [] [(126,0,0),(126,0,2),(126,15,5),(126,0,3),(126,20,3),(126,0,5),(126,25,3),(126,0,7)] [(126,5,1),(126,6,1),(126,6,2),(126,14,1),(126,19,1),(126,24,1)] (aa0 s)
def X6:Sc:=(.fork .fin (.fork .fin (.fork (.lit .fin) (.fork .fin (.fork (.lit .fin) (.fork .fin (.fork (.lit .fin) .fin)))))))
noncomputable def gX (s:ByteArray):Tree:=
 (.test (decide ((↑s.data.toList.length:Int)<1))
 (.out (.ret (.aS [sI .i32 65533,sI .i64 0]) []))
 (.must (aG 0 s.data.toList.length&&true)
 (.must (aG (↑(s.data.toList.getD 0 0).toNat:Int) 256&&true)
 (.must (isInt IntKind.u8 (bP.getD (0+(↑(s.data.toList.getD 0 0).toNat:Int).toNat*1) PV.bad)&&true)
 (.need (sI .u8 (au (bP.getD (0+(↑(s.data.toList.getD 0 0).toNat:Int).toNat*1) PV.bad))=sI IntKind.u8 52)
 (.test (decide ((↑s.data.toList.length:Int)<4))
 (.out (.ret (.aS [sI .i32 65533,sI .i64 1]) []))
 (.must (aG 1 s.data.toList.length&&true)
 (.test (decide ((↑(s.data.toList.getD 1 0).toNat:Int)<144))
 (.out (.ret (.aS [sI .i32 65533,sI .i64 1]) []))
 (.test (decide (191<(↑(s.data.toList.getD 1 0).toNat:Int)))
 (.out (.ret (.aS [sI .i32 65533,sI .i64 1]) []))
 (.must (aG 2 s.data.toList.length&&true)
 (.test (decide ((↑(s.data.toList.getD 2 0).toNat:Int)<128))
 (.out (.ret (.aS [sI .i32 65533,sI .i64 1]) []))
 (.test (decide (191<(↑(s.data.toList.getD 2 0).toNat:Int)))
 (.out (.ret (.aS [sI .i32 65533,sI .i64 1]) []))
 (.must (aG 3 s.data.toList.length&&true)
 (.test (decide ((↑(s.data.toList.getD 3 0).toNat:Int)<128))
 (.out (.ret (.aS [sI .i32 65533,sI .i64 1]) []))
 (.test (decide (191<(↑(s.data.toList.getD 3 0).toNat:Int)))
 (.out (.ret (.aS [sI .i32 65533,sI .i64 1]) []))
 (.out (.ret (.aS [sI .i32 (IntKind.i32.wrap (↑(BitVec.ofInt 32 (IntKind.i32.wrap (↑(BitVec.ofInt 32 (IntKind.i32.wrap (↑(BitVec.ofInt 32 (IntKind.i32.wrap (IntKind.i32.wrap (IntKind.u8.wrap (↑(BitVec.ofInt 8 (↑(s.data.toList.getD 0 0).toNat:Int)&&&BitVec.ofInt 8 7).toNat:Int))*262144))|||BitVec.ofInt 32 (IntKind.i32.wrap (IntKind.i32.wrap (IntKind.u8.wrap (↑(BitVec.ofInt 8 (↑(s.data.toList.getD 1 0).toNat:Int)&&&BitVec.ofInt 8 63).toNat:Int))*4096))).toNat:Int))|||BitVec.ofInt 32 (IntKind.i32.wrap (IntKind.i32.wrap (IntKind.u8.wrap (↑(BitVec.ofInt 8 (↑(s.data.toList.getD 2 0).toNat:Int)&&&BitVec.ofInt 8 63).toNat:Int))*64))).toNat:Int))|||BitVec.ofInt 32 (IntKind.i32.wrap (IntKind.u8.wrap (↑(BitVec.ofInt 8 (↑(s.data.toList.getD 3 0).toNat:Int)&&&BitVec.ofInt 8 63).toNat:Int)))).toNat:Int)),sI .i64 4]) [])))))))))))))))))
theorem gG (s:ByteArray):aR Tryz.prog env (TF s) 1000000 126 ([AV.p (PV.sc (Value.string s))]) ([]) X6=gX s:=by kernel_rfl
noncomputable def TG (s:ByteArray):bu:=kM av az [] [(126,0,0),(126,0,2),(126,15,5),(126,0,3),(126,20,3),(126,0,5),(126,25,3),(126,0,7)] [(126,5,1),(126,6,1),(126,6,2),(126,14,1),(126,19,1),(126,24,1)] (aa1 s)
def X7:Sc:=(.fork .fin (.fork .fin (.fork (.lit .fin) (.fork .fin (.fork (.lit .fin) (.fork .fin (.fork (.lit .fin) .fin)))))))
noncomputable def gY (s:ByteArray):Tree:=
 (.test (decide ((↑s.data.toList.length:Int)<1))
 (.out (.ret (.aS [sI .i32 65533,sI .i64 0]) []))
 (.must (aG 0 s.data.toList.length&&true)
 (.must (aG (↑(s.data.toList.getD 0 0).toNat:Int) 256&&true)
 (.must (isInt IntKind.u8 (bP.getD (0+(↑(s.data.toList.getD 0 0).toNat:Int).toNat*1) PV.bad)&&true)
 (.need (sI .u8 (au (bP.getD (0+(↑(s.data.toList.getD 0 0).toNat:Int).toNat*1) PV.bad))=sI IntKind.u8 4)
 (.test (decide ((↑s.data.toList.length:Int)<4))
 (.out (.ret (.aS [sI .i32 65533,sI .i64 1]) []))
 (.must (aG 1 s.data.toList.length&&true)
 (.test (decide ((↑(s.data.toList.getD 1 0).toNat:Int)<128))
 (.out (.ret (.aS [sI .i32 65533,sI .i64 1]) []))
 (.test (decide (191<(↑(s.data.toList.getD 1 0).toNat:Int)))
 (.out (.ret (.aS [sI .i32 65533,sI .i64 1]) []))
 (.must (aG 2 s.data.toList.length&&true)
 (.test (decide ((↑(s.data.toList.getD 2 0).toNat:Int)<128))
 (.out (.ret (.aS [sI .i32 65533,sI .i64 1]) []))
 (.test (decide (191<(↑(s.data.toList.getD 2 0).toNat:Int)))
 (.out (.ret (.aS [sI .i32 65533,sI .i64 1]) []))
 (.must (aG 3 s.data.toList.length&&true)
 (.test (decide ((↑(s.data.toList.getD 3 0).toNat:Int)<128))
 (.out (.ret (.aS [sI .i32 65533,sI .i64 1]) []))
 (.test (decide (191<(↑(s.data.toList.getD 3 0).toNat:Int)))
 (.out (.ret (.aS [sI .i32 65533,sI .i64 1]) []))
 (.out (.ret (.aS [sI .i32 (IntKind.i32.wrap (↑(BitVec.ofInt 32 (IntKind.i32.wrap (↑(BitVec.ofInt 32 (IntKind.i32.wrap (↑(BitVec.ofInt 32 (IntKind.i32.wrap (IntKind.i32.wrap (IntKind.u8.wrap (↑(BitVec.ofInt 8 (↑(s.data.toList.getD 0 0).toNat:Int)&&&BitVec.ofInt 8 7).toNat:Int))*262144))|||BitVec.ofInt 32 (IntKind.i32.wrap (IntKind.i32.wrap (IntKind.u8.wrap (↑(BitVec.ofInt 8 (↑(s.data.toList.getD 1 0).toNat:Int)&&&BitVec.ofInt 8 63).toNat:Int))*4096))).toNat:Int))|||BitVec.ofInt 32 (IntKind.i32.wrap (IntKind.i32.wrap (IntKind.u8.wrap (↑(BitVec.ofInt 8 (↑(s.data.toList.getD 2 0).toNat:Int)&&&BitVec.ofInt 8 63).toNat:Int))*64))).toNat:Int))|||BitVec.ofInt 32 (IntKind.i32.wrap (IntKind.u8.wrap (↑(BitVec.ofInt 8 (↑(s.data.toList.getD 3 0).toNat:Int)&&&BitVec.ofInt 8 63).toNat:Int)))).toNat:Int)),sI .i64 4]) [])))))))))))))))))
theorem gH (s:ByteArray):aR Tryz.prog env (TG s) 1000000 126 ([AV.p (PV.sc (Value.string s))]) ([]) X7=gY s:=by kernel_rfl
noncomputable def TH (s:ByteArray):bu:=kM av az [] [(126,0,0),(126,0,2),(126,15,5),(126,0,3),(126,20,3),(126,0,5),(126,25,3),(126,0,7)] [(126,5,1),(126,6,1),(126,6,2),(126,14,1),(126,19,1),(126,24,1)] (aa2 s)
def X8:Sc:=(.fork .fin (.fork .fin (.fork (.lit .fin) (.fork .fin (.fork (.lit .fin) (.fork .fin (.fork (.lit .fin) .fin)))))))
noncomputable def gZ (s:ByteArray):Tree:=
 (.test (decide ((↑s.data.toList.length:Int)<1))
 (.out (.ret (.aS [sI .i32 65533,sI .i64 0]) []))
 (.must (aG 0 s.data.toList.length&&true)
 (.must (aG (↑(s.data.toList.getD 0 0).toNat:Int) 256&&true)
 (.must (isInt IntKind.u8 (bP.getD (0+(↑(s.data.toList.getD 0 0).toNat:Int).toNat*1) PV.bad)&&true)
 (.need (sI .u8 (au (bP.getD (0+(↑(s.data.toList.getD 0 0).toNat:Int).toNat*1) PV.bad))=sI IntKind.u8 68)
 (.test (decide ((↑s.data.toList.length:Int)<4))
 (.out (.ret (.aS [sI .i32 65533,sI .i64 1]) []))
 (.must (aG 1 s.data.toList.length&&true)
 (.test (decide ((↑(s.data.toList.getD 1 0).toNat:Int)<128))
 (.out (.ret (.aS [sI .i32 65533,sI .i64 1]) []))
 (.test (decide (143<(↑(s.data.toList.getD 1 0).toNat:Int)))
 (.out (.ret (.aS [sI .i32 65533,sI .i64 1]) []))
 (.must (aG 2 s.data.toList.length&&true)
 (.test (decide ((↑(s.data.toList.getD 2 0).toNat:Int)<128))
 (.out (.ret (.aS [sI .i32 65533,sI .i64 1]) []))
 (.test (decide (191<(↑(s.data.toList.getD 2 0).toNat:Int)))
 (.out (.ret (.aS [sI .i32 65533,sI .i64 1]) []))
 (.must (aG 3 s.data.toList.length&&true)
 (.test (decide ((↑(s.data.toList.getD 3 0).toNat:Int)<128))
 (.out (.ret (.aS [sI .i32 65533,sI .i64 1]) []))
 (.test (decide (191<(↑(s.data.toList.getD 3 0).toNat:Int)))
 (.out (.ret (.aS [sI .i32 65533,sI .i64 1]) []))
 (.out (.ret (.aS [sI .i32 (IntKind.i32.wrap (↑(BitVec.ofInt 32 (IntKind.i32.wrap (↑(BitVec.ofInt 32 (IntKind.i32.wrap (↑(BitVec.ofInt 32 (IntKind.i32.wrap (IntKind.i32.wrap (IntKind.u8.wrap (↑(BitVec.ofInt 8 (↑(s.data.toList.getD 0 0).toNat:Int)&&&BitVec.ofInt 8 7).toNat:Int))*262144))|||BitVec.ofInt 32 (IntKind.i32.wrap (IntKind.i32.wrap (IntKind.u8.wrap (↑(BitVec.ofInt 8 (↑(s.data.toList.getD 1 0).toNat:Int)&&&BitVec.ofInt 8 63).toNat:Int))*4096))).toNat:Int))|||BitVec.ofInt 32 (IntKind.i32.wrap (IntKind.i32.wrap (IntKind.u8.wrap (↑(BitVec.ofInt 8 (↑(s.data.toList.getD 2 0).toNat:Int)&&&BitVec.ofInt 8 63).toNat:Int))*64))).toNat:Int))|||BitVec.ofInt 32 (IntKind.i32.wrap (IntKind.u8.wrap (↑(BitVec.ofInt 8 (↑(s.data.toList.getD 3 0).toNat:Int)&&&BitVec.ofInt 8 63).toNat:Int)))).toNat:Int)),sI .i64 4]) [])))))))))))))))))
theorem gI (s:ByteArray):aR Tryz.prog env (TH s) 1000000 126 ([AV.p (PV.sc (Value.string s))]) ([]) X8=gZ s:=by kernel_rfl
noncomputable def TI:bu:=aK av az [(67,0)] [] [(67,2,1)]
def X9:Sc:= .fin
noncomputable def FE (n:Nat) (l:List PV):Tree:=
 (.must (l.all isByte&&true)
 (.at (af Tryz.prog env 67 0 [.p (.sc (.string (ByteArray.mk (List.map Am.byteOf l).toArray))),.mp 0 0] ([.ob (jQ.iter (ByteArray.mk (List.map Am.byteOf l).toArray) 0) []]) 0 28)))
theorem Ld (n:Nat) (l:List PV):aR Tryz.prog env TI 1000000 67 ([AV.p (PV.ps n 1 l)]) ([]) X9=FE n l:=by kernel_rfl
noncomputable def TJ (s:ByteArray) (i:Nat) (w:Int):bu:=aK (blC s i w) az [(67,0)] [(67,0,2),(67,0,3)] [(67,7,2)]
def Ya:Sc:= .fin
noncomputable def FF (s:ByteArray) (i:Nat) (w:Int):Tree:=
 (.test ((↑(Utf8.decode s i).fst:Int) != 65533)
 (.at (af Tryz.prog env 67 0 [.p (.sc (.string s)),.mp 0 0] ([.ob (jQ.iter s (i+(Utf8.decode s i).snd)) []]) 0 28))
 (.must ((↑i:Int).toNat.ble s.data.toList.length&&s.data.toList.length.ble s.data.toList.length&&true)
 (.call ⟨111,[.p (.sc (.string (s.extract (↑i:Int).toNat s.data.toList.length)))],[],.aS [.an,sI .i64 w],[]⟩
 (.test (w==1)
 (.out (.ret (sI .i64 (↑i:Int)) []))
 (.at (af Tryz.prog env 67 0 [.p (.sc (.string s)),.mp 0 0] ([.ob (jQ.iter s (i+(Utf8.decode s i).snd)) []]) 0 28))))))
theorem Le (s:ByteArray) (i:Nat) (w:Int):grow Tryz.prog env (TJ s i w) 1000000 true (af Tryz.prog env 67 0 ([AV.p (PV.sc (Value.string s)),AV.mp 0 0]) ([bg.ob (jQ.Nk s i true) []]) 0 28) Ya atEnd=FF s i w:=by kernel_rfl
noncomputable def TK (s:ByteArray) (i:Nat) (w:Int):bu:=aK (blC s i w) az [(67,0)] [] []
def Yb:Sc:= .fin
noncomputable def FG (s:ByteArray) (i:Nat) (w:Int):Tree:=
 (.out (.ret (sI .i64 (-1)) []))
theorem Cd (s:ByteArray) (i:Nat) (w:Int):grow Tryz.prog env (TK s i w) 1000000 true (af Tryz.prog env 67 0 ([AV.p (PV.sc (Value.string s)),AV.mp 0 0]) ([bg.ob (jQ.Nk s i false) []]) 0 28) Yb atEnd=FG s i w:=by kernel_rfl
theorem bh {f:FuncId} {args:List AV} {r w:Int} (h:aC Tryz.prog env f args [] (.aS [sI .i32 r,sI .i64 w]) []):aC Tryz.prog env f args [] (.aS [.an,sI .i64 w]) []:=
 h.weak fun g wd cv q=>by
   cases q with
   |aS _ cs hl hc=>
    have hv:cj g wd [sI .i32 r,sI .i64 w] cs.toList:=bq.ct hl hc
    refine VA.iA.2 ?_
    generalize cs.toList=vs at hv
    match vs,hv with
    |[u,t],hv=>
     obtain⟨_,h2,_⟩:=hv
     cases h2 with
     |p _ _ h2=>cases h2 with
      |sc=>exact⟨.an _,.p _ _ (.sc _),trivial⟩
theorem eB {b:Nat} (h:b<256):bP.getD b .bad = .sc (.int .u8 (gb.getD b 0)):=by
 have hl:gb.length=256:=by decide +kernel
 rw[bP,List.getD_eq_getElem?_getD,List.getElem?_map,List.getElem?_eq_getElem (by omega),List.getD_eq_getElem?_getD,List.getElem?_eq_getElem (by omega)]
 rfl
section
variable (s:ByteArray)
abbrev bt (j:Nat):Nat:=(s.data.toList.getD j 0).toNat
def cU (sz lo hi:Nat):Nat×Nat:=Lib.slowN s.data.toList.length (bt s 0) (bt s 1) (bt s 2) (bt s 3) sz lo hi
theorem ju (j:Nat):bt s j<256:=(s.data.toList.getD j 0).toNat_lt
theorem TL (b:Nat) (h:128≤b∧b<194∨245≤b∧b<256):bP.getD b .bad = .sc (.int .u8 241):=by
 have hb:b<256:=by omega
 have h:b∈(List.range 256).filter (fun b=>decide (128≤b∧b<194∨245≤b∧b<256)):=List.mem_filter.2 ⟨List.mem_range.2 (by omega),decide_eq_true h⟩
 have hall : ∀b∈(List.range 256).filter (fun b=>decide (128≤b∧b<194∨245≤b∧b<256)),gb.getD b 0=241:=by decide +kernel
 rw[eB hb,hall b h]
theorem Lf (h0:0<s.data.toList.length) (hb:128≤bt s 0∧bt s 0<194∨245≤bt s 0∧bt s 0<256):aC Tryz.prog env 126 [.p (.sc (.string s))] [] (.aS [.an,sI .i64 1]) []:=by
 have firstAt:bP.getD (0+(s.data.toList.getD 0 0).toNat*1) .bad = .sc (.int .u8 241):=by rw[Nat.zero_add,Nat.mul_one];exact TL (bt s 0) hb
 have hn0:decide ((s.data.toList.length:Int)<1)=false:=decide_eq_false (by omega)
 have hin : ∀j:Nat,j<s.data.toList.length→aG (j:Int) s.data.toList.length=true:=fun j h=>by simp only[aG,Bool.and_eq_true,decide_eq_true_eq];omega
 have dV:aG 0 s.data.toList.length=true:=hin 0 h0
 have bF:aG (bt s 0:Int) 256=true:=by simp only[aG,Bool.and_eq_true,decide_eq_true_eq];omega
 refine bh (r:=(IntKind.i32.wrap (↑(BitVec.ofInt 32 (IntKind.i32.wrap (↑(BitVec.ofInt 32 (IntKind.i32.wrap (↑(s.data.toList.getD 0 0).toNat:Int)) &&& ~~~BitVec.ofInt 32 (-1)).toNat:Int))|||BitVec.ofInt 32 65533).toNat:Int))) (ah names (Lc s) ?_)
 simp only[FD,Tree.ok,hn0,dV,bF,Int.toNat_natCast,firstAt,isInt,au,Bool.and_true,Bool.false_eq_true,Bool.true_eq_false,false_implies,true_implies,true_and,and_true]
 first | rfl | exact⟨rfl,rfl⟩ | exact⟨rfl,rfl,rfl⟩
theorem TM (b:Nat) (h:194≤b∧b<224):bP.getD b .bad = .sc (.int .u8 2):=by
 have hb:b<256:=by omega
 have h:b∈(List.range 256).filter (fun b=>decide (194≤b∧b<224)):=List.mem_filter.2 ⟨List.mem_range.2 (by omega),decide_eq_true h⟩
 have hall : ∀b∈(List.range 256).filter (fun b=>decide (194≤b∧b<224)),gb.getD b 0=2:=by decide +kernel
 rw[eB hb,hall b h]
theorem Lg (h0:0<s.data.toList.length) (hb:194≤bt s 0∧bt s 0<224):aC Tryz.prog env 126 [.p (.sc (.string s))] [] (.aS [.an,sI .i64 ((cU s 2 128 191).2:Nat)]) []:=by
 have firstAt:bP.getD (0+(s.data.toList.getD 0 0).toNat*1) .bad = .sc (.int .u8 2):=by rw[Nat.zero_add,Nat.mul_one];exact TM (bt s 0) hb
 have hn0:decide ((s.data.toList.length:Int)<1)=false:=decide_eq_false (by omega)
 have hin : ∀j:Nat,j<s.data.toList.length→aG (j:Int) s.data.toList.length=true:=fun j h=>by simp only[aG,Bool.and_eq_true,decide_eq_true_eq];omega
 have dV:aG 0 s.data.toList.length=true:=hin 0 h0
 have bF:aG (bt s 0:Int) 256=true:=by simp only[aG,Bool.and_eq_true,decide_eq_true_eq];omega
 by_cases q0:s.data.toList.length<2
 · have e0:decide ((s.data.toList.length:Int)<2)=true:=decide_eq_true (by omega)
   have hs:cU s 2 128 191=(65533,1):=by unfold cU Lib.slowN;rw[if_pos q0]
   rw[hs]
   refine bh (r:=65533) (ah names (oV s) ?_)
   simp only[oU,Tree.ok,hn0,dV,bF,Int.toNat_natCast,firstAt,isInt,au,Bool.and_true,Bool.false_eq_true,Bool.true_eq_false,false_implies,true_implies,true_and,and_true,e0]
   first | rfl | exact⟨rfl,rfl⟩ | exact⟨rfl,rfl,rfl⟩
 have e0:decide ((s.data.toList.length:Int)<2)=false:=decide_eq_false (by omega)
 have hi1:aG 1 s.data.toList.length=true:=hin 1 (by omega)
 by_cases q1:bt s 1<128
 · have e1:decide ((bt s 1:Int)<128)=true:=decide_eq_true (by omega)
   have hs:cU s 2 128 191=(65533,1):=by unfold cU Lib.slowN;rw[if_neg q0,if_pos (.inl q1)]
   rw[hs]
   refine bh (r:=65533) (ah names (oV s) ?_)
   simp only[oU,Tree.ok,hn0,dV,bF,Int.toNat_natCast,firstAt,isInt,au,Bool.and_true,Bool.false_eq_true,Bool.true_eq_false,false_implies,true_implies,true_and,and_true,e0,e1,hi1]
   first | rfl | exact⟨rfl,rfl⟩ | exact⟨rfl,rfl,rfl⟩
 have e1:decide ((bt s 1:Int)<128)=false:=decide_eq_false (by omega)
 by_cases q2:191<bt s 1
 · have e2:decide (191<(bt s 1:Int))=true:=decide_eq_true (by omega)
   have hs:cU s 2 128 191=(65533,1):=by unfold cU Lib.slowN;rw[if_neg q0,if_pos (.inr q2)]
   rw[hs]
   refine bh (r:=65533) (ah names (oV s) ?_)
   simp only[oU,Tree.ok,hn0,dV,bF,Int.toNat_natCast,firstAt,isInt,au,Bool.and_true,Bool.false_eq_true,Bool.true_eq_false,false_implies,true_implies,true_and,and_true,e0,e1,e2,hi1]
   first | rfl | exact⟨rfl,rfl⟩ | exact⟨rfl,rfl,rfl⟩
 have e2:decide (191<(bt s 1:Int))=false:=decide_eq_false (by omega)
 have hs:cU s 2 128 191=(bt s 0%32*64+bt s 1%64,2):=by unfold cU Lib.slowN;rw[if_neg q0,if_neg (not_or.2 ⟨q1,q2⟩),if_pos (by decide)]
 rw[hs]
 refine bh (r:=(IntKind.i32.wrap (↑(BitVec.ofInt 32 (IntKind.i32.wrap (IntKind.i32.wrap (IntKind.u8.wrap (↑(BitVec.ofInt 8 (↑(s.data.toList.getD 0 0).toNat:Int)&&&BitVec.ofInt 8 31).toNat:Int))*64))|||BitVec.ofInt 32 (IntKind.i32.wrap (IntKind.u8.wrap (↑(BitVec.ofInt 8 (↑(s.data.toList.getD 1 0).toNat:Int)&&&BitVec.ofInt 8 63).toNat:Int)))).toNat:Int))) (ah names (oV s) ?_)
 simp only[oU,Tree.ok,hn0,dV,bF,Int.toNat_natCast,firstAt,isInt,au,Bool.and_true,Bool.false_eq_true,Bool.true_eq_false,false_implies,true_implies,true_and,and_true,e0,e1,e2,hi1]
 first | rfl | exact⟨rfl,rfl⟩ | exact⟨rfl,rfl,rfl⟩
theorem TN (b:Nat) (h:b=224):bP.getD b .bad = .sc (.int .u8 19):=by
 have hb:b<256:=by omega
 have h:b∈(List.range 256).filter (fun b=>decide (b=224)):=List.mem_filter.2 ⟨List.mem_range.2 (by omega),decide_eq_true h⟩
 have hall : ∀b∈(List.range 256).filter (fun b=>decide (b=224)),gb.getD b 0=19:=by decide +kernel
 rw[eB hb,hall b h]
theorem Lh (h0:0<s.data.toList.length) (hb:bt s 0=224):aC Tryz.prog env 126 [.p (.sc (.string s))] [] (.aS [.an,sI .i64 ((cU s 3 160 191).2:Nat)]) []:=by
 have firstAt:bP.getD (0+(s.data.toList.getD 0 0).toNat*1) .bad = .sc (.int .u8 19):=by rw[Nat.zero_add,Nat.mul_one];exact TN (bt s 0) hb
 have hn0:decide ((s.data.toList.length:Int)<1)=false:=decide_eq_false (by omega)
 have hin : ∀j:Nat,j<s.data.toList.length→aG (j:Int) s.data.toList.length=true:=fun j h=>by simp only[aG,Bool.and_eq_true,decide_eq_true_eq];omega
 have dV:aG 0 s.data.toList.length=true:=hin 0 h0
 have bF:aG (bt s 0:Int) 256=true:=by simp only[aG,Bool.and_eq_true,decide_eq_true_eq];omega
 by_cases q0:s.data.toList.length<3
 · have e0:decide ((s.data.toList.length:Int)<3)=true:=decide_eq_true (by omega)
   have hs:cU s 3 160 191=(65533,1):=by unfold cU Lib.slowN;rw[if_pos q0]
   rw[hs]
   refine bh (r:=65533) (ah names (jM s) ?_)
   simp only[ko,Tree.ok,hn0,dV,bF,Int.toNat_natCast,firstAt,isInt,au,Bool.and_true,Bool.false_eq_true,Bool.true_eq_false,false_implies,true_implies,true_and,and_true,e0]
   first | rfl | exact⟨rfl,rfl⟩ | exact⟨rfl,rfl,rfl⟩
 have e0:decide ((s.data.toList.length:Int)<3)=false:=decide_eq_false (by omega)
 have hi1:aG 1 s.data.toList.length=true:=hin 1 (by omega)
 by_cases q1:bt s 1<160
 · have e1:decide ((bt s 1:Int)<160)=true:=decide_eq_true (by omega)
   have hs:cU s 3 160 191=(65533,1):=by unfold cU Lib.slowN;rw[if_neg q0,if_pos (.inl q1)]
   rw[hs]
   refine bh (r:=65533) (ah names (jM s) ?_)
   simp only[ko,Tree.ok,hn0,dV,bF,Int.toNat_natCast,firstAt,isInt,au,Bool.and_true,Bool.false_eq_true,Bool.true_eq_false,false_implies,true_implies,true_and,and_true,e0,e1,hi1]
   first | rfl | exact⟨rfl,rfl⟩ | exact⟨rfl,rfl,rfl⟩
 have e1:decide ((bt s 1:Int)<160)=false:=decide_eq_false (by omega)
 by_cases q2:191<bt s 1
 · have e2:decide (191<(bt s 1:Int))=true:=decide_eq_true (by omega)
   have hs:cU s 3 160 191=(65533,1):=by unfold cU Lib.slowN;rw[if_neg q0,if_pos (.inr q2)]
   rw[hs]
   refine bh (r:=65533) (ah names (jM s) ?_)
   simp only[ko,Tree.ok,hn0,dV,bF,Int.toNat_natCast,firstAt,isInt,au,Bool.and_true,Bool.false_eq_true,Bool.true_eq_false,false_implies,true_implies,true_and,and_true,e0,e1,e2,hi1]
   first | rfl | exact⟨rfl,rfl⟩ | exact⟨rfl,rfl,rfl⟩
 have e2:decide (191<(bt s 1:Int))=false:=decide_eq_false (by omega)
 have hi2:aG 2 s.data.toList.length=true:=hin 2 (by omega)
 by_cases q3:bt s 2<128
 · have e3:decide ((bt s 2:Int)<128)=true:=decide_eq_true (by omega)
   have hs:cU s 3 160 191=(65533,1):=by unfold cU Lib.slowN;rw[if_neg q0,if_neg (not_or.2 ⟨q1,q2⟩),if_neg (by decide),if_pos (.inl q3)]
   rw[hs]
   refine bh (r:=65533) (ah names (jM s) ?_)
   simp only[ko,Tree.ok,hn0,dV,bF,Int.toNat_natCast,firstAt,isInt,au,Bool.and_true,Bool.false_eq_true,Bool.true_eq_false,false_implies,true_implies,true_and,and_true,e0,e1,e2,e3,hi1,hi2]
   first | rfl | exact⟨rfl,rfl⟩ | exact⟨rfl,rfl,rfl⟩
 have e3:decide ((bt s 2:Int)<128)=false:=decide_eq_false (by omega)
 by_cases q4:191<bt s 2
 · have e4:decide (191<(bt s 2:Int))=true:=decide_eq_true (by omega)
   have hs:cU s 3 160 191=(65533,1):=by unfold cU Lib.slowN;rw[if_neg q0,if_neg (not_or.2 ⟨q1,q2⟩),if_neg (by decide),if_pos (.inr q4)]
   rw[hs]
   refine bh (r:=65533) (ah names (jM s) ?_)
   simp only[ko,Tree.ok,hn0,dV,bF,Int.toNat_natCast,firstAt,isInt,au,Bool.and_true,Bool.false_eq_true,Bool.true_eq_false,false_implies,true_implies,true_and,and_true,e0,e1,e2,e3,e4,hi1,hi2]
   first | rfl | exact⟨rfl,rfl⟩ | exact⟨rfl,rfl,rfl⟩
 have e4:decide (191<(bt s 2:Int))=false:=decide_eq_false (by omega)
 have hs:cU s 3 160 191=(bt s 0%16*4096+bt s 1%64*64+bt s 2%64,3):=by unfold cU Lib.slowN;rw[if_neg q0,if_neg (not_or.2 ⟨q1,q2⟩),if_neg (by decide),if_neg (not_or.2 ⟨q3,q4⟩),if_pos (by decide)]
 rw[hs]
 refine bh (r:=(IntKind.i32.wrap (↑(BitVec.ofInt 32 (IntKind.i32.wrap (↑(BitVec.ofInt 32 (IntKind.i32.wrap (IntKind.i32.wrap (IntKind.u8.wrap (↑(BitVec.ofInt 8 (↑(s.data.toList.getD 0 0).toNat:Int)&&&BitVec.ofInt 8 15).toNat:Int))*4096))|||BitVec.ofInt 32 (IntKind.i32.wrap (IntKind.i32.wrap (IntKind.u8.wrap (↑(BitVec.ofInt 8 (↑(s.data.toList.getD 1 0).toNat:Int)&&&BitVec.ofInt 8 63).toNat:Int))*64))).toNat:Int))|||BitVec.ofInt 32 (IntKind.i32.wrap (IntKind.u8.wrap (↑(BitVec.ofInt 8 (↑(s.data.toList.getD 2 0).toNat:Int)&&&BitVec.ofInt 8 63).toNat:Int)))).toNat:Int))) (ah names (jM s) ?_)
 simp only[ko,Tree.ok,hn0,dV,bF,Int.toNat_natCast,firstAt,isInt,au,Bool.and_true,Bool.false_eq_true,Bool.true_eq_false,false_implies,true_implies,true_and,and_true,e0,e1,e2,e3,e4,hi1,hi2]
 first | rfl | exact⟨rfl,rfl⟩ | exact⟨rfl,rfl,rfl⟩
theorem TO (b:Nat) (h:225≤b∧b<237∨238≤b∧b<240):bP.getD b .bad = .sc (.int .u8 3):=by
 have hb:b<256:=by omega
 have h:b∈(List.range 256).filter (fun b=>decide (225≤b∧b<237∨238≤b∧b<240)):=List.mem_filter.2 ⟨List.mem_range.2 (by omega),decide_eq_true h⟩
 have hall : ∀b∈(List.range 256).filter (fun b=>decide (225≤b∧b<237∨238≤b∧b<240)),gb.getD b 0=3:=by decide +kernel
 rw[eB hb,hall b h]
theorem Lj (h0:0<s.data.toList.length) (hb:225≤bt s 0∧bt s 0<237∨238≤bt s 0∧bt s 0<240):aC Tryz.prog env 126 [.p (.sc (.string s))] [] (.aS [.an,sI .i64 ((cU s 3 128 191).2:Nat)]) []:=by
 have firstAt:bP.getD (0+(s.data.toList.getD 0 0).toNat*1) .bad = .sc (.int .u8 3):=by rw[Nat.zero_add,Nat.mul_one];exact TO (bt s 0) hb
 have hn0:decide ((s.data.toList.length:Int)<1)=false:=decide_eq_false (by omega)
 have hin : ∀j:Nat,j<s.data.toList.length→aG (j:Int) s.data.toList.length=true:=fun j h=>by simp only[aG,Bool.and_eq_true,decide_eq_true_eq];omega
 have dV:aG 0 s.data.toList.length=true:=hin 0 h0
 have bF:aG (bt s 0:Int) 256=true:=by simp only[aG,Bool.and_eq_true,decide_eq_true_eq];omega
 by_cases q0:s.data.toList.length<3
 · have e0:decide ((s.data.toList.length:Int)<3)=true:=decide_eq_true (by omega)
   have hs:cU s 3 128 191=(65533,1):=by unfold cU Lib.slowN;rw[if_pos q0]
   rw[hs]
   refine bh (r:=65533) (ah names (jN s) ?_)
   simp only[kq,Tree.ok,hn0,dV,bF,Int.toNat_natCast,firstAt,isInt,au,Bool.and_true,Bool.false_eq_true,Bool.true_eq_false,false_implies,true_implies,true_and,and_true,e0]
   first | rfl | exact⟨rfl,rfl⟩ | exact⟨rfl,rfl,rfl⟩
 have e0:decide ((s.data.toList.length:Int)<3)=false:=decide_eq_false (by omega)
 have hi1:aG 1 s.data.toList.length=true:=hin 1 (by omega)
 by_cases q1:bt s 1<128
 · have e1:decide ((bt s 1:Int)<128)=true:=decide_eq_true (by omega)
   have hs:cU s 3 128 191=(65533,1):=by unfold cU Lib.slowN;rw[if_neg q0,if_pos (.inl q1)]
   rw[hs]
   refine bh (r:=65533) (ah names (jN s) ?_)
   simp only[kq,Tree.ok,hn0,dV,bF,Int.toNat_natCast,firstAt,isInt,au,Bool.and_true,Bool.false_eq_true,Bool.true_eq_false,false_implies,true_implies,true_and,and_true,e0,e1,hi1]
   first | rfl | exact⟨rfl,rfl⟩ | exact⟨rfl,rfl,rfl⟩
 have e1:decide ((bt s 1:Int)<128)=false:=decide_eq_false (by omega)
 by_cases q2:191<bt s 1
 · have e2:decide (191<(bt s 1:Int))=true:=decide_eq_true (by omega)
   have hs:cU s 3 128 191=(65533,1):=by unfold cU Lib.slowN;rw[if_neg q0,if_pos (.inr q2)]
   rw[hs]
   refine bh (r:=65533) (ah names (jN s) ?_)
   simp only[kq,Tree.ok,hn0,dV,bF,Int.toNat_natCast,firstAt,isInt,au,Bool.and_true,Bool.false_eq_true,Bool.true_eq_false,false_implies,true_implies,true_and,and_true,e0,e1,e2,hi1]
   first | rfl | exact⟨rfl,rfl⟩ | exact⟨rfl,rfl,rfl⟩
 have e2:decide (191<(bt s 1:Int))=false:=decide_eq_false (by omega)
 have hi2:aG 2 s.data.toList.length=true:=hin 2 (by omega)
 by_cases q3:bt s 2<128
 · have e3:decide ((bt s 2:Int)<128)=true:=decide_eq_true (by omega)
   have hs:cU s 3 128 191=(65533,1):=by unfold cU Lib.slowN;rw[if_neg q0,if_neg (not_or.2 ⟨q1,q2⟩),if_neg (by decide),if_pos (.inl q3)]
   rw[hs]
   refine bh (r:=65533) (ah names (jN s) ?_)
   simp only[kq,Tree.ok,hn0,dV,bF,Int.toNat_natCast,firstAt,isInt,au,Bool.and_true,Bool.false_eq_true,Bool.true_eq_false,false_implies,true_implies,true_and,and_true,e0,e1,e2,e3,hi1,hi2]
   first | rfl | exact⟨rfl,rfl⟩ | exact⟨rfl,rfl,rfl⟩
 have e3:decide ((bt s 2:Int)<128)=false:=decide_eq_false (by omega)
 by_cases q4:191<bt s 2
 · have e4:decide (191<(bt s 2:Int))=true:=decide_eq_true (by omega)
   have hs:cU s 3 128 191=(65533,1):=by unfold cU Lib.slowN;rw[if_neg q0,if_neg (not_or.2 ⟨q1,q2⟩),if_neg (by decide),if_pos (.inr q4)]
   rw[hs]
   refine bh (r:=65533) (ah names (jN s) ?_)
   simp only[kq,Tree.ok,hn0,dV,bF,Int.toNat_natCast,firstAt,isInt,au,Bool.and_true,Bool.false_eq_true,Bool.true_eq_false,false_implies,true_implies,true_and,and_true,e0,e1,e2,e3,e4,hi1,hi2]
   first | rfl | exact⟨rfl,rfl⟩ | exact⟨rfl,rfl,rfl⟩
 have e4:decide (191<(bt s 2:Int))=false:=decide_eq_false (by omega)
 have hs:cU s 3 128 191=(bt s 0%16*4096+bt s 1%64*64+bt s 2%64,3):=by unfold cU Lib.slowN;rw[if_neg q0,if_neg (not_or.2 ⟨q1,q2⟩),if_neg (by decide),if_neg (not_or.2 ⟨q3,q4⟩),if_pos (by decide)]
 rw[hs]
 refine bh (r:=(IntKind.i32.wrap (↑(BitVec.ofInt 32 (IntKind.i32.wrap (↑(BitVec.ofInt 32 (IntKind.i32.wrap (IntKind.i32.wrap (IntKind.u8.wrap (↑(BitVec.ofInt 8 (↑(s.data.toList.getD 0 0).toNat:Int)&&&BitVec.ofInt 8 15).toNat:Int))*4096))|||BitVec.ofInt 32 (IntKind.i32.wrap (IntKind.i32.wrap (IntKind.u8.wrap (↑(BitVec.ofInt 8 (↑(s.data.toList.getD 1 0).toNat:Int)&&&BitVec.ofInt 8 63).toNat:Int))*64))).toNat:Int))|||BitVec.ofInt 32 (IntKind.i32.wrap (IntKind.u8.wrap (↑(BitVec.ofInt 8 (↑(s.data.toList.getD 2 0).toNat:Int)&&&BitVec.ofInt 8 63).toNat:Int)))).toNat:Int))) (ah names (jN s) ?_)
 simp only[kq,Tree.ok,hn0,dV,bF,Int.toNat_natCast,firstAt,isInt,au,Bool.and_true,Bool.false_eq_true,Bool.true_eq_false,false_implies,true_implies,true_and,and_true,e0,e1,e2,e3,e4,hi1,hi2]
 first | rfl | exact⟨rfl,rfl⟩ | exact⟨rfl,rfl,rfl⟩
theorem TP (b:Nat) (h:b=237):bP.getD b .bad = .sc (.int .u8 35):=by
 have hb:b<256:=by omega
 have h:b∈(List.range 256).filter (fun b=>decide (b=237)):=List.mem_filter.2 ⟨List.mem_range.2 (by omega),decide_eq_true h⟩
 have hall : ∀b∈(List.range 256).filter (fun b=>decide (b=237)),gb.getD b 0=35:=by decide +kernel
 rw[eB hb,hall b h]
theorem Ll (h0:0<s.data.toList.length) (hb:bt s 0=237):aC Tryz.prog env 126 [.p (.sc (.string s))] [] (.aS [.an,sI .i64 ((cU s 3 128 159).2:Nat)]) []:=by
 have firstAt:bP.getD (0+(s.data.toList.getD 0 0).toNat*1) .bad = .sc (.int .u8 35):=by rw[Nat.zero_add,Nat.mul_one];exact TP (bt s 0) hb
 have hn0:decide ((s.data.toList.length:Int)<1)=false:=decide_eq_false (by omega)
 have hin : ∀j:Nat,j<s.data.toList.length→aG (j:Int) s.data.toList.length=true:=fun j h=>by simp only[aG,Bool.and_eq_true,decide_eq_true_eq];omega
 have dV:aG 0 s.data.toList.length=true:=hin 0 h0
 have bF:aG (bt s 0:Int) 256=true:=by simp only[aG,Bool.and_eq_true,decide_eq_true_eq];omega
 by_cases q0:s.data.toList.length<3
 · have e0:decide ((s.data.toList.length:Int)<3)=true:=decide_eq_true (by omega)
   have hs:cU s 3 128 159=(65533,1):=by unfold cU Lib.slowN;rw[if_pos q0]
   rw[hs]
   refine bh (r:=65533) (ah names (jO s) ?_)
   simp only[kr,Tree.ok,hn0,dV,bF,Int.toNat_natCast,firstAt,isInt,au,Bool.and_true,Bool.false_eq_true,Bool.true_eq_false,false_implies,true_implies,true_and,and_true,e0]
   first | rfl | exact⟨rfl,rfl⟩ | exact⟨rfl,rfl,rfl⟩
 have e0:decide ((s.data.toList.length:Int)<3)=false:=decide_eq_false (by omega)
 have hi1:aG 1 s.data.toList.length=true:=hin 1 (by omega)
 by_cases q1:bt s 1<128
 · have e1:decide ((bt s 1:Int)<128)=true:=decide_eq_true (by omega)
   have hs:cU s 3 128 159=(65533,1):=by unfold cU Lib.slowN;rw[if_neg q0,if_pos (.inl q1)]
   rw[hs]
   refine bh (r:=65533) (ah names (jO s) ?_)
   simp only[kr,Tree.ok,hn0,dV,bF,Int.toNat_natCast,firstAt,isInt,au,Bool.and_true,Bool.false_eq_true,Bool.true_eq_false,false_implies,true_implies,true_and,and_true,e0,e1,hi1]
   first | rfl | exact⟨rfl,rfl⟩ | exact⟨rfl,rfl,rfl⟩
 have e1:decide ((bt s 1:Int)<128)=false:=decide_eq_false (by omega)
 by_cases q2:159<bt s 1
 · have e2:decide (159<(bt s 1:Int))=true:=decide_eq_true (by omega)
   have hs:cU s 3 128 159=(65533,1):=by unfold cU Lib.slowN;rw[if_neg q0,if_pos (.inr q2)]
   rw[hs]
   refine bh (r:=65533) (ah names (jO s) ?_)
   simp only[kr,Tree.ok,hn0,dV,bF,Int.toNat_natCast,firstAt,isInt,au,Bool.and_true,Bool.false_eq_true,Bool.true_eq_false,false_implies,true_implies,true_and,and_true,e0,e1,e2,hi1]
   first | rfl | exact⟨rfl,rfl⟩ | exact⟨rfl,rfl,rfl⟩
 have e2:decide (159<(bt s 1:Int))=false:=decide_eq_false (by omega)
 have hi2:aG 2 s.data.toList.length=true:=hin 2 (by omega)
 by_cases q3:bt s 2<128
 · have e3:decide ((bt s 2:Int)<128)=true:=decide_eq_true (by omega)
   have hs:cU s 3 128 159=(65533,1):=by unfold cU Lib.slowN;rw[if_neg q0,if_neg (not_or.2 ⟨q1,q2⟩),if_neg (by decide),if_pos (.inl q3)]
   rw[hs]
   refine bh (r:=65533) (ah names (jO s) ?_)
   simp only[kr,Tree.ok,hn0,dV,bF,Int.toNat_natCast,firstAt,isInt,au,Bool.and_true,Bool.false_eq_true,Bool.true_eq_false,false_implies,true_implies,true_and,and_true,e0,e1,e2,e3,hi1,hi2]
   first | rfl | exact⟨rfl,rfl⟩ | exact⟨rfl,rfl,rfl⟩
 have e3:decide ((bt s 2:Int)<128)=false:=decide_eq_false (by omega)
 by_cases q4:191<bt s 2
 · have e4:decide (191<(bt s 2:Int))=true:=decide_eq_true (by omega)
   have hs:cU s 3 128 159=(65533,1):=by unfold cU Lib.slowN;rw[if_neg q0,if_neg (not_or.2 ⟨q1,q2⟩),if_neg (by decide),if_pos (.inr q4)]
   rw[hs]
   refine bh (r:=65533) (ah names (jO s) ?_)
   simp only[kr,Tree.ok,hn0,dV,bF,Int.toNat_natCast,firstAt,isInt,au,Bool.and_true,Bool.false_eq_true,Bool.true_eq_false,false_implies,true_implies,true_and,and_true,e0,e1,e2,e3,e4,hi1,hi2]
   first | rfl | exact⟨rfl,rfl⟩ | exact⟨rfl,rfl,rfl⟩
 have e4:decide (191<(bt s 2:Int))=false:=decide_eq_false (by omega)
 have hs:cU s 3 128 159=(bt s 0%16*4096+bt s 1%64*64+bt s 2%64,3):=by unfold cU Lib.slowN;rw[if_neg q0,if_neg (not_or.2 ⟨q1,q2⟩),if_neg (by decide),if_neg (not_or.2 ⟨q3,q4⟩),if_pos (by decide)]
 rw[hs]
 refine bh (r:=(IntKind.i32.wrap (↑(BitVec.ofInt 32 (IntKind.i32.wrap (↑(BitVec.ofInt 32 (IntKind.i32.wrap (IntKind.i32.wrap (IntKind.u8.wrap (↑(BitVec.ofInt 8 (↑(s.data.toList.getD 0 0).toNat:Int)&&&BitVec.ofInt 8 15).toNat:Int))*4096))|||BitVec.ofInt 32 (IntKind.i32.wrap (IntKind.i32.wrap (IntKind.u8.wrap (↑(BitVec.ofInt 8 (↑(s.data.toList.getD 1 0).toNat:Int)&&&BitVec.ofInt 8 63).toNat:Int))*64))).toNat:Int))|||BitVec.ofInt 32 (IntKind.i32.wrap (IntKind.u8.wrap (↑(BitVec.ofInt 8 (↑(s.data.toList.getD 2 0).toNat:Int)&&&BitVec.ofInt 8 63).toNat:Int)))).toNat:Int))) (ah names (jO s) ?_)
 simp only[kr,Tree.ok,hn0,dV,bF,Int.toNat_natCast,firstAt,isInt,au,Bool.and_true,Bool.false_eq_true,Bool.true_eq_false,false_implies,true_implies,true_and,and_true,e0,e1,e2,e3,e4,hi1,hi2]
 first | rfl | exact⟨rfl,rfl⟩ | exact⟨rfl,rfl,rfl⟩
theorem TQ (b:Nat) (h:b=240):bP.getD b .bad = .sc (.int .u8 52):=by
 have hb:b<256:=by omega
 have h:b∈(List.range 256).filter (fun b=>decide (b=240)):=List.mem_filter.2 ⟨List.mem_range.2 (by omega),decide_eq_true h⟩
 have hall : ∀b∈(List.range 256).filter (fun b=>decide (b=240)),gb.getD b 0=52:=by decide +kernel
 rw[eB hb,hall b h]
theorem Lm (h0:0<s.data.toList.length) (hb:bt s 0=240):aC Tryz.prog env 126 [.p (.sc (.string s))] [] (.aS [.an,sI .i64 ((cU s 4 144 191).2:Nat)]) []:=by
 have firstAt:bP.getD (0+(s.data.toList.getD 0 0).toNat*1) .bad = .sc (.int .u8 52):=by rw[Nat.zero_add,Nat.mul_one];exact TQ (bt s 0) hb
 have hn0:decide ((s.data.toList.length:Int)<1)=false:=decide_eq_false (by omega)
 have hin : ∀j:Nat,j<s.data.toList.length→aG (j:Int) s.data.toList.length=true:=fun j h=>by simp only[aG,Bool.and_eq_true,decide_eq_true_eq];omega
 have dV:aG 0 s.data.toList.length=true:=hin 0 h0
 have bF:aG (bt s 0:Int) 256=true:=by simp only[aG,Bool.and_eq_true,decide_eq_true_eq];omega
 by_cases q0:s.data.toList.length<4
 · have e0:decide ((s.data.toList.length:Int)<4)=true:=decide_eq_true (by omega)
   have hs:cU s 4 144 191=(65533,1):=by unfold cU Lib.slowN;rw[if_pos q0]
   rw[hs]
   refine bh (r:=65533) (ah names (gG s) ?_)
   simp only[gX,Tree.ok,hn0,dV,bF,Int.toNat_natCast,firstAt,isInt,au,Bool.and_true,Bool.false_eq_true,Bool.true_eq_false,false_implies,true_implies,true_and,and_true,e0]
   first | rfl | exact⟨rfl,rfl⟩ | exact⟨rfl,rfl,rfl⟩
 have e0:decide ((s.data.toList.length:Int)<4)=false:=decide_eq_false (by omega)
 have hi1:aG 1 s.data.toList.length=true:=hin 1 (by omega)
 by_cases q1:bt s 1<144
 · have e1:decide ((bt s 1:Int)<144)=true:=decide_eq_true (by omega)
   have hs:cU s 4 144 191=(65533,1):=by unfold cU Lib.slowN;rw[if_neg q0,if_pos (.inl q1)]
   rw[hs]
   refine bh (r:=65533) (ah names (gG s) ?_)
   simp only[gX,Tree.ok,hn0,dV,bF,Int.toNat_natCast,firstAt,isInt,au,Bool.and_true,Bool.false_eq_true,Bool.true_eq_false,false_implies,true_implies,true_and,and_true,e0,e1,hi1]
   first | rfl | exact⟨rfl,rfl⟩ | exact⟨rfl,rfl,rfl⟩
 have e1:decide ((bt s 1:Int)<144)=false:=decide_eq_false (by omega)
 by_cases q2:191<bt s 1
 · have e2:decide (191<(bt s 1:Int))=true:=decide_eq_true (by omega)
   have hs:cU s 4 144 191=(65533,1):=by unfold cU Lib.slowN;rw[if_neg q0,if_pos (.inr q2)]
   rw[hs]
   refine bh (r:=65533) (ah names (gG s) ?_)
   simp only[gX,Tree.ok,hn0,dV,bF,Int.toNat_natCast,firstAt,isInt,au,Bool.and_true,Bool.false_eq_true,Bool.true_eq_false,false_implies,true_implies,true_and,and_true,e0,e1,e2,hi1]
   first | rfl | exact⟨rfl,rfl⟩ | exact⟨rfl,rfl,rfl⟩
 have e2:decide (191<(bt s 1:Int))=false:=decide_eq_false (by omega)
 have hi2:aG 2 s.data.toList.length=true:=hin 2 (by omega)
 by_cases q3:bt s 2<128
 · have e3:decide ((bt s 2:Int)<128)=true:=decide_eq_true (by omega)
   have hs:cU s 4 144 191=(65533,1):=by unfold cU Lib.slowN;rw[if_neg q0,if_neg (not_or.2 ⟨q1,q2⟩),if_neg (by decide),if_pos (.inl q3)]
   rw[hs]
   refine bh (r:=65533) (ah names (gG s) ?_)
   simp only[gX,Tree.ok,hn0,dV,bF,Int.toNat_natCast,firstAt,isInt,au,Bool.and_true,Bool.false_eq_true,Bool.true_eq_false,false_implies,true_implies,true_and,and_true,e0,e1,e2,e3,hi1,hi2]
   first | rfl | exact⟨rfl,rfl⟩ | exact⟨rfl,rfl,rfl⟩
 have e3:decide ((bt s 2:Int)<128)=false:=decide_eq_false (by omega)
 by_cases q4:191<bt s 2
 · have e4:decide (191<(bt s 2:Int))=true:=decide_eq_true (by omega)
   have hs:cU s 4 144 191=(65533,1):=by unfold cU Lib.slowN;rw[if_neg q0,if_neg (not_or.2 ⟨q1,q2⟩),if_neg (by decide),if_pos (.inr q4)]
   rw[hs]
   refine bh (r:=65533) (ah names (gG s) ?_)
   simp only[gX,Tree.ok,hn0,dV,bF,Int.toNat_natCast,firstAt,isInt,au,Bool.and_true,Bool.false_eq_true,Bool.true_eq_false,false_implies,true_implies,true_and,and_true,e0,e1,e2,e3,e4,hi1,hi2]
   first | rfl | exact⟨rfl,rfl⟩ | exact⟨rfl,rfl,rfl⟩
 have e4:decide (191<(bt s 2:Int))=false:=decide_eq_false (by omega)
 have Ln:aG 3 s.data.toList.length=true:=hin 3 (by omega)
 by_cases q5:bt s 3<128
 · have e5:decide ((bt s 3:Int)<128)=true:=decide_eq_true (by omega)
   have hs:cU s 4 144 191=(65533,1):=by unfold cU Lib.slowN;rw[if_neg q0,if_neg (not_or.2 ⟨q1,q2⟩),if_neg (by decide),if_neg (not_or.2 ⟨q3,q4⟩),if_neg (by decide),if_pos (.inl q5)]
   rw[hs]
   refine bh (r:=65533) (ah names (gG s) ?_)
   simp only[gX,Tree.ok,hn0,dV,bF,Int.toNat_natCast,firstAt,isInt,au,Bool.and_true,Bool.false_eq_true,Bool.true_eq_false,false_implies,true_implies,true_and,and_true,e0,e1,e2,e3,e4,e5,hi1,hi2,Ln]
   first | rfl | exact⟨rfl,rfl⟩ | exact⟨rfl,rfl,rfl⟩
 have e5:decide ((bt s 3:Int)<128)=false:=decide_eq_false (by omega)
 by_cases q6:191<bt s 3
 · have e6:decide (191<(bt s 3:Int))=true:=decide_eq_true (by omega)
   have hs:cU s 4 144 191=(65533,1):=by unfold cU Lib.slowN;rw[if_neg q0,if_neg (not_or.2 ⟨q1,q2⟩),if_neg (by decide),if_neg (not_or.2 ⟨q3,q4⟩),if_neg (by decide),if_pos (.inr q6)]
   rw[hs]
   refine bh (r:=65533) (ah names (gG s) ?_)
   simp only[gX,Tree.ok,hn0,dV,bF,Int.toNat_natCast,firstAt,isInt,au,Bool.and_true,Bool.false_eq_true,Bool.true_eq_false,false_implies,true_implies,true_and,and_true,e0,e1,e2,e3,e4,e5,e6,hi1,hi2,Ln]
   first | rfl | exact⟨rfl,rfl⟩ | exact⟨rfl,rfl,rfl⟩
 have e6:decide (191<(bt s 3:Int))=false:=decide_eq_false (by omega)
 have hs:cU s 4 144 191=(bt s 0%8*262144+bt s 1%64*4096+bt s 2%64*64+bt s 3%64,4):=by unfold cU Lib.slowN;rw[if_neg q0,if_neg (not_or.2 ⟨q1,q2⟩),if_neg (by decide),if_neg (not_or.2 ⟨q3,q4⟩),if_neg (by decide),if_neg (not_or.2 ⟨q5,q6⟩)]
 rw[hs]
 refine bh (r:=(IntKind.i32.wrap (↑(BitVec.ofInt 32 (IntKind.i32.wrap (↑(BitVec.ofInt 32 (IntKind.i32.wrap (↑(BitVec.ofInt 32 (IntKind.i32.wrap (IntKind.i32.wrap (IntKind.u8.wrap (↑(BitVec.ofInt 8 (↑(s.data.toList.getD 0 0).toNat:Int)&&&BitVec.ofInt 8 7).toNat:Int))*262144))|||BitVec.ofInt 32 (IntKind.i32.wrap (IntKind.i32.wrap (IntKind.u8.wrap (↑(BitVec.ofInt 8 (↑(s.data.toList.getD 1 0).toNat:Int)&&&BitVec.ofInt 8 63).toNat:Int))*4096))).toNat:Int))|||BitVec.ofInt 32 (IntKind.i32.wrap (IntKind.i32.wrap (IntKind.u8.wrap (↑(BitVec.ofInt 8 (↑(s.data.toList.getD 2 0).toNat:Int)&&&BitVec.ofInt 8 63).toNat:Int))*64))).toNat:Int))|||BitVec.ofInt 32 (IntKind.i32.wrap (IntKind.u8.wrap (↑(BitVec.ofInt 8 (↑(s.data.toList.getD 3 0).toNat:Int)&&&BitVec.ofInt 8 63).toNat:Int)))).toNat:Int))) (ah names (gG s) ?_)
 simp only[gX,Tree.ok,hn0,dV,bF,Int.toNat_natCast,firstAt,isInt,au,Bool.and_true,Bool.false_eq_true,Bool.true_eq_false,false_implies,true_implies,true_and,and_true,e0,e1,e2,e3,e4,e5,e6,hi1,hi2,Ln]
 first | rfl | exact⟨rfl,rfl⟩ | exact⟨rfl,rfl,rfl⟩
theorem TR (b:Nat) (h:241≤b∧b<244):bP.getD b .bad = .sc (.int .u8 4):=by
 have hb:b<256:=by omega
 have h:b∈(List.range 256).filter (fun b=>decide (241≤b∧b<244)):=List.mem_filter.2 ⟨List.mem_range.2 (by omega),decide_eq_true h⟩
 have hall : ∀b∈(List.range 256).filter (fun b=>decide (241≤b∧b<244)),gb.getD b 0=4:=by decide +kernel
 rw[eB hb,hall b h]
theorem Lo (h0:0<s.data.toList.length) (hb:241≤bt s 0∧bt s 0<244):aC Tryz.prog env 126 [.p (.sc (.string s))] [] (.aS [.an,sI .i64 ((cU s 4 128 191).2:Nat)]) []:=by
 have firstAt:bP.getD (0+(s.data.toList.getD 0 0).toNat*1) .bad = .sc (.int .u8 4):=by rw[Nat.zero_add,Nat.mul_one];exact TR (bt s 0) hb
 have hn0:decide ((s.data.toList.length:Int)<1)=false:=decide_eq_false (by omega)
 have hin : ∀j:Nat,j<s.data.toList.length→aG (j:Int) s.data.toList.length=true:=fun j h=>by simp only[aG,Bool.and_eq_true,decide_eq_true_eq];omega
 have dV:aG 0 s.data.toList.length=true:=hin 0 h0
 have bF:aG (bt s 0:Int) 256=true:=by simp only[aG,Bool.and_eq_true,decide_eq_true_eq];omega
 by_cases q0:s.data.toList.length<4
 · have e0:decide ((s.data.toList.length:Int)<4)=true:=decide_eq_true (by omega)
   have hs:cU s 4 128 191=(65533,1):=by unfold cU Lib.slowN;rw[if_pos q0]
   rw[hs]
   refine bh (r:=65533) (ah names (gH s) ?_)
   simp only[gY,Tree.ok,hn0,dV,bF,Int.toNat_natCast,firstAt,isInt,au,Bool.and_true,Bool.false_eq_true,Bool.true_eq_false,false_implies,true_implies,true_and,and_true,e0]
   first | rfl | exact⟨rfl,rfl⟩ | exact⟨rfl,rfl,rfl⟩
 have e0:decide ((s.data.toList.length:Int)<4)=false:=decide_eq_false (by omega)
 have hi1:aG 1 s.data.toList.length=true:=hin 1 (by omega)
 by_cases q1:bt s 1<128
 · have e1:decide ((bt s 1:Int)<128)=true:=decide_eq_true (by omega)
   have hs:cU s 4 128 191=(65533,1):=by unfold cU Lib.slowN;rw[if_neg q0,if_pos (.inl q1)]
   rw[hs]
   refine bh (r:=65533) (ah names (gH s) ?_)
   simp only[gY,Tree.ok,hn0,dV,bF,Int.toNat_natCast,firstAt,isInt,au,Bool.and_true,Bool.false_eq_true,Bool.true_eq_false,false_implies,true_implies,true_and,and_true,e0,e1,hi1]
   first | rfl | exact⟨rfl,rfl⟩ | exact⟨rfl,rfl,rfl⟩
 have e1:decide ((bt s 1:Int)<128)=false:=decide_eq_false (by omega)
 by_cases q2:191<bt s 1
 · have e2:decide (191<(bt s 1:Int))=true:=decide_eq_true (by omega)
   have hs:cU s 4 128 191=(65533,1):=by unfold cU Lib.slowN;rw[if_neg q0,if_pos (.inr q2)]
   rw[hs]
   refine bh (r:=65533) (ah names (gH s) ?_)
   simp only[gY,Tree.ok,hn0,dV,bF,Int.toNat_natCast,firstAt,isInt,au,Bool.and_true,Bool.false_eq_true,Bool.true_eq_false,false_implies,true_implies,true_and,and_true,e0,e1,e2,hi1]
   first | rfl | exact⟨rfl,rfl⟩ | exact⟨rfl,rfl,rfl⟩
 have e2:decide (191<(bt s 1:Int))=false:=decide_eq_false (by omega)
 have hi2:aG 2 s.data.toList.length=true:=hin 2 (by omega)
 by_cases q3:bt s 2<128
 · have e3:decide ((bt s 2:Int)<128)=true:=decide_eq_true (by omega)
   have hs:cU s 4 128 191=(65533,1):=by unfold cU Lib.slowN;rw[if_neg q0,if_neg (not_or.2 ⟨q1,q2⟩),if_neg (by decide),if_pos (.inl q3)]
   rw[hs]
   refine bh (r:=65533) (ah names (gH s) ?_)
   simp only[gY,Tree.ok,hn0,dV,bF,Int.toNat_natCast,firstAt,isInt,au,Bool.and_true,Bool.false_eq_true,Bool.true_eq_false,false_implies,true_implies,true_and,and_true,e0,e1,e2,e3,hi1,hi2]
   first | rfl | exact⟨rfl,rfl⟩ | exact⟨rfl,rfl,rfl⟩
 have e3:decide ((bt s 2:Int)<128)=false:=decide_eq_false (by omega)
 by_cases q4:191<bt s 2
 · have e4:decide (191<(bt s 2:Int))=true:=decide_eq_true (by omega)
   have hs:cU s 4 128 191=(65533,1):=by unfold cU Lib.slowN;rw[if_neg q0,if_neg (not_or.2 ⟨q1,q2⟩),if_neg (by decide),if_pos (.inr q4)]
   rw[hs]
   refine bh (r:=65533) (ah names (gH s) ?_)
   simp only[gY,Tree.ok,hn0,dV,bF,Int.toNat_natCast,firstAt,isInt,au,Bool.and_true,Bool.false_eq_true,Bool.true_eq_false,false_implies,true_implies,true_and,and_true,e0,e1,e2,e3,e4,hi1,hi2]
   first | rfl | exact⟨rfl,rfl⟩ | exact⟨rfl,rfl,rfl⟩
 have e4:decide (191<(bt s 2:Int))=false:=decide_eq_false (by omega)
 have Ln:aG 3 s.data.toList.length=true:=hin 3 (by omega)
 by_cases q5:bt s 3<128
 · have e5:decide ((bt s 3:Int)<128)=true:=decide_eq_true (by omega)
   have hs:cU s 4 128 191=(65533,1):=by unfold cU Lib.slowN;rw[if_neg q0,if_neg (not_or.2 ⟨q1,q2⟩),if_neg (by decide),if_neg (not_or.2 ⟨q3,q4⟩),if_neg (by decide),if_pos (.inl q5)]
   rw[hs]
   refine bh (r:=65533) (ah names (gH s) ?_)
   simp only[gY,Tree.ok,hn0,dV,bF,Int.toNat_natCast,firstAt,isInt,au,Bool.and_true,Bool.false_eq_true,Bool.true_eq_false,false_implies,true_implies,true_and,and_true,e0,e1,e2,e3,e4,e5,hi1,hi2,Ln]
   first | rfl | exact⟨rfl,rfl⟩ | exact⟨rfl,rfl,rfl⟩
 have e5:decide ((bt s 3:Int)<128)=false:=decide_eq_false (by omega)
 by_cases q6:191<bt s 3
 · have e6:decide (191<(bt s 3:Int))=true:=decide_eq_true (by omega)
   have hs:cU s 4 128 191=(65533,1):=by unfold cU Lib.slowN;rw[if_neg q0,if_neg (not_or.2 ⟨q1,q2⟩),if_neg (by decide),if_neg (not_or.2 ⟨q3,q4⟩),if_neg (by decide),if_pos (.inr q6)]
   rw[hs]
   refine bh (r:=65533) (ah names (gH s) ?_)
   simp only[gY,Tree.ok,hn0,dV,bF,Int.toNat_natCast,firstAt,isInt,au,Bool.and_true,Bool.false_eq_true,Bool.true_eq_false,false_implies,true_implies,true_and,and_true,e0,e1,e2,e3,e4,e5,e6,hi1,hi2,Ln]
   first | rfl | exact⟨rfl,rfl⟩ | exact⟨rfl,rfl,rfl⟩
 have e6:decide (191<(bt s 3:Int))=false:=decide_eq_false (by omega)
 have hs:cU s 4 128 191=(bt s 0%8*262144+bt s 1%64*4096+bt s 2%64*64+bt s 3%64,4):=by unfold cU Lib.slowN;rw[if_neg q0,if_neg (not_or.2 ⟨q1,q2⟩),if_neg (by decide),if_neg (not_or.2 ⟨q3,q4⟩),if_neg (by decide),if_neg (not_or.2 ⟨q5,q6⟩)]
 rw[hs]
 refine bh (r:=(IntKind.i32.wrap (↑(BitVec.ofInt 32 (IntKind.i32.wrap (↑(BitVec.ofInt 32 (IntKind.i32.wrap (↑(BitVec.ofInt 32 (IntKind.i32.wrap (IntKind.i32.wrap (IntKind.u8.wrap (↑(BitVec.ofInt 8 (↑(s.data.toList.getD 0 0).toNat:Int)&&&BitVec.ofInt 8 7).toNat:Int))*262144))|||BitVec.ofInt 32 (IntKind.i32.wrap (IntKind.i32.wrap (IntKind.u8.wrap (↑(BitVec.ofInt 8 (↑(s.data.toList.getD 1 0).toNat:Int)&&&BitVec.ofInt 8 63).toNat:Int))*4096))).toNat:Int))|||BitVec.ofInt 32 (IntKind.i32.wrap (IntKind.i32.wrap (IntKind.u8.wrap (↑(BitVec.ofInt 8 (↑(s.data.toList.getD 2 0).toNat:Int)&&&BitVec.ofInt 8 63).toNat:Int))*64))).toNat:Int))|||BitVec.ofInt 32 (IntKind.i32.wrap (IntKind.u8.wrap (↑(BitVec.ofInt 8 (↑(s.data.toList.getD 3 0).toNat:Int)&&&BitVec.ofInt 8 63).toNat:Int)))).toNat:Int))) (ah names (gH s) ?_)
 simp only[gY,Tree.ok,hn0,dV,bF,Int.toNat_natCast,firstAt,isInt,au,Bool.and_true,Bool.false_eq_true,Bool.true_eq_false,false_implies,true_implies,true_and,and_true,e0,e1,e2,e3,e4,e5,e6,hi1,hi2,Ln]
 first | rfl | exact⟨rfl,rfl⟩ | exact⟨rfl,rfl,rfl⟩
theorem TS (b:Nat) (h:b=244):bP.getD b .bad = .sc (.int .u8 68):=by
 have hb:b<256:=by omega
 have h:b∈(List.range 256).filter (fun b=>decide (b=244)):=List.mem_filter.2 ⟨List.mem_range.2 (by omega),decide_eq_true h⟩
 have hall : ∀b∈(List.range 256).filter (fun b=>decide (b=244)),gb.getD b 0=68:=by decide +kernel
 rw[eB hb,hall b h]
theorem Lp (h0:0<s.data.toList.length) (hb:bt s 0=244):aC Tryz.prog env 126 [.p (.sc (.string s))] [] (.aS [.an,sI .i64 ((cU s 4 128 143).2:Nat)]) []:=by
 have firstAt:bP.getD (0+(s.data.toList.getD 0 0).toNat*1) .bad = .sc (.int .u8 68):=by rw[Nat.zero_add,Nat.mul_one];exact TS (bt s 0) hb
 have hn0:decide ((s.data.toList.length:Int)<1)=false:=decide_eq_false (by omega)
 have hin : ∀j:Nat,j<s.data.toList.length→aG (j:Int) s.data.toList.length=true:=fun j h=>by simp only[aG,Bool.and_eq_true,decide_eq_true_eq];omega
 have dV:aG 0 s.data.toList.length=true:=hin 0 h0
 have bF:aG (bt s 0:Int) 256=true:=by simp only[aG,Bool.and_eq_true,decide_eq_true_eq];omega
 by_cases q0:s.data.toList.length<4
 · have e0:decide ((s.data.toList.length:Int)<4)=true:=decide_eq_true (by omega)
   have hs:cU s 4 128 143=(65533,1):=by unfold cU Lib.slowN;rw[if_pos q0]
   rw[hs]
   refine bh (r:=65533) (ah names (gI s) ?_)
   simp only[gZ,Tree.ok,hn0,dV,bF,Int.toNat_natCast,firstAt,isInt,au,Bool.and_true,Bool.false_eq_true,Bool.true_eq_false,false_implies,true_implies,true_and,and_true,e0]
   first | rfl | exact⟨rfl,rfl⟩ | exact⟨rfl,rfl,rfl⟩
 have e0:decide ((s.data.toList.length:Int)<4)=false:=decide_eq_false (by omega)
 have hi1:aG 1 s.data.toList.length=true:=hin 1 (by omega)
 by_cases q1:bt s 1<128
 · have e1:decide ((bt s 1:Int)<128)=true:=decide_eq_true (by omega)
   have hs:cU s 4 128 143=(65533,1):=by unfold cU Lib.slowN;rw[if_neg q0,if_pos (.inl q1)]
   rw[hs]
   refine bh (r:=65533) (ah names (gI s) ?_)
   simp only[gZ,Tree.ok,hn0,dV,bF,Int.toNat_natCast,firstAt,isInt,au,Bool.and_true,Bool.false_eq_true,Bool.true_eq_false,false_implies,true_implies,true_and,and_true,e0,e1,hi1]
   first | rfl | exact⟨rfl,rfl⟩ | exact⟨rfl,rfl,rfl⟩
 have e1:decide ((bt s 1:Int)<128)=false:=decide_eq_false (by omega)
 by_cases q2:143<bt s 1
 · have e2:decide (143<(bt s 1:Int))=true:=decide_eq_true (by omega)
   have hs:cU s 4 128 143=(65533,1):=by unfold cU Lib.slowN;rw[if_neg q0,if_pos (.inr q2)]
   rw[hs]
   refine bh (r:=65533) (ah names (gI s) ?_)
   simp only[gZ,Tree.ok,hn0,dV,bF,Int.toNat_natCast,firstAt,isInt,au,Bool.and_true,Bool.false_eq_true,Bool.true_eq_false,false_implies,true_implies,true_and,and_true,e0,e1,e2,hi1]
   first | rfl | exact⟨rfl,rfl⟩ | exact⟨rfl,rfl,rfl⟩
 have e2:decide (143<(bt s 1:Int))=false:=decide_eq_false (by omega)
 have hi2:aG 2 s.data.toList.length=true:=hin 2 (by omega)
 by_cases q3:bt s 2<128
 · have e3:decide ((bt s 2:Int)<128)=true:=decide_eq_true (by omega)
   have hs:cU s 4 128 143=(65533,1):=by unfold cU Lib.slowN;rw[if_neg q0,if_neg (not_or.2 ⟨q1,q2⟩),if_neg (by decide),if_pos (.inl q3)]
   rw[hs]
   refine bh (r:=65533) (ah names (gI s) ?_)
   simp only[gZ,Tree.ok,hn0,dV,bF,Int.toNat_natCast,firstAt,isInt,au,Bool.and_true,Bool.false_eq_true,Bool.true_eq_false,false_implies,true_implies,true_and,and_true,e0,e1,e2,e3,hi1,hi2]
   first | rfl | exact⟨rfl,rfl⟩ | exact⟨rfl,rfl,rfl⟩
 have e3:decide ((bt s 2:Int)<128)=false:=decide_eq_false (by omega)
 by_cases q4:191<bt s 2
 · have e4:decide (191<(bt s 2:Int))=true:=decide_eq_true (by omega)
   have hs:cU s 4 128 143=(65533,1):=by unfold cU Lib.slowN;rw[if_neg q0,if_neg (not_or.2 ⟨q1,q2⟩),if_neg (by decide),if_pos (.inr q4)]
   rw[hs]
   refine bh (r:=65533) (ah names (gI s) ?_)
   simp only[gZ,Tree.ok,hn0,dV,bF,Int.toNat_natCast,firstAt,isInt,au,Bool.and_true,Bool.false_eq_true,Bool.true_eq_false,false_implies,true_implies,true_and,and_true,e0,e1,e2,e3,e4,hi1,hi2]
   first | rfl | exact⟨rfl,rfl⟩ | exact⟨rfl,rfl,rfl⟩
 have e4:decide (191<(bt s 2:Int))=false:=decide_eq_false (by omega)
 have Ln:aG 3 s.data.toList.length=true:=hin 3 (by omega)
 by_cases q5:bt s 3<128
 · have e5:decide ((bt s 3:Int)<128)=true:=decide_eq_true (by omega)
   have hs:cU s 4 128 143=(65533,1):=by unfold cU Lib.slowN;rw[if_neg q0,if_neg (not_or.2 ⟨q1,q2⟩),if_neg (by decide),if_neg (not_or.2 ⟨q3,q4⟩),if_neg (by decide),if_pos (.inl q5)]
   rw[hs]
   refine bh (r:=65533) (ah names (gI s) ?_)
   simp only[gZ,Tree.ok,hn0,dV,bF,Int.toNat_natCast,firstAt,isInt,au,Bool.and_true,Bool.false_eq_true,Bool.true_eq_false,false_implies,true_implies,true_and,and_true,e0,e1,e2,e3,e4,e5,hi1,hi2,Ln]
   first | rfl | exact⟨rfl,rfl⟩ | exact⟨rfl,rfl,rfl⟩
 have e5:decide ((bt s 3:Int)<128)=false:=decide_eq_false (by omega)
 by_cases q6:191<bt s 3
 · have e6:decide (191<(bt s 3:Int))=true:=decide_eq_true (by omega)
   have hs:cU s 4 128 143=(65533,1):=by unfold cU Lib.slowN;rw[if_neg q0,if_neg (not_or.2 ⟨q1,q2⟩),if_neg (by decide),if_neg (not_or.2 ⟨q3,q4⟩),if_neg (by decide),if_pos (.inr q6)]
   rw[hs]
   refine bh (r:=65533) (ah names (gI s) ?_)
   simp only[gZ,Tree.ok,hn0,dV,bF,Int.toNat_natCast,firstAt,isInt,au,Bool.and_true,Bool.false_eq_true,Bool.true_eq_false,false_implies,true_implies,true_and,and_true,e0,e1,e2,e3,e4,e5,e6,hi1,hi2,Ln]
   first | rfl | exact⟨rfl,rfl⟩ | exact⟨rfl,rfl,rfl⟩
 have e6:decide (191<(bt s 3:Int))=false:=decide_eq_false (by omega)
 have hs:cU s 4 128 143=(bt s 0%8*262144+bt s 1%64*4096+bt s 2%64*64+bt s 3%64,4):=by unfold cU Lib.slowN;rw[if_neg q0,if_neg (not_or.2 ⟨q1,q2⟩),if_neg (by decide),if_neg (not_or.2 ⟨q3,q4⟩),if_neg (by decide),if_neg (not_or.2 ⟨q5,q6⟩)]
 rw[hs]
 refine bh (r:=(IntKind.i32.wrap (↑(BitVec.ofInt 32 (IntKind.i32.wrap (↑(BitVec.ofInt 32 (IntKind.i32.wrap (↑(BitVec.ofInt 32 (IntKind.i32.wrap (IntKind.i32.wrap (IntKind.u8.wrap (↑(BitVec.ofInt 8 (↑(s.data.toList.getD 0 0).toNat:Int)&&&BitVec.ofInt 8 7).toNat:Int))*262144))|||BitVec.ofInt 32 (IntKind.i32.wrap (IntKind.i32.wrap (IntKind.u8.wrap (↑(BitVec.ofInt 8 (↑(s.data.toList.getD 1 0).toNat:Int)&&&BitVec.ofInt 8 63).toNat:Int))*4096))).toNat:Int))|||BitVec.ofInt 32 (IntKind.i32.wrap (IntKind.i32.wrap (IntKind.u8.wrap (↑(BitVec.ofInt 8 (↑(s.data.toList.getD 2 0).toNat:Int)&&&BitVec.ofInt 8 63).toNat:Int))*64))).toNat:Int))|||BitVec.ofInt 32 (IntKind.i32.wrap (IntKind.u8.wrap (↑(BitVec.ofInt 8 (↑(s.data.toList.getD 3 0).toNat:Int)&&&BitVec.ofInt 8 63).toNat:Int)))).toNat:Int))) (ah names (gI s) ?_)
 simp only[gZ,Tree.ok,hn0,dV,bF,Int.toNat_natCast,firstAt,isInt,au,Bool.and_true,Bool.false_eq_true,Bool.true_eq_false,false_implies,true_implies,true_and,and_true,e0,e1,e2,e3,e4,e5,e6,hi1,hi2,Ln]
 first | rfl | exact⟨rfl,rfl⟩ | exact⟨rfl,rfl,rfl⟩
theorem Lq (n b0 b1 b2 b3:Nat) (h:128≤b0∧b0<194∨245≤b0∧b0<256):(Lib.decodeN n b0 b1 b2 b3).2=1:=by
 unfold Lib.decodeN
 repeat' split
 all_goals first | rfl | omega
abbrev D1:Nat×Nat:=Lib.decodeN s.data.toList.length (bt s 0) (bt s 1) (bt s 2) (bt s 3)
theorem Hi (h0:0<s.data.toList.length) (hb:128≤bt s 0):aC Tryz.prog env 126 [.p (.sc (.string s))] [] (.aS [.an,sI .i64 ((D1 s).2:Nat)]) []:=by
 have a0:=ju s 0
 have a1:=ju s 1
 have a2:=ju s 2
 have a3:=ju s 3
 by_cases cB:128≤bt s 0∧bt s 0<194∨245≤bt s 0∧bt s 0<256
 · rw[D1,Lq _ _ _ _ _ cB];exact Lf s h0 cB
 by_cases cC:194≤bt s 0∧bt s 0<224
 · rw[D1,←Lib.slow_C2 _ _ _ _ _ h0 a1 a2 a3 cC];exact Lg s h0 cC
 by_cases cD:bt s 0=224
 · rw[D1,←Lib.slow_E0 _ _ _ _ _ h0 a1 a2 a3 cD];exact Lh s h0 cD
 by_cases cE:225≤bt s 0∧bt s 0<237∨238≤bt s 0∧bt s 0<240
 · rw[D1,←Lib.slow_E1 _ _ _ _ _ h0 a1 a2 a3 cE];exact Lj s h0 cE
 by_cases cF:bt s 0=237
 · rw[D1,←Lib.slow_ED _ _ _ _ _ h0 a1 a2 a3 cF];exact Ll s h0 cF
 by_cases cG:bt s 0=240
 · rw[D1,←Lib.slow_F0 _ _ _ _ _ h0 a1 a2 a3 cG];exact Lm s h0 cG
 by_cases cH:241≤bt s 0∧bt s 0<244
 · rw[D1,←Lib.slow_F1 _ _ _ _ _ h0 a1 a2 a3 cH];exact Lo s h0 cH
 · have cI:bt s 0=244:=by omega
   rw[D1,←Lib.slow_F4 _ _ _ _ _ h0 a1 a2 a3 cI];exact Lp s h0 cI
theorem D2 (h0:0<s.data.toList.length):aC Tryz.prog env 111 [.p (.sc (.string s))] [] (.aS [.an,sI .i64 ((D1 s).2:Nat)]) []:=by
 have he:(s.data.toList==(ByteArray.mk #[]).data.toList)=false:=by
  cases h:s.data.toList with
  |nil=>rw[h] at h0;cases h0
  |cons a r=>rfl
 have dV:aG 0 s.data.toList.length=true:=by simp only[aG,Bool.and_eq_true,decide_eq_true_eq];omega
 by_cases hb:bt s 0<128
 · have e:decide ((bt s 0:Int)<128)=true:=decide_eq_true (by omega)
   have hd:(D1 s).2=1:=by unfold D1 Lib.decodeN;rw[if_pos hb]
   rw[hd]
   refine bh (r:=IntKind.i32.wrap (bt s 0:Nat)) (ah names (Cc s 0) ?_)
   simp only[AB,Tree.ok,he,dV,e,Bool.not_false,Bool.and_true,Bool.false_eq_true,Bool.true_eq_false,false_implies,true_implies,true_and,and_true]
   first | rfl | trivial
 · have e:decide ((bt s 0:Int)<128)=false:=decide_eq_false (by omega)
   refine ah names (Cc s ((D1 s).2:Nat)) ?_
   simp only[AB,Tree.ok,he,dV,e,Bool.not_false,Bool.and_true,Bool.false_eq_true,Bool.true_eq_false,false_implies,true_implies,true_and,and_true]
   exact Hi s h0 (by omega)
end
theorem FH (s:ByteArray) (i:Nat):1≤(Utf8.decode s i).2:=by
 rw[Lib.decode_at]
 unfold Lib.decodeN
 repeat' split
 all_goals simp
theorem kA (s:ByteArray) (i:Nat):(s.extract i s.data.toList.length).data.toList=s.data.toList.drop i:=by
 simp only[ByteArray.data_extract,Array.toList_extract,List.extract_eq_take_drop]
 rw[List.take_of_length_le]
 rw[List.length_drop]
 exact Nat.le_refl _
theorem Ce (s:ByteArray) (j:Nat):s.get! j=s.data.toList.getD j 0:=by
 obtain⟨d⟩:=s
 show d[j]! = d.toList.getD j 0
 rw[Array.getElem!_eq_getD,List.getD_eq_getElem?_getD,Array.getElem?_toList]
 by_cases h:j<d.size
 · simp[Array.getD,h]
 · simp[Array.getD,h];rfl
theorem Lr (s:ByteArray) (i:Nat):D1 (s.extract i s.data.toList.length)=Utf8.decode s i:=by
 have g : ∀j,(s.get! (i+j)).toNat=bt (s.extract i s.data.toList.length) j:=fun j=>by
  rw[Ce,bt,kA,List.getD_eq_getElem?_getD,List.getD_eq_getElem?_getD,List.getElem?_drop]
 have g0:=g 0
 rw[Nat.add_zero] at g0
 rw[Lib.decode_at,D1,g0,g 1,g 2,g 3,kA,List.length_drop]
 rfl
def uE (s:ByteArray):Nat→Nat→Int
 |0,_=> -1
 |k+1,i=>if i<s.size then(if(Utf8.decode s i).1=65533∧(Utf8.decode s i).2=1 then i else uE s k (i+(Utf8.decode s i).2)) else -1
def l7 (s:ByteArray):Int:=uE s (s.size+1) 0
noncomputable abbrev qY (s:ByteArray) (k:jQ):bJ:=af Tryz.prog env 67 0 [.p (.sc (.string s)),.mp 0 0] [.ob k []] 0 28
theorem TT (s:ByteArray) (i:Nat):(qY s (.iter s i)).st.mem=[.ob (.iter s i) []]:=by kernel_rfl
theorem OE (s:ByteArray) (i:Nat):iK (qY s (.iter s i))=true:=by kernel_rfl
theorem OF (s:ByteArray) (i:Nat) (b:Bool):({qY s (.iter s i) with st:={(qY s (.iter s i)).st with mem:=[.ob (.Nk s i b) []]}}:bJ)=qY s (.Nk s i b):=by kernel_rfl
theorem FI (s:ByteArray) (i:Nat) (o:Out) (h:Am.Good Tryz.prog env (qY s (.Nk s i (Nat.blt i s.size))) o):Am.Good Tryz.prog env (qY s (.iter s i)) o:=by
 rw[←OF] at h
 have e1:=TT s i
 have e2:=OE s i
 generalize qY s (.iter s i)=c at h e1 e2 ⊢
 exact Go.Am.Good.more e1 e2 h
theorem OG (s:ByteArray) (hs:s.size≤maxLen) : ∀(k i:Nat),s.size+1≤i+k →
  Am.Good Tryz.prog env (af Tryz.prog env 67 0 [.p (.sc (.string s)),.mp 0 0] [.ob (.iter s i) []] 0 28) (.ret (sI .i64 (uE s k i)) []):=by
 intro k
 induction k with
 |zero=>
  intro i hi
  refine FI s i _ ?_
  have hb:Nat.blt i s.size=false:=by cases h:Nat.blt i s.size with | false=>rfl | true=>rw[Nat.blt_eq] at h;omega
  rw[hb]
  exact aa names (Cd s i 0) rfl
 |succ k ih=>
  intro i hi
  refine FI s i _ ?_
  by_cases hlt:i<s.size
  · have hb:Nat.blt i s.size=true:=by rw[Nat.blt_eq];exact hlt
    have hp:=FH s i
    have hn:s.data.toList.length=s.size:=Array.length_toList
    have hc:=D2 (s.extract i s.data.toList.length) (by rw[kA,List.length_drop];omega)
    rw[Lr] at hc
    rw[hb]
    refine aa names (Le s i ((Utf8.decode s i).2:Nat)) ?_
    have next:=ih (i+(Utf8.decode s i).2) (by omega)
    simp only[FF,Tree.ok,Int.toNat_natCast,uE,if_pos hlt]
    refine⟨fun q=> ?_,fun q=>⟨?_,hc,fun r=> ?_,fun r=> ?_⟩⟩
    · have q:(Utf8.decode s i).1≠65533:=fun h=>by rw[h] at q;exact absurd q (by decide)
      rw[if_neg (fun h=>q h.1)]
      exact next
    · simp only[Bool.and_true,Bool.and_eq_true,Nat.ble_eq];omega
    · have q:(Utf8.decode s i).1=65533:=by simp only[bne_eq_false_iff_eq] at q;omega
      have r:(Utf8.decode s i).2=1:=by simp only[beq_iff_eq] at r;omega
      rw[if_pos ⟨q,r⟩]
    · have r:(Utf8.decode s i).2≠1:=fun h=>by rw[h] at r;exact absurd r (by decide)
      rw[if_neg (fun h=>r h.2)]
      exact next
  · have hb:Nat.blt i s.size=false:=by cases h:Nat.blt i s.size with | false=>rfl | true=>rw[Nat.blt_eq] at h;omega
    rw[hb]
    refine aa names (Cd s i 0) ?_
    simp only[FG,Tree.ok,uE,if_neg hlt]
theorem AD (s:ByteArray):ByteArray.mk ((s.data.toList.map fc).map Am.byteOf).toArray=s:=by
 have h:(Am.byteOf ∘ fc)=id:=funext fun b=>by
  show UInt8.ofNat ((b.toNat:Int)).toNat=b
  simp
 rw[List.map_map,h,List.map_id]
theorem Ls (l:List UInt8):(l.map fc).all isByte=true:=by
 rw[List.all_map,List.all_eq_true]
 intro b _
 rfl
theorem Hj (s:ByteArray) (hs:s.size≤maxLen):aC Tryz.prog env 67 [.p (.ps s.data.toList.length 1 (s.data.toList.map fc))] [] (sI .i64 (l7 s)) []:=by
 refine ah names (Ld s.data.toList.length (s.data.toList.map fc)) ?_
 simp only[FE,Tree.ok,AD]
 exact⟨by rw[Ls];rfl,OG s hs (s.size+1) 0 (by omega)⟩
end Go.Proofs.YtdmmllcjgjmbbaaGreatDoor.N
end
