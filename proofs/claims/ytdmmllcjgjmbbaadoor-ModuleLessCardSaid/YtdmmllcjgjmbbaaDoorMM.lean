/-
  A text's first rune, as the library reads it; name.Bad.
-/
import Derived.Test.YtdmmllcjgjmbbaaDoorMI
import Derived.Test.YtdmmllcjgjmbbaaDoorML
import Derived.Lib.DecodeN

section
set_option linter.unusedSimpArgs false
set_option linter.unusedVariables false
namespace Go.Proofs.YtdmmllcjgjmbbaaDoor.N
open Go Go.Am

def firstP : List PV := firstZ.map fun z => .sc (.int .u8 z)
def drC (s : ByteArray) (w : Int) (fn : FuncId) (_ : List AV) (m : Mem) : Option (AV × Mem) := cond (Nat.beq fn 55) (some (.tup [.junk, sI .i64 w], m)) none
def dsBS (s : ByteArray) : FuncId → Nat → Nat → Option (AV → AV) := shapeAt [(55, 6, 2, sI .u8 241)]
def dsCS (s : ByteArray) : FuncId → Nat → Nat → Option (AV → AV) := shapeAt [(55, 6, 2, sI .u8 2)]
def dsDS (s : ByteArray) : FuncId → Nat → Nat → Option (AV → AV) := shapeAt [(55, 6, 2, sI .u8 19)]
def dsES (s : ByteArray) : FuncId → Nat → Nat → Option (AV → AV) := shapeAt [(55, 6, 2, sI .u8 3)]
def dsFS (s : ByteArray) : FuncId → Nat → Nat → Option (AV → AV) := shapeAt [(55, 6, 2, sI .u8 35)]
def dsGS (s : ByteArray) : FuncId → Nat → Nat → Option (AV → AV) := shapeAt [(55, 6, 2, sI .u8 52)]
def dsHS (s : ByteArray) : FuncId → Nat → Nat → Option (AV → AV) := shapeAt [(55, 6, 2, sI .u8 4)]
def dsIS (s : ByteArray) : FuncId → Nat → Nat → Option (AV → AV) := shapeAt [(55, 6, 2, sI .u8 68)]
def blC (s : ByteArray) (i : Nat) (w : Int) (fn : FuncId) (_ : List AV) (m : Mem) : Option (AV × Mem) := cond (Nat.beq fn 51) (some (.tup [.junk, sI .i64 w], m)) none
noncomputable def drnOrc (s : ByteArray) (w : Int) : Orc := orcL (drC s w) noLed [] [(51, 2, 3), (51, 0, 0)] [(51, 2, 4), (51, 3, 1)]
def drnSc : Sc := (.fork .fin (.lit .fin))
noncomputable def drnTree (s : ByteArray) (w : Int) : Tree :=
 (.test (!s.data.toList == (ByteArray.mk #[]).data.toList)
 (.must (inB 0 s.data.toList.length && true)
 (.test (decide ((↑(s.data.toList.getD 0 0).toNat : Int) < 128))
 (.must (inB 0 s.data.toList.length && true)
 (.out (.ret (.tup [sI .i32 (IntKind.i32.wrap (↑(s.data.toList.getD 0 0).toNat : Int)), sI .i64 1]) [])))
 (.call ⟨55, [.p (.sc (.string s))], [], .tup [.junk, sI .i64 w], []⟩
 (.out (.ret (.tup [.junk, sI .i64 w]) [])))))
 (.call ⟨55, [.p (.sc (.string s))], [], .tup [.junk, sI .i64 w], []⟩
 (.out (.ret (.tup [.junk, sI .i64 w]) []))))
theorem drn_tree (s : ByteArray) (w : Int) : growF Tryd.prog env (drnOrc s w) 1000000 51 ([AV.p (PV.sc (Value.string s))]) ([]) drnSc = drnTree s w := by kernel_rfl

noncomputable def dsBOrc (s : ByteArray) : Orc := orcS noCall noLed [] [(55, 0, 0)] [(55, 5, 1), (55, 6, 1), (55, 6, 2), (55, 9, 1)] (dsBS s)
def dsBSc : Sc := .fin
noncomputable def dsBTree (s : ByteArray) : Tree :=
 (.test (decide ((↑s.data.toList.length : Int) < 1))
 (.out (.ret (.tup [sI .i32 65533, sI .i64 0]) []))
 (.must (inB 0 s.data.toList.length && true)
 (.must (inB (↑(s.data.toList.getD 0 0).toNat : Int) 256 && true)
 (.must (isInt IntKind.u8 (firstP.getD (0 + (↑(s.data.toList.getD 0 0).toNat : Int).toNat * 1) PV.bad) && true)
 (.need (sI .u8 (pvInt (firstP.getD (0 + (↑(s.data.toList.getD 0 0).toNat : Int).toNat * 1) PV.bad)) = sI IntKind.u8 241)
 (.must (inB 0 s.data.toList.length && true)
 (.out (.ret (.tup [sI .i32 (IntKind.i32.wrap (↑(BitVec.ofInt 32 (IntKind.i32.wrap (↑(BitVec.ofInt 32 (IntKind.i32.wrap (↑(s.data.toList.getD 0 0).toNat : Int)) &&& ~~~BitVec.ofInt 32 (-1)).toNat : Int)) ||| BitVec.ofInt 32 65533).toNat : Int)), sI .i64 1]) []))))))))
theorem dsB_tree (s : ByteArray) : growF Tryd.prog env (dsBOrc s) 1000000 55 ([AV.p (PV.sc (Value.string s))]) ([]) dsBSc = dsBTree s := by kernel_rfl

noncomputable def dsCOrc (s : ByteArray) : Orc := orcS noCall noLed [] [(55, 0, 0), (55, 0, 2), (55, 15, 5), (55, 0, 3)] [(55, 5, 1), (55, 6, 1), (55, 6, 2), (55, 14, 1)] (dsCS s)
def dsCSc : Sc := (.fork .fin (.fork .fin (.fork (.lit .fin) .fin)))
noncomputable def dsCTree (s : ByteArray) : Tree :=
 (.test (decide ((↑s.data.toList.length : Int) < 1))
 (.out (.ret (.tup [sI .i32 65533, sI .i64 0]) []))
 (.must (inB 0 s.data.toList.length && true)
 (.must (inB (↑(s.data.toList.getD 0 0).toNat : Int) 256 && true)
 (.must (isInt IntKind.u8 (firstP.getD (0 + (↑(s.data.toList.getD 0 0).toNat : Int).toNat * 1) PV.bad) && true)
 (.need (sI .u8 (pvInt (firstP.getD (0 + (↑(s.data.toList.getD 0 0).toNat : Int).toNat * 1) PV.bad)) = sI IntKind.u8 2)
 (.test (decide ((↑s.data.toList.length : Int) < 2))
 (.out (.ret (.tup [sI .i32 65533, sI .i64 1]) []))
 (.must (inB 1 s.data.toList.length && true)
 (.test (decide ((↑(s.data.toList.getD 1 0).toNat : Int) < 128))
 (.out (.ret (.tup [sI .i32 65533, sI .i64 1]) []))
 (.test (decide (191 < (↑(s.data.toList.getD 1 0).toNat : Int)))
 (.out (.ret (.tup [sI .i32 65533, sI .i64 1]) []))
 (.out (.ret (.tup [sI .i32 (IntKind.i32.wrap (↑(BitVec.ofInt 32 (IntKind.i32.wrap (IntKind.i32.wrap (IntKind.u8.wrap (↑(BitVec.ofInt 8 (↑(s.data.toList.getD 0 0).toNat : Int) &&& BitVec.ofInt 8 31).toNat : Int)) * 64)) ||| BitVec.ofInt 32 (IntKind.i32.wrap (IntKind.u8.wrap (↑(BitVec.ofInt 8 (↑(s.data.toList.getD 1 0).toNat : Int) &&& BitVec.ofInt 8 63).toNat : Int)))).toNat : Int)), sI .i64 2]) [])))))))))))
theorem dsC_tree (s : ByteArray) : growF Tryd.prog env (dsCOrc s) 1000000 55 ([AV.p (PV.sc (Value.string s))]) ([]) dsCSc = dsCTree s := by kernel_rfl

noncomputable def dsDOrc (s : ByteArray) : Orc := orcS noCall noLed [] [(55, 0, 0), (55, 0, 2), (55, 15, 5), (55, 0, 3), (55, 20, 3), (55, 0, 5)] [(55, 5, 1), (55, 6, 1), (55, 6, 2), (55, 14, 1), (55, 19, 1)] (dsDS s)
def dsDSc : Sc := (.fork .fin (.fork .fin (.fork (.lit .fin) (.fork .fin (.fork (.lit .fin) .fin)))))
noncomputable def dsDTree (s : ByteArray) : Tree :=
 (.test (decide ((↑s.data.toList.length : Int) < 1))
 (.out (.ret (.tup [sI .i32 65533, sI .i64 0]) []))
 (.must (inB 0 s.data.toList.length && true)
 (.must (inB (↑(s.data.toList.getD 0 0).toNat : Int) 256 && true)
 (.must (isInt IntKind.u8 (firstP.getD (0 + (↑(s.data.toList.getD 0 0).toNat : Int).toNat * 1) PV.bad) && true)
 (.need (sI .u8 (pvInt (firstP.getD (0 + (↑(s.data.toList.getD 0 0).toNat : Int).toNat * 1) PV.bad)) = sI IntKind.u8 19)
 (.test (decide ((↑s.data.toList.length : Int) < 3))
 (.out (.ret (.tup [sI .i32 65533, sI .i64 1]) []))
 (.must (inB 1 s.data.toList.length && true)
 (.test (decide ((↑(s.data.toList.getD 1 0).toNat : Int) < 160))
 (.out (.ret (.tup [sI .i32 65533, sI .i64 1]) []))
 (.test (decide (191 < (↑(s.data.toList.getD 1 0).toNat : Int)))
 (.out (.ret (.tup [sI .i32 65533, sI .i64 1]) []))
 (.must (inB 2 s.data.toList.length && true)
 (.test (decide ((↑(s.data.toList.getD 2 0).toNat : Int) < 128))
 (.out (.ret (.tup [sI .i32 65533, sI .i64 1]) []))
 (.test (decide (191 < (↑(s.data.toList.getD 2 0).toNat : Int)))
 (.out (.ret (.tup [sI .i32 65533, sI .i64 1]) []))
 (.out (.ret (.tup [sI .i32 (IntKind.i32.wrap (↑(BitVec.ofInt 32 (IntKind.i32.wrap (↑(BitVec.ofInt 32 (IntKind.i32.wrap (IntKind.i32.wrap (IntKind.u8.wrap (↑(BitVec.ofInt 8 (↑(s.data.toList.getD 0 0).toNat : Int) &&& BitVec.ofInt 8 15).toNat : Int)) * 4096)) ||| BitVec.ofInt 32 (IntKind.i32.wrap (IntKind.i32.wrap (IntKind.u8.wrap (↑(BitVec.ofInt 8 (↑(s.data.toList.getD 1 0).toNat : Int) &&& BitVec.ofInt 8 63).toNat : Int)) * 64))).toNat : Int)) ||| BitVec.ofInt 32 (IntKind.i32.wrap (IntKind.u8.wrap (↑(BitVec.ofInt 8 (↑(s.data.toList.getD 2 0).toNat : Int) &&& BitVec.ofInt 8 63).toNat : Int)))).toNat : Int)), sI .i64 3]) []))))))))))))))
theorem dsD_tree (s : ByteArray) : growF Tryd.prog env (dsDOrc s) 1000000 55 ([AV.p (PV.sc (Value.string s))]) ([]) dsDSc = dsDTree s := by kernel_rfl

noncomputable def dsEOrc (s : ByteArray) : Orc := orcS noCall noLed [] [(55, 0, 0), (55, 0, 2), (55, 15, 5), (55, 0, 3), (55, 20, 3), (55, 0, 5)] [(55, 5, 1), (55, 6, 1), (55, 6, 2), (55, 14, 1), (55, 19, 1)] (dsES s)
def dsESc : Sc := (.fork .fin (.fork .fin (.fork (.lit .fin) (.fork .fin (.fork (.lit .fin) .fin)))))
noncomputable def dsETree (s : ByteArray) : Tree :=
 (.test (decide ((↑s.data.toList.length : Int) < 1))
 (.out (.ret (.tup [sI .i32 65533, sI .i64 0]) []))
 (.must (inB 0 s.data.toList.length && true)
 (.must (inB (↑(s.data.toList.getD 0 0).toNat : Int) 256 && true)
 (.must (isInt IntKind.u8 (firstP.getD (0 + (↑(s.data.toList.getD 0 0).toNat : Int).toNat * 1) PV.bad) && true)
 (.need (sI .u8 (pvInt (firstP.getD (0 + (↑(s.data.toList.getD 0 0).toNat : Int).toNat * 1) PV.bad)) = sI IntKind.u8 3)
 (.test (decide ((↑s.data.toList.length : Int) < 3))
 (.out (.ret (.tup [sI .i32 65533, sI .i64 1]) []))
 (.must (inB 1 s.data.toList.length && true)
 (.test (decide ((↑(s.data.toList.getD 1 0).toNat : Int) < 128))
 (.out (.ret (.tup [sI .i32 65533, sI .i64 1]) []))
 (.test (decide (191 < (↑(s.data.toList.getD 1 0).toNat : Int)))
 (.out (.ret (.tup [sI .i32 65533, sI .i64 1]) []))
 (.must (inB 2 s.data.toList.length && true)
 (.test (decide ((↑(s.data.toList.getD 2 0).toNat : Int) < 128))
 (.out (.ret (.tup [sI .i32 65533, sI .i64 1]) []))
 (.test (decide (191 < (↑(s.data.toList.getD 2 0).toNat : Int)))
 (.out (.ret (.tup [sI .i32 65533, sI .i64 1]) []))
 (.out (.ret (.tup [sI .i32 (IntKind.i32.wrap (↑(BitVec.ofInt 32 (IntKind.i32.wrap (↑(BitVec.ofInt 32 (IntKind.i32.wrap (IntKind.i32.wrap (IntKind.u8.wrap (↑(BitVec.ofInt 8 (↑(s.data.toList.getD 0 0).toNat : Int) &&& BitVec.ofInt 8 15).toNat : Int)) * 4096)) ||| BitVec.ofInt 32 (IntKind.i32.wrap (IntKind.i32.wrap (IntKind.u8.wrap (↑(BitVec.ofInt 8 (↑(s.data.toList.getD 1 0).toNat : Int) &&& BitVec.ofInt 8 63).toNat : Int)) * 64))).toNat : Int)) ||| BitVec.ofInt 32 (IntKind.i32.wrap (IntKind.u8.wrap (↑(BitVec.ofInt 8 (↑(s.data.toList.getD 2 0).toNat : Int) &&& BitVec.ofInt 8 63).toNat : Int)))).toNat : Int)), sI .i64 3]) []))))))))))))))
theorem dsE_tree (s : ByteArray) : growF Tryd.prog env (dsEOrc s) 1000000 55 ([AV.p (PV.sc (Value.string s))]) ([]) dsESc = dsETree s := by kernel_rfl

noncomputable def dsFOrc (s : ByteArray) : Orc := orcS noCall noLed [] [(55, 0, 0), (55, 0, 2), (55, 15, 5), (55, 0, 3), (55, 20, 3), (55, 0, 5)] [(55, 5, 1), (55, 6, 1), (55, 6, 2), (55, 14, 1), (55, 19, 1)] (dsFS s)
def dsFSc : Sc := (.fork .fin (.fork .fin (.fork (.lit .fin) (.fork .fin (.fork (.lit .fin) .fin)))))
noncomputable def dsFTree (s : ByteArray) : Tree :=
 (.test (decide ((↑s.data.toList.length : Int) < 1))
 (.out (.ret (.tup [sI .i32 65533, sI .i64 0]) []))
 (.must (inB 0 s.data.toList.length && true)
 (.must (inB (↑(s.data.toList.getD 0 0).toNat : Int) 256 && true)
 (.must (isInt IntKind.u8 (firstP.getD (0 + (↑(s.data.toList.getD 0 0).toNat : Int).toNat * 1) PV.bad) && true)
 (.need (sI .u8 (pvInt (firstP.getD (0 + (↑(s.data.toList.getD 0 0).toNat : Int).toNat * 1) PV.bad)) = sI IntKind.u8 35)
 (.test (decide ((↑s.data.toList.length : Int) < 3))
 (.out (.ret (.tup [sI .i32 65533, sI .i64 1]) []))
 (.must (inB 1 s.data.toList.length && true)
 (.test (decide ((↑(s.data.toList.getD 1 0).toNat : Int) < 128))
 (.out (.ret (.tup [sI .i32 65533, sI .i64 1]) []))
 (.test (decide (159 < (↑(s.data.toList.getD 1 0).toNat : Int)))
 (.out (.ret (.tup [sI .i32 65533, sI .i64 1]) []))
 (.must (inB 2 s.data.toList.length && true)
 (.test (decide ((↑(s.data.toList.getD 2 0).toNat : Int) < 128))
 (.out (.ret (.tup [sI .i32 65533, sI .i64 1]) []))
 (.test (decide (191 < (↑(s.data.toList.getD 2 0).toNat : Int)))
 (.out (.ret (.tup [sI .i32 65533, sI .i64 1]) []))
 (.out (.ret (.tup [sI .i32 (IntKind.i32.wrap (↑(BitVec.ofInt 32 (IntKind.i32.wrap (↑(BitVec.ofInt 32 (IntKind.i32.wrap (IntKind.i32.wrap (IntKind.u8.wrap (↑(BitVec.ofInt 8 (↑(s.data.toList.getD 0 0).toNat : Int) &&& BitVec.ofInt 8 15).toNat : Int)) * 4096)) ||| BitVec.ofInt 32 (IntKind.i32.wrap (IntKind.i32.wrap (IntKind.u8.wrap (↑(BitVec.ofInt 8 (↑(s.data.toList.getD 1 0).toNat : Int) &&& BitVec.ofInt 8 63).toNat : Int)) * 64))).toNat : Int)) ||| BitVec.ofInt 32 (IntKind.i32.wrap (IntKind.u8.wrap (↑(BitVec.ofInt 8 (↑(s.data.toList.getD 2 0).toNat : Int) &&& BitVec.ofInt 8 63).toNat : Int)))).toNat : Int)), sI .i64 3]) []))))))))))))))
theorem dsF_tree (s : ByteArray) : growF Tryd.prog env (dsFOrc s) 1000000 55 ([AV.p (PV.sc (Value.string s))]) ([]) dsFSc = dsFTree s := by kernel_rfl

noncomputable def dsGOrc (s : ByteArray) : Orc := orcS noCall noLed [] [(55, 0, 0), (55, 0, 2), (55, 15, 5), (55, 0, 3), (55, 20, 3), (55, 0, 5), (55, 25, 3), (55, 0, 7)] [(55, 5, 1), (55, 6, 1), (55, 6, 2), (55, 14, 1), (55, 19, 1), (55, 24, 1)] (dsGS s)
def dsGSc : Sc := (.fork .fin (.fork .fin (.fork (.lit .fin) (.fork .fin (.fork (.lit .fin) (.fork .fin (.fork (.lit .fin) .fin)))))))
noncomputable def dsGTree (s : ByteArray) : Tree :=
 (.test (decide ((↑s.data.toList.length : Int) < 1))
 (.out (.ret (.tup [sI .i32 65533, sI .i64 0]) []))
 (.must (inB 0 s.data.toList.length && true)
 (.must (inB (↑(s.data.toList.getD 0 0).toNat : Int) 256 && true)
 (.must (isInt IntKind.u8 (firstP.getD (0 + (↑(s.data.toList.getD 0 0).toNat : Int).toNat * 1) PV.bad) && true)
 (.need (sI .u8 (pvInt (firstP.getD (0 + (↑(s.data.toList.getD 0 0).toNat : Int).toNat * 1) PV.bad)) = sI IntKind.u8 52)
 (.test (decide ((↑s.data.toList.length : Int) < 4))
 (.out (.ret (.tup [sI .i32 65533, sI .i64 1]) []))
 (.must (inB 1 s.data.toList.length && true)
 (.test (decide ((↑(s.data.toList.getD 1 0).toNat : Int) < 144))
 (.out (.ret (.tup [sI .i32 65533, sI .i64 1]) []))
 (.test (decide (191 < (↑(s.data.toList.getD 1 0).toNat : Int)))
 (.out (.ret (.tup [sI .i32 65533, sI .i64 1]) []))
 (.must (inB 2 s.data.toList.length && true)
 (.test (decide ((↑(s.data.toList.getD 2 0).toNat : Int) < 128))
 (.out (.ret (.tup [sI .i32 65533, sI .i64 1]) []))
 (.test (decide (191 < (↑(s.data.toList.getD 2 0).toNat : Int)))
 (.out (.ret (.tup [sI .i32 65533, sI .i64 1]) []))
 (.must (inB 3 s.data.toList.length && true)
 (.test (decide ((↑(s.data.toList.getD 3 0).toNat : Int) < 128))
 (.out (.ret (.tup [sI .i32 65533, sI .i64 1]) []))
 (.test (decide (191 < (↑(s.data.toList.getD 3 0).toNat : Int)))
 (.out (.ret (.tup [sI .i32 65533, sI .i64 1]) []))
 (.out (.ret (.tup [sI .i32 (IntKind.i32.wrap (↑(BitVec.ofInt 32 (IntKind.i32.wrap (↑(BitVec.ofInt 32 (IntKind.i32.wrap (↑(BitVec.ofInt 32 (IntKind.i32.wrap (IntKind.i32.wrap (IntKind.u8.wrap (↑(BitVec.ofInt 8 (↑(s.data.toList.getD 0 0).toNat : Int) &&& BitVec.ofInt 8 7).toNat : Int)) * 262144)) ||| BitVec.ofInt 32 (IntKind.i32.wrap (IntKind.i32.wrap (IntKind.u8.wrap (↑(BitVec.ofInt 8 (↑(s.data.toList.getD 1 0).toNat : Int) &&& BitVec.ofInt 8 63).toNat : Int)) * 4096))).toNat : Int)) ||| BitVec.ofInt 32 (IntKind.i32.wrap (IntKind.i32.wrap (IntKind.u8.wrap (↑(BitVec.ofInt 8 (↑(s.data.toList.getD 2 0).toNat : Int) &&& BitVec.ofInt 8 63).toNat : Int)) * 64))).toNat : Int)) ||| BitVec.ofInt 32 (IntKind.i32.wrap (IntKind.u8.wrap (↑(BitVec.ofInt 8 (↑(s.data.toList.getD 3 0).toNat : Int) &&& BitVec.ofInt 8 63).toNat : Int)))).toNat : Int)), sI .i64 4]) [])))))))))))))))))
theorem dsG_tree (s : ByteArray) : growF Tryd.prog env (dsGOrc s) 1000000 55 ([AV.p (PV.sc (Value.string s))]) ([]) dsGSc = dsGTree s := by kernel_rfl

noncomputable def dsHOrc (s : ByteArray) : Orc := orcS noCall noLed [] [(55, 0, 0), (55, 0, 2), (55, 15, 5), (55, 0, 3), (55, 20, 3), (55, 0, 5), (55, 25, 3), (55, 0, 7)] [(55, 5, 1), (55, 6, 1), (55, 6, 2), (55, 14, 1), (55, 19, 1), (55, 24, 1)] (dsHS s)
def dsHSc : Sc := (.fork .fin (.fork .fin (.fork (.lit .fin) (.fork .fin (.fork (.lit .fin) (.fork .fin (.fork (.lit .fin) .fin)))))))
noncomputable def dsHTree (s : ByteArray) : Tree :=
 (.test (decide ((↑s.data.toList.length : Int) < 1))
 (.out (.ret (.tup [sI .i32 65533, sI .i64 0]) []))
 (.must (inB 0 s.data.toList.length && true)
 (.must (inB (↑(s.data.toList.getD 0 0).toNat : Int) 256 && true)
 (.must (isInt IntKind.u8 (firstP.getD (0 + (↑(s.data.toList.getD 0 0).toNat : Int).toNat * 1) PV.bad) && true)
 (.need (sI .u8 (pvInt (firstP.getD (0 + (↑(s.data.toList.getD 0 0).toNat : Int).toNat * 1) PV.bad)) = sI IntKind.u8 4)
 (.test (decide ((↑s.data.toList.length : Int) < 4))
 (.out (.ret (.tup [sI .i32 65533, sI .i64 1]) []))
 (.must (inB 1 s.data.toList.length && true)
 (.test (decide ((↑(s.data.toList.getD 1 0).toNat : Int) < 128))
 (.out (.ret (.tup [sI .i32 65533, sI .i64 1]) []))
 (.test (decide (191 < (↑(s.data.toList.getD 1 0).toNat : Int)))
 (.out (.ret (.tup [sI .i32 65533, sI .i64 1]) []))
 (.must (inB 2 s.data.toList.length && true)
 (.test (decide ((↑(s.data.toList.getD 2 0).toNat : Int) < 128))
 (.out (.ret (.tup [sI .i32 65533, sI .i64 1]) []))
 (.test (decide (191 < (↑(s.data.toList.getD 2 0).toNat : Int)))
 (.out (.ret (.tup [sI .i32 65533, sI .i64 1]) []))
 (.must (inB 3 s.data.toList.length && true)
 (.test (decide ((↑(s.data.toList.getD 3 0).toNat : Int) < 128))
 (.out (.ret (.tup [sI .i32 65533, sI .i64 1]) []))
 (.test (decide (191 < (↑(s.data.toList.getD 3 0).toNat : Int)))
 (.out (.ret (.tup [sI .i32 65533, sI .i64 1]) []))
 (.out (.ret (.tup [sI .i32 (IntKind.i32.wrap (↑(BitVec.ofInt 32 (IntKind.i32.wrap (↑(BitVec.ofInt 32 (IntKind.i32.wrap (↑(BitVec.ofInt 32 (IntKind.i32.wrap (IntKind.i32.wrap (IntKind.u8.wrap (↑(BitVec.ofInt 8 (↑(s.data.toList.getD 0 0).toNat : Int) &&& BitVec.ofInt 8 7).toNat : Int)) * 262144)) ||| BitVec.ofInt 32 (IntKind.i32.wrap (IntKind.i32.wrap (IntKind.u8.wrap (↑(BitVec.ofInt 8 (↑(s.data.toList.getD 1 0).toNat : Int) &&& BitVec.ofInt 8 63).toNat : Int)) * 4096))).toNat : Int)) ||| BitVec.ofInt 32 (IntKind.i32.wrap (IntKind.i32.wrap (IntKind.u8.wrap (↑(BitVec.ofInt 8 (↑(s.data.toList.getD 2 0).toNat : Int) &&& BitVec.ofInt 8 63).toNat : Int)) * 64))).toNat : Int)) ||| BitVec.ofInt 32 (IntKind.i32.wrap (IntKind.u8.wrap (↑(BitVec.ofInt 8 (↑(s.data.toList.getD 3 0).toNat : Int) &&& BitVec.ofInt 8 63).toNat : Int)))).toNat : Int)), sI .i64 4]) [])))))))))))))))))
theorem dsH_tree (s : ByteArray) : growF Tryd.prog env (dsHOrc s) 1000000 55 ([AV.p (PV.sc (Value.string s))]) ([]) dsHSc = dsHTree s := by kernel_rfl

noncomputable def dsIOrc (s : ByteArray) : Orc := orcS noCall noLed [] [(55, 0, 0), (55, 0, 2), (55, 15, 5), (55, 0, 3), (55, 20, 3), (55, 0, 5), (55, 25, 3), (55, 0, 7)] [(55, 5, 1), (55, 6, 1), (55, 6, 2), (55, 14, 1), (55, 19, 1), (55, 24, 1)] (dsIS s)
def dsISc : Sc := (.fork .fin (.fork .fin (.fork (.lit .fin) (.fork .fin (.fork (.lit .fin) (.fork .fin (.fork (.lit .fin) .fin)))))))
noncomputable def dsITree (s : ByteArray) : Tree :=
 (.test (decide ((↑s.data.toList.length : Int) < 1))
 (.out (.ret (.tup [sI .i32 65533, sI .i64 0]) []))
 (.must (inB 0 s.data.toList.length && true)
 (.must (inB (↑(s.data.toList.getD 0 0).toNat : Int) 256 && true)
 (.must (isInt IntKind.u8 (firstP.getD (0 + (↑(s.data.toList.getD 0 0).toNat : Int).toNat * 1) PV.bad) && true)
 (.need (sI .u8 (pvInt (firstP.getD (0 + (↑(s.data.toList.getD 0 0).toNat : Int).toNat * 1) PV.bad)) = sI IntKind.u8 68)
 (.test (decide ((↑s.data.toList.length : Int) < 4))
 (.out (.ret (.tup [sI .i32 65533, sI .i64 1]) []))
 (.must (inB 1 s.data.toList.length && true)
 (.test (decide ((↑(s.data.toList.getD 1 0).toNat : Int) < 128))
 (.out (.ret (.tup [sI .i32 65533, sI .i64 1]) []))
 (.test (decide (143 < (↑(s.data.toList.getD 1 0).toNat : Int)))
 (.out (.ret (.tup [sI .i32 65533, sI .i64 1]) []))
 (.must (inB 2 s.data.toList.length && true)
 (.test (decide ((↑(s.data.toList.getD 2 0).toNat : Int) < 128))
 (.out (.ret (.tup [sI .i32 65533, sI .i64 1]) []))
 (.test (decide (191 < (↑(s.data.toList.getD 2 0).toNat : Int)))
 (.out (.ret (.tup [sI .i32 65533, sI .i64 1]) []))
 (.must (inB 3 s.data.toList.length && true)
 (.test (decide ((↑(s.data.toList.getD 3 0).toNat : Int) < 128))
 (.out (.ret (.tup [sI .i32 65533, sI .i64 1]) []))
 (.test (decide (191 < (↑(s.data.toList.getD 3 0).toNat : Int)))
 (.out (.ret (.tup [sI .i32 65533, sI .i64 1]) []))
 (.out (.ret (.tup [sI .i32 (IntKind.i32.wrap (↑(BitVec.ofInt 32 (IntKind.i32.wrap (↑(BitVec.ofInt 32 (IntKind.i32.wrap (↑(BitVec.ofInt 32 (IntKind.i32.wrap (IntKind.i32.wrap (IntKind.u8.wrap (↑(BitVec.ofInt 8 (↑(s.data.toList.getD 0 0).toNat : Int) &&& BitVec.ofInt 8 7).toNat : Int)) * 262144)) ||| BitVec.ofInt 32 (IntKind.i32.wrap (IntKind.i32.wrap (IntKind.u8.wrap (↑(BitVec.ofInt 8 (↑(s.data.toList.getD 1 0).toNat : Int) &&& BitVec.ofInt 8 63).toNat : Int)) * 4096))).toNat : Int)) ||| BitVec.ofInt 32 (IntKind.i32.wrap (IntKind.i32.wrap (IntKind.u8.wrap (↑(BitVec.ofInt 8 (↑(s.data.toList.getD 2 0).toNat : Int) &&& BitVec.ofInt 8 63).toNat : Int)) * 64))).toNat : Int)) ||| BitVec.ofInt 32 (IntKind.i32.wrap (IntKind.u8.wrap (↑(BitVec.ofInt 8 (↑(s.data.toList.getD 3 0).toNat : Int) &&& BitVec.ofInt 8 63).toNat : Int)))).toNat : Int)), sI .i64 4]) [])))))))))))))))))
theorem dsI_tree (s : ByteArray) : growF Tryd.prog env (dsIOrc s) 1000000 55 ([AV.p (PV.sc (Value.string s))]) ([]) dsISc = dsITree s := by kernel_rfl

noncomputable def badOrc : Orc := orcL noCall noLed [(37, 0)] [] [(37, 2, 1)]
def badSc : Sc := .fin
noncomputable def badTree (n : Nat) (l : List PV) : Tree :=
 (.must (l.all isByte && true)
 (.at (bodyCfg Tryd.prog env 37 0 [.p (.sc (.string (ByteArray.mk (List.map Am.byteOf l).toArray))), .mp 0 0] ([.ob (ObK.iter (ByteArray.mk (List.map Am.byteOf l).toArray) 0) []]) 0 28)))
theorem bad_tree (n : Nat) (l : List PV) : growF Tryd.prog env badOrc 1000000 37 ([AV.p (PV.ps n 1 l)]) ([]) badSc = badTree n l := by kernel_rfl

noncomputable def bdlOrc (s : ByteArray) (i : Nat) (w : Int) : Orc := orcL (blC s i w) noLed [(37, 0)] [(37, 0, 2), (37, 0, 3)] [(37, 7, 2)]
def bdlSc : Sc := .fin
noncomputable def bdlTree (s : ByteArray) (i : Nat) (w : Int) : Tree :=
 (.test ((↑(Utf8.decode s i).fst : Int) != 65533)
 (.at (bodyCfg Tryd.prog env 37 0 [.p (.sc (.string s)), .mp 0 0] ([.ob (ObK.iter s (i + (Utf8.decode s i).snd)) []]) 0 28))
 (.must ((↑i : Int).toNat.ble s.data.toList.length && s.data.toList.length.ble s.data.toList.length && true)
 (.call ⟨51, [.p (.sc (.string (s.extract (↑i : Int).toNat s.data.toList.length)))], [], .tup [.junk, sI .i64 w], []⟩
 (.test (w == 1)
 (.out (.ret (sI .i64 (↑i : Int)) []))
 (.at (bodyCfg Tryd.prog env 37 0 [.p (.sc (.string s)), .mp 0 0] ([.ob (ObK.iter s (i + (Utf8.decode s i).snd)) []]) 0 28))))))
theorem bdl_tree (s : ByteArray) (i : Nat) (w : Int) : grow Tryd.prog env (bdlOrc s i w) 1000000 true (bodyCfg Tryd.prog env 37 0 ([AV.p (PV.sc (Value.string s)), AV.mp 0 0]) ([Blk.ob (ObK.itk s i true) []]) 0 28) bdlSc atEnd = bdlTree s i w := by kernel_rfl

noncomputable def bdfOrc (s : ByteArray) (i : Nat) (w : Int) : Orc := orcL (blC s i w) noLed [(37, 0)] [] []
def bdfSc : Sc := .fin
noncomputable def bdfTree (s : ByteArray) (i : Nat) (w : Int) : Tree :=
 (.out (.ret (sI .i64 (-1)) []))
theorem bdf_tree (s : ByteArray) (i : Nat) (w : Int) : grow Tryd.prog env (bdfOrc s i w) 1000000 true (bodyCfg Tryd.prog env 37 0 ([AV.p (PV.sc (Value.string s)), AV.mp 0 0]) ([Blk.ob (ObK.itk s i false) []]) 0 28) bdfSc atEnd = bdfTree s i w := by kernel_rfl

theorem junk_of {f : FuncId} {args : List AV} {r w : Int} (h : Does Tryd.prog env f args [] (.tup [sI .i32 r, sI .i64 w]) []) : Does Tryd.prog env f args [] (.tup [.junk, sI .i64 w]) [] :=
  h.weak fun g wd cv q => by
    cases q with
    | tup _ cs hl hc =>
      have hv : VAs g wd [sI .i32 r, sI .i64 w] cs.toList := All2.of_get hl hc
      refine VA.tups.2 ?_
      generalize cs.toList = vs at hv
      match vs, hv with
      | [u, t], hv =>
        obtain ⟨_, h2, _⟩ := hv
        cases h2 with
        | p _ _ h2 => cases h2 with
          | sc => exact ⟨.junk _, .p _ _ (.sc _), trivial⟩

theorem firstP_get {b : Nat} (h : b < 256) : firstP.getD b .bad = .sc (.int .u8 (firstZ.getD b 0)) := by
  have hl : firstZ.length = 256 := by decide +kernel
  rw [firstP, List.getD_eq_getElem?_getD, List.getElem?_map, List.getElem?_eq_getElem (by omega), List.getD_eq_getElem?_getD, List.getElem?_eq_getElem (by omega)]
  rfl
section
variable (s : ByteArray)
abbrev byt (j : Nat) : Nat := (s.data.toList.getD j 0).toNat
def slw (sz lo hi : Nat) : Nat × Nat := Lib.slowN s.data.toList.length (byt s 0) (byt s 1) (byt s 2) (byt s 3) sz lo hi

theorem byt_lt (j : Nat) : byt s j < 256 := (s.data.toList.getD j 0).toNat_lt

theorem firstB (b : Nat) (h : 128 ≤ b ∧ b < 194 ∨ 245 ≤ b ∧ b < 256) : firstP.getD b .bad = .sc (.int .u8 241) := by
  have hb : b < 256 := by omega
  have h : b ∈ (List.range 256).filter (fun b => decide (128 ≤ b ∧ b < 194 ∨ 245 ≤ b ∧ b < 256)) := List.mem_filter.2 ⟨List.mem_range.2 (by omega), decide_eq_true h⟩
  have hall : ∀ b ∈ (List.range 256).filter (fun b => decide (128 ≤ b ∧ b < 194 ∨ 245 ≤ b ∧ b < 256)), firstZ.getD b 0 = 241 := by decide +kernel
  rw [firstP_get hb, hall b h]

theorem dsB_does (h0 : 0 < s.data.toList.length) (hb : 128 ≤ byt s 0 ∧ byt s 0 < 194 ∨ 245 ≤ byt s 0 ∧ byt s 0 < 256) : Does Tryd.prog env 55 [.p (.sc (.string s))] [] (.tup [.junk, sI .i64 1]) [] := by
  have firstAt : firstP.getD (0 + (s.data.toList.getD 0 0).toNat * 1) .bad = .sc (.int .u8 241) := by rw [Nat.zero_add, Nat.mul_one]; exact firstB (byt s 0) hb
  have hn0 : decide ((s.data.toList.length : Int) < 1) = false := decide_eq_false (by omega)
  have hin : ∀ j : Nat, j < s.data.toList.length → inB (j : Int) s.data.toList.length = true := fun j h => by simp only [inB, Bool.and_eq_true, decide_eq_true_eq]; omega
  have hi0 : inB 0 s.data.toList.length = true := hin 0 h0
  have hb256 : inB (byt s 0 : Int) 256 = true := by simp only [inB, Bool.and_eq_true, decide_eq_true_eq]; omega
  refine junk_of (r := (IntKind.i32.wrap (↑(BitVec.ofInt 32 (IntKind.i32.wrap (↑(BitVec.ofInt 32 (IntKind.i32.wrap (↑(s.data.toList.getD 0 0).toNat : Int)) &&& ~~~BitVec.ofInt 32 (-1)).toNat : Int)) ||| BitVec.ofInt 32 65533).toNat : Int))) (does_of_tree names (dsB_tree s) ?_)
  simp only [dsBTree, Tree.ok, hn0, hi0, hb256, Int.toNat_natCast, firstAt, isInt, pvInt, Bool.and_true, Bool.false_eq_true, Bool.true_eq_false, false_implies, true_implies, true_and, and_true]
  first | rfl | exact ⟨rfl, rfl⟩ | exact ⟨rfl, rfl, rfl⟩

theorem firstC (b : Nat) (h : 194 ≤ b ∧ b < 224) : firstP.getD b .bad = .sc (.int .u8 2) := by
  have hb : b < 256 := by omega
  have h : b ∈ (List.range 256).filter (fun b => decide (194 ≤ b ∧ b < 224)) := List.mem_filter.2 ⟨List.mem_range.2 (by omega), decide_eq_true h⟩
  have hall : ∀ b ∈ (List.range 256).filter (fun b => decide (194 ≤ b ∧ b < 224)), firstZ.getD b 0 = 2 := by decide +kernel
  rw [firstP_get hb, hall b h]

theorem dsC_does (h0 : 0 < s.data.toList.length) (hb : 194 ≤ byt s 0 ∧ byt s 0 < 224) : Does Tryd.prog env 55 [.p (.sc (.string s))] [] (.tup [.junk, sI .i64 ((slw s 2 128 191).2 : Nat)]) [] := by
  have firstAt : firstP.getD (0 + (s.data.toList.getD 0 0).toNat * 1) .bad = .sc (.int .u8 2) := by rw [Nat.zero_add, Nat.mul_one]; exact firstC (byt s 0) hb
  have hn0 : decide ((s.data.toList.length : Int) < 1) = false := decide_eq_false (by omega)
  have hin : ∀ j : Nat, j < s.data.toList.length → inB (j : Int) s.data.toList.length = true := fun j h => by simp only [inB, Bool.and_eq_true, decide_eq_true_eq]; omega
  have hi0 : inB 0 s.data.toList.length = true := hin 0 h0
  have hb256 : inB (byt s 0 : Int) 256 = true := by simp only [inB, Bool.and_eq_true, decide_eq_true_eq]; omega
  by_cases q0 : s.data.toList.length < 2
  · have e0 : decide ((s.data.toList.length : Int) < 2) = true := decide_eq_true (by omega)
    have hs : slw s 2 128 191 = (65533, 1) := by unfold slw Lib.slowN; rw [if_pos q0]
    rw [hs]
    refine junk_of (r := 65533) (does_of_tree names (dsC_tree s) ?_)
    simp only [dsCTree, Tree.ok, hn0, hi0, hb256, Int.toNat_natCast, firstAt, isInt, pvInt, Bool.and_true, Bool.false_eq_true, Bool.true_eq_false, false_implies, true_implies, true_and, and_true, e0]
    first | rfl | exact ⟨rfl, rfl⟩ | exact ⟨rfl, rfl, rfl⟩
  have e0 : decide ((s.data.toList.length : Int) < 2) = false := decide_eq_false (by omega)
  have hi1 : inB 1 s.data.toList.length = true := hin 1 (by omega)
  by_cases q1 : byt s 1 < 128
  · have e1 : decide ((byt s 1 : Int) < 128) = true := decide_eq_true (by omega)
    have hs : slw s 2 128 191 = (65533, 1) := by unfold slw Lib.slowN; rw [if_neg q0, if_pos (.inl q1)]
    rw [hs]
    refine junk_of (r := 65533) (does_of_tree names (dsC_tree s) ?_)
    simp only [dsCTree, Tree.ok, hn0, hi0, hb256, Int.toNat_natCast, firstAt, isInt, pvInt, Bool.and_true, Bool.false_eq_true, Bool.true_eq_false, false_implies, true_implies, true_and, and_true, e0, e1, hi1]
    first | rfl | exact ⟨rfl, rfl⟩ | exact ⟨rfl, rfl, rfl⟩
  have e1 : decide ((byt s 1 : Int) < 128) = false := decide_eq_false (by omega)
  by_cases q2 : 191 < byt s 1
  · have e2 : decide (191 < (byt s 1 : Int)) = true := decide_eq_true (by omega)
    have hs : slw s 2 128 191 = (65533, 1) := by unfold slw Lib.slowN; rw [if_neg q0, if_pos (.inr q2)]
    rw [hs]
    refine junk_of (r := 65533) (does_of_tree names (dsC_tree s) ?_)
    simp only [dsCTree, Tree.ok, hn0, hi0, hb256, Int.toNat_natCast, firstAt, isInt, pvInt, Bool.and_true, Bool.false_eq_true, Bool.true_eq_false, false_implies, true_implies, true_and, and_true, e0, e1, e2, hi1]
    first | rfl | exact ⟨rfl, rfl⟩ | exact ⟨rfl, rfl, rfl⟩
  have e2 : decide (191 < (byt s 1 : Int)) = false := decide_eq_false (by omega)
  have hs : slw s 2 128 191 = (byt s 0 % 32 * 64 + byt s 1 % 64, 2) := by unfold slw Lib.slowN; rw [if_neg q0, if_neg (not_or.2 ⟨q1, q2⟩), if_pos (by decide)]
  rw [hs]
  refine junk_of (r := (IntKind.i32.wrap (↑(BitVec.ofInt 32 (IntKind.i32.wrap (IntKind.i32.wrap (IntKind.u8.wrap (↑(BitVec.ofInt 8 (↑(s.data.toList.getD 0 0).toNat : Int) &&& BitVec.ofInt 8 31).toNat : Int)) * 64)) ||| BitVec.ofInt 32 (IntKind.i32.wrap (IntKind.u8.wrap (↑(BitVec.ofInt 8 (↑(s.data.toList.getD 1 0).toNat : Int) &&& BitVec.ofInt 8 63).toNat : Int)))).toNat : Int))) (does_of_tree names (dsC_tree s) ?_)
  simp only [dsCTree, Tree.ok, hn0, hi0, hb256, Int.toNat_natCast, firstAt, isInt, pvInt, Bool.and_true, Bool.false_eq_true, Bool.true_eq_false, false_implies, true_implies, true_and, and_true, e0, e1, e2, hi1]
  first | rfl | exact ⟨rfl, rfl⟩ | exact ⟨rfl, rfl, rfl⟩

theorem firstD (b : Nat) (h : b = 224) : firstP.getD b .bad = .sc (.int .u8 19) := by
  have hb : b < 256 := by omega
  have h : b ∈ (List.range 256).filter (fun b => decide (b = 224)) := List.mem_filter.2 ⟨List.mem_range.2 (by omega), decide_eq_true h⟩
  have hall : ∀ b ∈ (List.range 256).filter (fun b => decide (b = 224)), firstZ.getD b 0 = 19 := by decide +kernel
  rw [firstP_get hb, hall b h]

theorem dsD_does (h0 : 0 < s.data.toList.length) (hb : byt s 0 = 224) : Does Tryd.prog env 55 [.p (.sc (.string s))] [] (.tup [.junk, sI .i64 ((slw s 3 160 191).2 : Nat)]) [] := by
  have firstAt : firstP.getD (0 + (s.data.toList.getD 0 0).toNat * 1) .bad = .sc (.int .u8 19) := by rw [Nat.zero_add, Nat.mul_one]; exact firstD (byt s 0) hb
  have hn0 : decide ((s.data.toList.length : Int) < 1) = false := decide_eq_false (by omega)
  have hin : ∀ j : Nat, j < s.data.toList.length → inB (j : Int) s.data.toList.length = true := fun j h => by simp only [inB, Bool.and_eq_true, decide_eq_true_eq]; omega
  have hi0 : inB 0 s.data.toList.length = true := hin 0 h0
  have hb256 : inB (byt s 0 : Int) 256 = true := by simp only [inB, Bool.and_eq_true, decide_eq_true_eq]; omega
  by_cases q0 : s.data.toList.length < 3
  · have e0 : decide ((s.data.toList.length : Int) < 3) = true := decide_eq_true (by omega)
    have hs : slw s 3 160 191 = (65533, 1) := by unfold slw Lib.slowN; rw [if_pos q0]
    rw [hs]
    refine junk_of (r := 65533) (does_of_tree names (dsD_tree s) ?_)
    simp only [dsDTree, Tree.ok, hn0, hi0, hb256, Int.toNat_natCast, firstAt, isInt, pvInt, Bool.and_true, Bool.false_eq_true, Bool.true_eq_false, false_implies, true_implies, true_and, and_true, e0]
    first | rfl | exact ⟨rfl, rfl⟩ | exact ⟨rfl, rfl, rfl⟩
  have e0 : decide ((s.data.toList.length : Int) < 3) = false := decide_eq_false (by omega)
  have hi1 : inB 1 s.data.toList.length = true := hin 1 (by omega)
  by_cases q1 : byt s 1 < 160
  · have e1 : decide ((byt s 1 : Int) < 160) = true := decide_eq_true (by omega)
    have hs : slw s 3 160 191 = (65533, 1) := by unfold slw Lib.slowN; rw [if_neg q0, if_pos (.inl q1)]
    rw [hs]
    refine junk_of (r := 65533) (does_of_tree names (dsD_tree s) ?_)
    simp only [dsDTree, Tree.ok, hn0, hi0, hb256, Int.toNat_natCast, firstAt, isInt, pvInt, Bool.and_true, Bool.false_eq_true, Bool.true_eq_false, false_implies, true_implies, true_and, and_true, e0, e1, hi1]
    first | rfl | exact ⟨rfl, rfl⟩ | exact ⟨rfl, rfl, rfl⟩
  have e1 : decide ((byt s 1 : Int) < 160) = false := decide_eq_false (by omega)
  by_cases q2 : 191 < byt s 1
  · have e2 : decide (191 < (byt s 1 : Int)) = true := decide_eq_true (by omega)
    have hs : slw s 3 160 191 = (65533, 1) := by unfold slw Lib.slowN; rw [if_neg q0, if_pos (.inr q2)]
    rw [hs]
    refine junk_of (r := 65533) (does_of_tree names (dsD_tree s) ?_)
    simp only [dsDTree, Tree.ok, hn0, hi0, hb256, Int.toNat_natCast, firstAt, isInt, pvInt, Bool.and_true, Bool.false_eq_true, Bool.true_eq_false, false_implies, true_implies, true_and, and_true, e0, e1, e2, hi1]
    first | rfl | exact ⟨rfl, rfl⟩ | exact ⟨rfl, rfl, rfl⟩
  have e2 : decide (191 < (byt s 1 : Int)) = false := decide_eq_false (by omega)
  have hi2 : inB 2 s.data.toList.length = true := hin 2 (by omega)
  by_cases q3 : byt s 2 < 128
  · have e3 : decide ((byt s 2 : Int) < 128) = true := decide_eq_true (by omega)
    have hs : slw s 3 160 191 = (65533, 1) := by unfold slw Lib.slowN; rw [if_neg q0, if_neg (not_or.2 ⟨q1, q2⟩), if_neg (by decide), if_pos (.inl q3)]
    rw [hs]
    refine junk_of (r := 65533) (does_of_tree names (dsD_tree s) ?_)
    simp only [dsDTree, Tree.ok, hn0, hi0, hb256, Int.toNat_natCast, firstAt, isInt, pvInt, Bool.and_true, Bool.false_eq_true, Bool.true_eq_false, false_implies, true_implies, true_and, and_true, e0, e1, e2, e3, hi1, hi2]
    first | rfl | exact ⟨rfl, rfl⟩ | exact ⟨rfl, rfl, rfl⟩
  have e3 : decide ((byt s 2 : Int) < 128) = false := decide_eq_false (by omega)
  by_cases q4 : 191 < byt s 2
  · have e4 : decide (191 < (byt s 2 : Int)) = true := decide_eq_true (by omega)
    have hs : slw s 3 160 191 = (65533, 1) := by unfold slw Lib.slowN; rw [if_neg q0, if_neg (not_or.2 ⟨q1, q2⟩), if_neg (by decide), if_pos (.inr q4)]
    rw [hs]
    refine junk_of (r := 65533) (does_of_tree names (dsD_tree s) ?_)
    simp only [dsDTree, Tree.ok, hn0, hi0, hb256, Int.toNat_natCast, firstAt, isInt, pvInt, Bool.and_true, Bool.false_eq_true, Bool.true_eq_false, false_implies, true_implies, true_and, and_true, e0, e1, e2, e3, e4, hi1, hi2]
    first | rfl | exact ⟨rfl, rfl⟩ | exact ⟨rfl, rfl, rfl⟩
  have e4 : decide (191 < (byt s 2 : Int)) = false := decide_eq_false (by omega)
  have hs : slw s 3 160 191 = (byt s 0 % 16 * 4096 + byt s 1 % 64 * 64 + byt s 2 % 64, 3) := by unfold slw Lib.slowN; rw [if_neg q0, if_neg (not_or.2 ⟨q1, q2⟩), if_neg (by decide), if_neg (not_or.2 ⟨q3, q4⟩), if_pos (by decide)]
  rw [hs]
  refine junk_of (r := (IntKind.i32.wrap (↑(BitVec.ofInt 32 (IntKind.i32.wrap (↑(BitVec.ofInt 32 (IntKind.i32.wrap (IntKind.i32.wrap (IntKind.u8.wrap (↑(BitVec.ofInt 8 (↑(s.data.toList.getD 0 0).toNat : Int) &&& BitVec.ofInt 8 15).toNat : Int)) * 4096)) ||| BitVec.ofInt 32 (IntKind.i32.wrap (IntKind.i32.wrap (IntKind.u8.wrap (↑(BitVec.ofInt 8 (↑(s.data.toList.getD 1 0).toNat : Int) &&& BitVec.ofInt 8 63).toNat : Int)) * 64))).toNat : Int)) ||| BitVec.ofInt 32 (IntKind.i32.wrap (IntKind.u8.wrap (↑(BitVec.ofInt 8 (↑(s.data.toList.getD 2 0).toNat : Int) &&& BitVec.ofInt 8 63).toNat : Int)))).toNat : Int))) (does_of_tree names (dsD_tree s) ?_)
  simp only [dsDTree, Tree.ok, hn0, hi0, hb256, Int.toNat_natCast, firstAt, isInt, pvInt, Bool.and_true, Bool.false_eq_true, Bool.true_eq_false, false_implies, true_implies, true_and, and_true, e0, e1, e2, e3, e4, hi1, hi2]
  first | rfl | exact ⟨rfl, rfl⟩ | exact ⟨rfl, rfl, rfl⟩

theorem firstE (b : Nat) (h : 225 ≤ b ∧ b < 237 ∨ 238 ≤ b ∧ b < 240) : firstP.getD b .bad = .sc (.int .u8 3) := by
  have hb : b < 256 := by omega
  have h : b ∈ (List.range 256).filter (fun b => decide (225 ≤ b ∧ b < 237 ∨ 238 ≤ b ∧ b < 240)) := List.mem_filter.2 ⟨List.mem_range.2 (by omega), decide_eq_true h⟩
  have hall : ∀ b ∈ (List.range 256).filter (fun b => decide (225 ≤ b ∧ b < 237 ∨ 238 ≤ b ∧ b < 240)), firstZ.getD b 0 = 3 := by decide +kernel
  rw [firstP_get hb, hall b h]

theorem dsE_does (h0 : 0 < s.data.toList.length) (hb : 225 ≤ byt s 0 ∧ byt s 0 < 237 ∨ 238 ≤ byt s 0 ∧ byt s 0 < 240) : Does Tryd.prog env 55 [.p (.sc (.string s))] [] (.tup [.junk, sI .i64 ((slw s 3 128 191).2 : Nat)]) [] := by
  have firstAt : firstP.getD (0 + (s.data.toList.getD 0 0).toNat * 1) .bad = .sc (.int .u8 3) := by rw [Nat.zero_add, Nat.mul_one]; exact firstE (byt s 0) hb
  have hn0 : decide ((s.data.toList.length : Int) < 1) = false := decide_eq_false (by omega)
  have hin : ∀ j : Nat, j < s.data.toList.length → inB (j : Int) s.data.toList.length = true := fun j h => by simp only [inB, Bool.and_eq_true, decide_eq_true_eq]; omega
  have hi0 : inB 0 s.data.toList.length = true := hin 0 h0
  have hb256 : inB (byt s 0 : Int) 256 = true := by simp only [inB, Bool.and_eq_true, decide_eq_true_eq]; omega
  by_cases q0 : s.data.toList.length < 3
  · have e0 : decide ((s.data.toList.length : Int) < 3) = true := decide_eq_true (by omega)
    have hs : slw s 3 128 191 = (65533, 1) := by unfold slw Lib.slowN; rw [if_pos q0]
    rw [hs]
    refine junk_of (r := 65533) (does_of_tree names (dsE_tree s) ?_)
    simp only [dsETree, Tree.ok, hn0, hi0, hb256, Int.toNat_natCast, firstAt, isInt, pvInt, Bool.and_true, Bool.false_eq_true, Bool.true_eq_false, false_implies, true_implies, true_and, and_true, e0]
    first | rfl | exact ⟨rfl, rfl⟩ | exact ⟨rfl, rfl, rfl⟩
  have e0 : decide ((s.data.toList.length : Int) < 3) = false := decide_eq_false (by omega)
  have hi1 : inB 1 s.data.toList.length = true := hin 1 (by omega)
  by_cases q1 : byt s 1 < 128
  · have e1 : decide ((byt s 1 : Int) < 128) = true := decide_eq_true (by omega)
    have hs : slw s 3 128 191 = (65533, 1) := by unfold slw Lib.slowN; rw [if_neg q0, if_pos (.inl q1)]
    rw [hs]
    refine junk_of (r := 65533) (does_of_tree names (dsE_tree s) ?_)
    simp only [dsETree, Tree.ok, hn0, hi0, hb256, Int.toNat_natCast, firstAt, isInt, pvInt, Bool.and_true, Bool.false_eq_true, Bool.true_eq_false, false_implies, true_implies, true_and, and_true, e0, e1, hi1]
    first | rfl | exact ⟨rfl, rfl⟩ | exact ⟨rfl, rfl, rfl⟩
  have e1 : decide ((byt s 1 : Int) < 128) = false := decide_eq_false (by omega)
  by_cases q2 : 191 < byt s 1
  · have e2 : decide (191 < (byt s 1 : Int)) = true := decide_eq_true (by omega)
    have hs : slw s 3 128 191 = (65533, 1) := by unfold slw Lib.slowN; rw [if_neg q0, if_pos (.inr q2)]
    rw [hs]
    refine junk_of (r := 65533) (does_of_tree names (dsE_tree s) ?_)
    simp only [dsETree, Tree.ok, hn0, hi0, hb256, Int.toNat_natCast, firstAt, isInt, pvInt, Bool.and_true, Bool.false_eq_true, Bool.true_eq_false, false_implies, true_implies, true_and, and_true, e0, e1, e2, hi1]
    first | rfl | exact ⟨rfl, rfl⟩ | exact ⟨rfl, rfl, rfl⟩
  have e2 : decide (191 < (byt s 1 : Int)) = false := decide_eq_false (by omega)
  have hi2 : inB 2 s.data.toList.length = true := hin 2 (by omega)
  by_cases q3 : byt s 2 < 128
  · have e3 : decide ((byt s 2 : Int) < 128) = true := decide_eq_true (by omega)
    have hs : slw s 3 128 191 = (65533, 1) := by unfold slw Lib.slowN; rw [if_neg q0, if_neg (not_or.2 ⟨q1, q2⟩), if_neg (by decide), if_pos (.inl q3)]
    rw [hs]
    refine junk_of (r := 65533) (does_of_tree names (dsE_tree s) ?_)
    simp only [dsETree, Tree.ok, hn0, hi0, hb256, Int.toNat_natCast, firstAt, isInt, pvInt, Bool.and_true, Bool.false_eq_true, Bool.true_eq_false, false_implies, true_implies, true_and, and_true, e0, e1, e2, e3, hi1, hi2]
    first | rfl | exact ⟨rfl, rfl⟩ | exact ⟨rfl, rfl, rfl⟩
  have e3 : decide ((byt s 2 : Int) < 128) = false := decide_eq_false (by omega)
  by_cases q4 : 191 < byt s 2
  · have e4 : decide (191 < (byt s 2 : Int)) = true := decide_eq_true (by omega)
    have hs : slw s 3 128 191 = (65533, 1) := by unfold slw Lib.slowN; rw [if_neg q0, if_neg (not_or.2 ⟨q1, q2⟩), if_neg (by decide), if_pos (.inr q4)]
    rw [hs]
    refine junk_of (r := 65533) (does_of_tree names (dsE_tree s) ?_)
    simp only [dsETree, Tree.ok, hn0, hi0, hb256, Int.toNat_natCast, firstAt, isInt, pvInt, Bool.and_true, Bool.false_eq_true, Bool.true_eq_false, false_implies, true_implies, true_and, and_true, e0, e1, e2, e3, e4, hi1, hi2]
    first | rfl | exact ⟨rfl, rfl⟩ | exact ⟨rfl, rfl, rfl⟩
  have e4 : decide (191 < (byt s 2 : Int)) = false := decide_eq_false (by omega)
  have hs : slw s 3 128 191 = (byt s 0 % 16 * 4096 + byt s 1 % 64 * 64 + byt s 2 % 64, 3) := by unfold slw Lib.slowN; rw [if_neg q0, if_neg (not_or.2 ⟨q1, q2⟩), if_neg (by decide), if_neg (not_or.2 ⟨q3, q4⟩), if_pos (by decide)]
  rw [hs]
  refine junk_of (r := (IntKind.i32.wrap (↑(BitVec.ofInt 32 (IntKind.i32.wrap (↑(BitVec.ofInt 32 (IntKind.i32.wrap (IntKind.i32.wrap (IntKind.u8.wrap (↑(BitVec.ofInt 8 (↑(s.data.toList.getD 0 0).toNat : Int) &&& BitVec.ofInt 8 15).toNat : Int)) * 4096)) ||| BitVec.ofInt 32 (IntKind.i32.wrap (IntKind.i32.wrap (IntKind.u8.wrap (↑(BitVec.ofInt 8 (↑(s.data.toList.getD 1 0).toNat : Int) &&& BitVec.ofInt 8 63).toNat : Int)) * 64))).toNat : Int)) ||| BitVec.ofInt 32 (IntKind.i32.wrap (IntKind.u8.wrap (↑(BitVec.ofInt 8 (↑(s.data.toList.getD 2 0).toNat : Int) &&& BitVec.ofInt 8 63).toNat : Int)))).toNat : Int))) (does_of_tree names (dsE_tree s) ?_)
  simp only [dsETree, Tree.ok, hn0, hi0, hb256, Int.toNat_natCast, firstAt, isInt, pvInt, Bool.and_true, Bool.false_eq_true, Bool.true_eq_false, false_implies, true_implies, true_and, and_true, e0, e1, e2, e3, e4, hi1, hi2]
  first | rfl | exact ⟨rfl, rfl⟩ | exact ⟨rfl, rfl, rfl⟩

theorem firstF (b : Nat) (h : b = 237) : firstP.getD b .bad = .sc (.int .u8 35) := by
  have hb : b < 256 := by omega
  have h : b ∈ (List.range 256).filter (fun b => decide (b = 237)) := List.mem_filter.2 ⟨List.mem_range.2 (by omega), decide_eq_true h⟩
  have hall : ∀ b ∈ (List.range 256).filter (fun b => decide (b = 237)), firstZ.getD b 0 = 35 := by decide +kernel
  rw [firstP_get hb, hall b h]

theorem dsF_does (h0 : 0 < s.data.toList.length) (hb : byt s 0 = 237) : Does Tryd.prog env 55 [.p (.sc (.string s))] [] (.tup [.junk, sI .i64 ((slw s 3 128 159).2 : Nat)]) [] := by
  have firstAt : firstP.getD (0 + (s.data.toList.getD 0 0).toNat * 1) .bad = .sc (.int .u8 35) := by rw [Nat.zero_add, Nat.mul_one]; exact firstF (byt s 0) hb
  have hn0 : decide ((s.data.toList.length : Int) < 1) = false := decide_eq_false (by omega)
  have hin : ∀ j : Nat, j < s.data.toList.length → inB (j : Int) s.data.toList.length = true := fun j h => by simp only [inB, Bool.and_eq_true, decide_eq_true_eq]; omega
  have hi0 : inB 0 s.data.toList.length = true := hin 0 h0
  have hb256 : inB (byt s 0 : Int) 256 = true := by simp only [inB, Bool.and_eq_true, decide_eq_true_eq]; omega
  by_cases q0 : s.data.toList.length < 3
  · have e0 : decide ((s.data.toList.length : Int) < 3) = true := decide_eq_true (by omega)
    have hs : slw s 3 128 159 = (65533, 1) := by unfold slw Lib.slowN; rw [if_pos q0]
    rw [hs]
    refine junk_of (r := 65533) (does_of_tree names (dsF_tree s) ?_)
    simp only [dsFTree, Tree.ok, hn0, hi0, hb256, Int.toNat_natCast, firstAt, isInt, pvInt, Bool.and_true, Bool.false_eq_true, Bool.true_eq_false, false_implies, true_implies, true_and, and_true, e0]
    first | rfl | exact ⟨rfl, rfl⟩ | exact ⟨rfl, rfl, rfl⟩
  have e0 : decide ((s.data.toList.length : Int) < 3) = false := decide_eq_false (by omega)
  have hi1 : inB 1 s.data.toList.length = true := hin 1 (by omega)
  by_cases q1 : byt s 1 < 128
  · have e1 : decide ((byt s 1 : Int) < 128) = true := decide_eq_true (by omega)
    have hs : slw s 3 128 159 = (65533, 1) := by unfold slw Lib.slowN; rw [if_neg q0, if_pos (.inl q1)]
    rw [hs]
    refine junk_of (r := 65533) (does_of_tree names (dsF_tree s) ?_)
    simp only [dsFTree, Tree.ok, hn0, hi0, hb256, Int.toNat_natCast, firstAt, isInt, pvInt, Bool.and_true, Bool.false_eq_true, Bool.true_eq_false, false_implies, true_implies, true_and, and_true, e0, e1, hi1]
    first | rfl | exact ⟨rfl, rfl⟩ | exact ⟨rfl, rfl, rfl⟩
  have e1 : decide ((byt s 1 : Int) < 128) = false := decide_eq_false (by omega)
  by_cases q2 : 159 < byt s 1
  · have e2 : decide (159 < (byt s 1 : Int)) = true := decide_eq_true (by omega)
    have hs : slw s 3 128 159 = (65533, 1) := by unfold slw Lib.slowN; rw [if_neg q0, if_pos (.inr q2)]
    rw [hs]
    refine junk_of (r := 65533) (does_of_tree names (dsF_tree s) ?_)
    simp only [dsFTree, Tree.ok, hn0, hi0, hb256, Int.toNat_natCast, firstAt, isInt, pvInt, Bool.and_true, Bool.false_eq_true, Bool.true_eq_false, false_implies, true_implies, true_and, and_true, e0, e1, e2, hi1]
    first | rfl | exact ⟨rfl, rfl⟩ | exact ⟨rfl, rfl, rfl⟩
  have e2 : decide (159 < (byt s 1 : Int)) = false := decide_eq_false (by omega)
  have hi2 : inB 2 s.data.toList.length = true := hin 2 (by omega)
  by_cases q3 : byt s 2 < 128
  · have e3 : decide ((byt s 2 : Int) < 128) = true := decide_eq_true (by omega)
    have hs : slw s 3 128 159 = (65533, 1) := by unfold slw Lib.slowN; rw [if_neg q0, if_neg (not_or.2 ⟨q1, q2⟩), if_neg (by decide), if_pos (.inl q3)]
    rw [hs]
    refine junk_of (r := 65533) (does_of_tree names (dsF_tree s) ?_)
    simp only [dsFTree, Tree.ok, hn0, hi0, hb256, Int.toNat_natCast, firstAt, isInt, pvInt, Bool.and_true, Bool.false_eq_true, Bool.true_eq_false, false_implies, true_implies, true_and, and_true, e0, e1, e2, e3, hi1, hi2]
    first | rfl | exact ⟨rfl, rfl⟩ | exact ⟨rfl, rfl, rfl⟩
  have e3 : decide ((byt s 2 : Int) < 128) = false := decide_eq_false (by omega)
  by_cases q4 : 191 < byt s 2
  · have e4 : decide (191 < (byt s 2 : Int)) = true := decide_eq_true (by omega)
    have hs : slw s 3 128 159 = (65533, 1) := by unfold slw Lib.slowN; rw [if_neg q0, if_neg (not_or.2 ⟨q1, q2⟩), if_neg (by decide), if_pos (.inr q4)]
    rw [hs]
    refine junk_of (r := 65533) (does_of_tree names (dsF_tree s) ?_)
    simp only [dsFTree, Tree.ok, hn0, hi0, hb256, Int.toNat_natCast, firstAt, isInt, pvInt, Bool.and_true, Bool.false_eq_true, Bool.true_eq_false, false_implies, true_implies, true_and, and_true, e0, e1, e2, e3, e4, hi1, hi2]
    first | rfl | exact ⟨rfl, rfl⟩ | exact ⟨rfl, rfl, rfl⟩
  have e4 : decide (191 < (byt s 2 : Int)) = false := decide_eq_false (by omega)
  have hs : slw s 3 128 159 = (byt s 0 % 16 * 4096 + byt s 1 % 64 * 64 + byt s 2 % 64, 3) := by unfold slw Lib.slowN; rw [if_neg q0, if_neg (not_or.2 ⟨q1, q2⟩), if_neg (by decide), if_neg (not_or.2 ⟨q3, q4⟩), if_pos (by decide)]
  rw [hs]
  refine junk_of (r := (IntKind.i32.wrap (↑(BitVec.ofInt 32 (IntKind.i32.wrap (↑(BitVec.ofInt 32 (IntKind.i32.wrap (IntKind.i32.wrap (IntKind.u8.wrap (↑(BitVec.ofInt 8 (↑(s.data.toList.getD 0 0).toNat : Int) &&& BitVec.ofInt 8 15).toNat : Int)) * 4096)) ||| BitVec.ofInt 32 (IntKind.i32.wrap (IntKind.i32.wrap (IntKind.u8.wrap (↑(BitVec.ofInt 8 (↑(s.data.toList.getD 1 0).toNat : Int) &&& BitVec.ofInt 8 63).toNat : Int)) * 64))).toNat : Int)) ||| BitVec.ofInt 32 (IntKind.i32.wrap (IntKind.u8.wrap (↑(BitVec.ofInt 8 (↑(s.data.toList.getD 2 0).toNat : Int) &&& BitVec.ofInt 8 63).toNat : Int)))).toNat : Int))) (does_of_tree names (dsF_tree s) ?_)
  simp only [dsFTree, Tree.ok, hn0, hi0, hb256, Int.toNat_natCast, firstAt, isInt, pvInt, Bool.and_true, Bool.false_eq_true, Bool.true_eq_false, false_implies, true_implies, true_and, and_true, e0, e1, e2, e3, e4, hi1, hi2]
  first | rfl | exact ⟨rfl, rfl⟩ | exact ⟨rfl, rfl, rfl⟩

theorem firstG (b : Nat) (h : b = 240) : firstP.getD b .bad = .sc (.int .u8 52) := by
  have hb : b < 256 := by omega
  have h : b ∈ (List.range 256).filter (fun b => decide (b = 240)) := List.mem_filter.2 ⟨List.mem_range.2 (by omega), decide_eq_true h⟩
  have hall : ∀ b ∈ (List.range 256).filter (fun b => decide (b = 240)), firstZ.getD b 0 = 52 := by decide +kernel
  rw [firstP_get hb, hall b h]

theorem dsG_does (h0 : 0 < s.data.toList.length) (hb : byt s 0 = 240) : Does Tryd.prog env 55 [.p (.sc (.string s))] [] (.tup [.junk, sI .i64 ((slw s 4 144 191).2 : Nat)]) [] := by
  have firstAt : firstP.getD (0 + (s.data.toList.getD 0 0).toNat * 1) .bad = .sc (.int .u8 52) := by rw [Nat.zero_add, Nat.mul_one]; exact firstG (byt s 0) hb
  have hn0 : decide ((s.data.toList.length : Int) < 1) = false := decide_eq_false (by omega)
  have hin : ∀ j : Nat, j < s.data.toList.length → inB (j : Int) s.data.toList.length = true := fun j h => by simp only [inB, Bool.and_eq_true, decide_eq_true_eq]; omega
  have hi0 : inB 0 s.data.toList.length = true := hin 0 h0
  have hb256 : inB (byt s 0 : Int) 256 = true := by simp only [inB, Bool.and_eq_true, decide_eq_true_eq]; omega
  by_cases q0 : s.data.toList.length < 4
  · have e0 : decide ((s.data.toList.length : Int) < 4) = true := decide_eq_true (by omega)
    have hs : slw s 4 144 191 = (65533, 1) := by unfold slw Lib.slowN; rw [if_pos q0]
    rw [hs]
    refine junk_of (r := 65533) (does_of_tree names (dsG_tree s) ?_)
    simp only [dsGTree, Tree.ok, hn0, hi0, hb256, Int.toNat_natCast, firstAt, isInt, pvInt, Bool.and_true, Bool.false_eq_true, Bool.true_eq_false, false_implies, true_implies, true_and, and_true, e0]
    first | rfl | exact ⟨rfl, rfl⟩ | exact ⟨rfl, rfl, rfl⟩
  have e0 : decide ((s.data.toList.length : Int) < 4) = false := decide_eq_false (by omega)
  have hi1 : inB 1 s.data.toList.length = true := hin 1 (by omega)
  by_cases q1 : byt s 1 < 144
  · have e1 : decide ((byt s 1 : Int) < 144) = true := decide_eq_true (by omega)
    have hs : slw s 4 144 191 = (65533, 1) := by unfold slw Lib.slowN; rw [if_neg q0, if_pos (.inl q1)]
    rw [hs]
    refine junk_of (r := 65533) (does_of_tree names (dsG_tree s) ?_)
    simp only [dsGTree, Tree.ok, hn0, hi0, hb256, Int.toNat_natCast, firstAt, isInt, pvInt, Bool.and_true, Bool.false_eq_true, Bool.true_eq_false, false_implies, true_implies, true_and, and_true, e0, e1, hi1]
    first | rfl | exact ⟨rfl, rfl⟩ | exact ⟨rfl, rfl, rfl⟩
  have e1 : decide ((byt s 1 : Int) < 144) = false := decide_eq_false (by omega)
  by_cases q2 : 191 < byt s 1
  · have e2 : decide (191 < (byt s 1 : Int)) = true := decide_eq_true (by omega)
    have hs : slw s 4 144 191 = (65533, 1) := by unfold slw Lib.slowN; rw [if_neg q0, if_pos (.inr q2)]
    rw [hs]
    refine junk_of (r := 65533) (does_of_tree names (dsG_tree s) ?_)
    simp only [dsGTree, Tree.ok, hn0, hi0, hb256, Int.toNat_natCast, firstAt, isInt, pvInt, Bool.and_true, Bool.false_eq_true, Bool.true_eq_false, false_implies, true_implies, true_and, and_true, e0, e1, e2, hi1]
    first | rfl | exact ⟨rfl, rfl⟩ | exact ⟨rfl, rfl, rfl⟩
  have e2 : decide (191 < (byt s 1 : Int)) = false := decide_eq_false (by omega)
  have hi2 : inB 2 s.data.toList.length = true := hin 2 (by omega)
  by_cases q3 : byt s 2 < 128
  · have e3 : decide ((byt s 2 : Int) < 128) = true := decide_eq_true (by omega)
    have hs : slw s 4 144 191 = (65533, 1) := by unfold slw Lib.slowN; rw [if_neg q0, if_neg (not_or.2 ⟨q1, q2⟩), if_neg (by decide), if_pos (.inl q3)]
    rw [hs]
    refine junk_of (r := 65533) (does_of_tree names (dsG_tree s) ?_)
    simp only [dsGTree, Tree.ok, hn0, hi0, hb256, Int.toNat_natCast, firstAt, isInt, pvInt, Bool.and_true, Bool.false_eq_true, Bool.true_eq_false, false_implies, true_implies, true_and, and_true, e0, e1, e2, e3, hi1, hi2]
    first | rfl | exact ⟨rfl, rfl⟩ | exact ⟨rfl, rfl, rfl⟩
  have e3 : decide ((byt s 2 : Int) < 128) = false := decide_eq_false (by omega)
  by_cases q4 : 191 < byt s 2
  · have e4 : decide (191 < (byt s 2 : Int)) = true := decide_eq_true (by omega)
    have hs : slw s 4 144 191 = (65533, 1) := by unfold slw Lib.slowN; rw [if_neg q0, if_neg (not_or.2 ⟨q1, q2⟩), if_neg (by decide), if_pos (.inr q4)]
    rw [hs]
    refine junk_of (r := 65533) (does_of_tree names (dsG_tree s) ?_)
    simp only [dsGTree, Tree.ok, hn0, hi0, hb256, Int.toNat_natCast, firstAt, isInt, pvInt, Bool.and_true, Bool.false_eq_true, Bool.true_eq_false, false_implies, true_implies, true_and, and_true, e0, e1, e2, e3, e4, hi1, hi2]
    first | rfl | exact ⟨rfl, rfl⟩ | exact ⟨rfl, rfl, rfl⟩
  have e4 : decide (191 < (byt s 2 : Int)) = false := decide_eq_false (by omega)
  have hi3 : inB 3 s.data.toList.length = true := hin 3 (by omega)
  by_cases q5 : byt s 3 < 128
  · have e5 : decide ((byt s 3 : Int) < 128) = true := decide_eq_true (by omega)
    have hs : slw s 4 144 191 = (65533, 1) := by unfold slw Lib.slowN; rw [if_neg q0, if_neg (not_or.2 ⟨q1, q2⟩), if_neg (by decide), if_neg (not_or.2 ⟨q3, q4⟩), if_neg (by decide), if_pos (.inl q5)]
    rw [hs]
    refine junk_of (r := 65533) (does_of_tree names (dsG_tree s) ?_)
    simp only [dsGTree, Tree.ok, hn0, hi0, hb256, Int.toNat_natCast, firstAt, isInt, pvInt, Bool.and_true, Bool.false_eq_true, Bool.true_eq_false, false_implies, true_implies, true_and, and_true, e0, e1, e2, e3, e4, e5, hi1, hi2, hi3]
    first | rfl | exact ⟨rfl, rfl⟩ | exact ⟨rfl, rfl, rfl⟩
  have e5 : decide ((byt s 3 : Int) < 128) = false := decide_eq_false (by omega)
  by_cases q6 : 191 < byt s 3
  · have e6 : decide (191 < (byt s 3 : Int)) = true := decide_eq_true (by omega)
    have hs : slw s 4 144 191 = (65533, 1) := by unfold slw Lib.slowN; rw [if_neg q0, if_neg (not_or.2 ⟨q1, q2⟩), if_neg (by decide), if_neg (not_or.2 ⟨q3, q4⟩), if_neg (by decide), if_pos (.inr q6)]
    rw [hs]
    refine junk_of (r := 65533) (does_of_tree names (dsG_tree s) ?_)
    simp only [dsGTree, Tree.ok, hn0, hi0, hb256, Int.toNat_natCast, firstAt, isInt, pvInt, Bool.and_true, Bool.false_eq_true, Bool.true_eq_false, false_implies, true_implies, true_and, and_true, e0, e1, e2, e3, e4, e5, e6, hi1, hi2, hi3]
    first | rfl | exact ⟨rfl, rfl⟩ | exact ⟨rfl, rfl, rfl⟩
  have e6 : decide (191 < (byt s 3 : Int)) = false := decide_eq_false (by omega)
  have hs : slw s 4 144 191 = (byt s 0 % 8 * 262144 + byt s 1 % 64 * 4096 + byt s 2 % 64 * 64 + byt s 3 % 64, 4) := by unfold slw Lib.slowN; rw [if_neg q0, if_neg (not_or.2 ⟨q1, q2⟩), if_neg (by decide), if_neg (not_or.2 ⟨q3, q4⟩), if_neg (by decide), if_neg (not_or.2 ⟨q5, q6⟩)]
  rw [hs]
  refine junk_of (r := (IntKind.i32.wrap (↑(BitVec.ofInt 32 (IntKind.i32.wrap (↑(BitVec.ofInt 32 (IntKind.i32.wrap (↑(BitVec.ofInt 32 (IntKind.i32.wrap (IntKind.i32.wrap (IntKind.u8.wrap (↑(BitVec.ofInt 8 (↑(s.data.toList.getD 0 0).toNat : Int) &&& BitVec.ofInt 8 7).toNat : Int)) * 262144)) ||| BitVec.ofInt 32 (IntKind.i32.wrap (IntKind.i32.wrap (IntKind.u8.wrap (↑(BitVec.ofInt 8 (↑(s.data.toList.getD 1 0).toNat : Int) &&& BitVec.ofInt 8 63).toNat : Int)) * 4096))).toNat : Int)) ||| BitVec.ofInt 32 (IntKind.i32.wrap (IntKind.i32.wrap (IntKind.u8.wrap (↑(BitVec.ofInt 8 (↑(s.data.toList.getD 2 0).toNat : Int) &&& BitVec.ofInt 8 63).toNat : Int)) * 64))).toNat : Int)) ||| BitVec.ofInt 32 (IntKind.i32.wrap (IntKind.u8.wrap (↑(BitVec.ofInt 8 (↑(s.data.toList.getD 3 0).toNat : Int) &&& BitVec.ofInt 8 63).toNat : Int)))).toNat : Int))) (does_of_tree names (dsG_tree s) ?_)
  simp only [dsGTree, Tree.ok, hn0, hi0, hb256, Int.toNat_natCast, firstAt, isInt, pvInt, Bool.and_true, Bool.false_eq_true, Bool.true_eq_false, false_implies, true_implies, true_and, and_true, e0, e1, e2, e3, e4, e5, e6, hi1, hi2, hi3]
  first | rfl | exact ⟨rfl, rfl⟩ | exact ⟨rfl, rfl, rfl⟩

theorem firstH (b : Nat) (h : 241 ≤ b ∧ b < 244) : firstP.getD b .bad = .sc (.int .u8 4) := by
  have hb : b < 256 := by omega
  have h : b ∈ (List.range 256).filter (fun b => decide (241 ≤ b ∧ b < 244)) := List.mem_filter.2 ⟨List.mem_range.2 (by omega), decide_eq_true h⟩
  have hall : ∀ b ∈ (List.range 256).filter (fun b => decide (241 ≤ b ∧ b < 244)), firstZ.getD b 0 = 4 := by decide +kernel
  rw [firstP_get hb, hall b h]

theorem dsH_does (h0 : 0 < s.data.toList.length) (hb : 241 ≤ byt s 0 ∧ byt s 0 < 244) : Does Tryd.prog env 55 [.p (.sc (.string s))] [] (.tup [.junk, sI .i64 ((slw s 4 128 191).2 : Nat)]) [] := by
  have firstAt : firstP.getD (0 + (s.data.toList.getD 0 0).toNat * 1) .bad = .sc (.int .u8 4) := by rw [Nat.zero_add, Nat.mul_one]; exact firstH (byt s 0) hb
  have hn0 : decide ((s.data.toList.length : Int) < 1) = false := decide_eq_false (by omega)
  have hin : ∀ j : Nat, j < s.data.toList.length → inB (j : Int) s.data.toList.length = true := fun j h => by simp only [inB, Bool.and_eq_true, decide_eq_true_eq]; omega
  have hi0 : inB 0 s.data.toList.length = true := hin 0 h0
  have hb256 : inB (byt s 0 : Int) 256 = true := by simp only [inB, Bool.and_eq_true, decide_eq_true_eq]; omega
  by_cases q0 : s.data.toList.length < 4
  · have e0 : decide ((s.data.toList.length : Int) < 4) = true := decide_eq_true (by omega)
    have hs : slw s 4 128 191 = (65533, 1) := by unfold slw Lib.slowN; rw [if_pos q0]
    rw [hs]
    refine junk_of (r := 65533) (does_of_tree names (dsH_tree s) ?_)
    simp only [dsHTree, Tree.ok, hn0, hi0, hb256, Int.toNat_natCast, firstAt, isInt, pvInt, Bool.and_true, Bool.false_eq_true, Bool.true_eq_false, false_implies, true_implies, true_and, and_true, e0]
    first | rfl | exact ⟨rfl, rfl⟩ | exact ⟨rfl, rfl, rfl⟩
  have e0 : decide ((s.data.toList.length : Int) < 4) = false := decide_eq_false (by omega)
  have hi1 : inB 1 s.data.toList.length = true := hin 1 (by omega)
  by_cases q1 : byt s 1 < 128
  · have e1 : decide ((byt s 1 : Int) < 128) = true := decide_eq_true (by omega)
    have hs : slw s 4 128 191 = (65533, 1) := by unfold slw Lib.slowN; rw [if_neg q0, if_pos (.inl q1)]
    rw [hs]
    refine junk_of (r := 65533) (does_of_tree names (dsH_tree s) ?_)
    simp only [dsHTree, Tree.ok, hn0, hi0, hb256, Int.toNat_natCast, firstAt, isInt, pvInt, Bool.and_true, Bool.false_eq_true, Bool.true_eq_false, false_implies, true_implies, true_and, and_true, e0, e1, hi1]
    first | rfl | exact ⟨rfl, rfl⟩ | exact ⟨rfl, rfl, rfl⟩
  have e1 : decide ((byt s 1 : Int) < 128) = false := decide_eq_false (by omega)
  by_cases q2 : 191 < byt s 1
  · have e2 : decide (191 < (byt s 1 : Int)) = true := decide_eq_true (by omega)
    have hs : slw s 4 128 191 = (65533, 1) := by unfold slw Lib.slowN; rw [if_neg q0, if_pos (.inr q2)]
    rw [hs]
    refine junk_of (r := 65533) (does_of_tree names (dsH_tree s) ?_)
    simp only [dsHTree, Tree.ok, hn0, hi0, hb256, Int.toNat_natCast, firstAt, isInt, pvInt, Bool.and_true, Bool.false_eq_true, Bool.true_eq_false, false_implies, true_implies, true_and, and_true, e0, e1, e2, hi1]
    first | rfl | exact ⟨rfl, rfl⟩ | exact ⟨rfl, rfl, rfl⟩
  have e2 : decide (191 < (byt s 1 : Int)) = false := decide_eq_false (by omega)
  have hi2 : inB 2 s.data.toList.length = true := hin 2 (by omega)
  by_cases q3 : byt s 2 < 128
  · have e3 : decide ((byt s 2 : Int) < 128) = true := decide_eq_true (by omega)
    have hs : slw s 4 128 191 = (65533, 1) := by unfold slw Lib.slowN; rw [if_neg q0, if_neg (not_or.2 ⟨q1, q2⟩), if_neg (by decide), if_pos (.inl q3)]
    rw [hs]
    refine junk_of (r := 65533) (does_of_tree names (dsH_tree s) ?_)
    simp only [dsHTree, Tree.ok, hn0, hi0, hb256, Int.toNat_natCast, firstAt, isInt, pvInt, Bool.and_true, Bool.false_eq_true, Bool.true_eq_false, false_implies, true_implies, true_and, and_true, e0, e1, e2, e3, hi1, hi2]
    first | rfl | exact ⟨rfl, rfl⟩ | exact ⟨rfl, rfl, rfl⟩
  have e3 : decide ((byt s 2 : Int) < 128) = false := decide_eq_false (by omega)
  by_cases q4 : 191 < byt s 2
  · have e4 : decide (191 < (byt s 2 : Int)) = true := decide_eq_true (by omega)
    have hs : slw s 4 128 191 = (65533, 1) := by unfold slw Lib.slowN; rw [if_neg q0, if_neg (not_or.2 ⟨q1, q2⟩), if_neg (by decide), if_pos (.inr q4)]
    rw [hs]
    refine junk_of (r := 65533) (does_of_tree names (dsH_tree s) ?_)
    simp only [dsHTree, Tree.ok, hn0, hi0, hb256, Int.toNat_natCast, firstAt, isInt, pvInt, Bool.and_true, Bool.false_eq_true, Bool.true_eq_false, false_implies, true_implies, true_and, and_true, e0, e1, e2, e3, e4, hi1, hi2]
    first | rfl | exact ⟨rfl, rfl⟩ | exact ⟨rfl, rfl, rfl⟩
  have e4 : decide (191 < (byt s 2 : Int)) = false := decide_eq_false (by omega)
  have hi3 : inB 3 s.data.toList.length = true := hin 3 (by omega)
  by_cases q5 : byt s 3 < 128
  · have e5 : decide ((byt s 3 : Int) < 128) = true := decide_eq_true (by omega)
    have hs : slw s 4 128 191 = (65533, 1) := by unfold slw Lib.slowN; rw [if_neg q0, if_neg (not_or.2 ⟨q1, q2⟩), if_neg (by decide), if_neg (not_or.2 ⟨q3, q4⟩), if_neg (by decide), if_pos (.inl q5)]
    rw [hs]
    refine junk_of (r := 65533) (does_of_tree names (dsH_tree s) ?_)
    simp only [dsHTree, Tree.ok, hn0, hi0, hb256, Int.toNat_natCast, firstAt, isInt, pvInt, Bool.and_true, Bool.false_eq_true, Bool.true_eq_false, false_implies, true_implies, true_and, and_true, e0, e1, e2, e3, e4, e5, hi1, hi2, hi3]
    first | rfl | exact ⟨rfl, rfl⟩ | exact ⟨rfl, rfl, rfl⟩
  have e5 : decide ((byt s 3 : Int) < 128) = false := decide_eq_false (by omega)
  by_cases q6 : 191 < byt s 3
  · have e6 : decide (191 < (byt s 3 : Int)) = true := decide_eq_true (by omega)
    have hs : slw s 4 128 191 = (65533, 1) := by unfold slw Lib.slowN; rw [if_neg q0, if_neg (not_or.2 ⟨q1, q2⟩), if_neg (by decide), if_neg (not_or.2 ⟨q3, q4⟩), if_neg (by decide), if_pos (.inr q6)]
    rw [hs]
    refine junk_of (r := 65533) (does_of_tree names (dsH_tree s) ?_)
    simp only [dsHTree, Tree.ok, hn0, hi0, hb256, Int.toNat_natCast, firstAt, isInt, pvInt, Bool.and_true, Bool.false_eq_true, Bool.true_eq_false, false_implies, true_implies, true_and, and_true, e0, e1, e2, e3, e4, e5, e6, hi1, hi2, hi3]
    first | rfl | exact ⟨rfl, rfl⟩ | exact ⟨rfl, rfl, rfl⟩
  have e6 : decide (191 < (byt s 3 : Int)) = false := decide_eq_false (by omega)
  have hs : slw s 4 128 191 = (byt s 0 % 8 * 262144 + byt s 1 % 64 * 4096 + byt s 2 % 64 * 64 + byt s 3 % 64, 4) := by unfold slw Lib.slowN; rw [if_neg q0, if_neg (not_or.2 ⟨q1, q2⟩), if_neg (by decide), if_neg (not_or.2 ⟨q3, q4⟩), if_neg (by decide), if_neg (not_or.2 ⟨q5, q6⟩)]
  rw [hs]
  refine junk_of (r := (IntKind.i32.wrap (↑(BitVec.ofInt 32 (IntKind.i32.wrap (↑(BitVec.ofInt 32 (IntKind.i32.wrap (↑(BitVec.ofInt 32 (IntKind.i32.wrap (IntKind.i32.wrap (IntKind.u8.wrap (↑(BitVec.ofInt 8 (↑(s.data.toList.getD 0 0).toNat : Int) &&& BitVec.ofInt 8 7).toNat : Int)) * 262144)) ||| BitVec.ofInt 32 (IntKind.i32.wrap (IntKind.i32.wrap (IntKind.u8.wrap (↑(BitVec.ofInt 8 (↑(s.data.toList.getD 1 0).toNat : Int) &&& BitVec.ofInt 8 63).toNat : Int)) * 4096))).toNat : Int)) ||| BitVec.ofInt 32 (IntKind.i32.wrap (IntKind.i32.wrap (IntKind.u8.wrap (↑(BitVec.ofInt 8 (↑(s.data.toList.getD 2 0).toNat : Int) &&& BitVec.ofInt 8 63).toNat : Int)) * 64))).toNat : Int)) ||| BitVec.ofInt 32 (IntKind.i32.wrap (IntKind.u8.wrap (↑(BitVec.ofInt 8 (↑(s.data.toList.getD 3 0).toNat : Int) &&& BitVec.ofInt 8 63).toNat : Int)))).toNat : Int))) (does_of_tree names (dsH_tree s) ?_)
  simp only [dsHTree, Tree.ok, hn0, hi0, hb256, Int.toNat_natCast, firstAt, isInt, pvInt, Bool.and_true, Bool.false_eq_true, Bool.true_eq_false, false_implies, true_implies, true_and, and_true, e0, e1, e2, e3, e4, e5, e6, hi1, hi2, hi3]
  first | rfl | exact ⟨rfl, rfl⟩ | exact ⟨rfl, rfl, rfl⟩

theorem firstI (b : Nat) (h : b = 244) : firstP.getD b .bad = .sc (.int .u8 68) := by
  have hb : b < 256 := by omega
  have h : b ∈ (List.range 256).filter (fun b => decide (b = 244)) := List.mem_filter.2 ⟨List.mem_range.2 (by omega), decide_eq_true h⟩
  have hall : ∀ b ∈ (List.range 256).filter (fun b => decide (b = 244)), firstZ.getD b 0 = 68 := by decide +kernel
  rw [firstP_get hb, hall b h]

theorem dsI_does (h0 : 0 < s.data.toList.length) (hb : byt s 0 = 244) : Does Tryd.prog env 55 [.p (.sc (.string s))] [] (.tup [.junk, sI .i64 ((slw s 4 128 143).2 : Nat)]) [] := by
  have firstAt : firstP.getD (0 + (s.data.toList.getD 0 0).toNat * 1) .bad = .sc (.int .u8 68) := by rw [Nat.zero_add, Nat.mul_one]; exact firstI (byt s 0) hb
  have hn0 : decide ((s.data.toList.length : Int) < 1) = false := decide_eq_false (by omega)
  have hin : ∀ j : Nat, j < s.data.toList.length → inB (j : Int) s.data.toList.length = true := fun j h => by simp only [inB, Bool.and_eq_true, decide_eq_true_eq]; omega
  have hi0 : inB 0 s.data.toList.length = true := hin 0 h0
  have hb256 : inB (byt s 0 : Int) 256 = true := by simp only [inB, Bool.and_eq_true, decide_eq_true_eq]; omega
  by_cases q0 : s.data.toList.length < 4
  · have e0 : decide ((s.data.toList.length : Int) < 4) = true := decide_eq_true (by omega)
    have hs : slw s 4 128 143 = (65533, 1) := by unfold slw Lib.slowN; rw [if_pos q0]
    rw [hs]
    refine junk_of (r := 65533) (does_of_tree names (dsI_tree s) ?_)
    simp only [dsITree, Tree.ok, hn0, hi0, hb256, Int.toNat_natCast, firstAt, isInt, pvInt, Bool.and_true, Bool.false_eq_true, Bool.true_eq_false, false_implies, true_implies, true_and, and_true, e0]
    first | rfl | exact ⟨rfl, rfl⟩ | exact ⟨rfl, rfl, rfl⟩
  have e0 : decide ((s.data.toList.length : Int) < 4) = false := decide_eq_false (by omega)
  have hi1 : inB 1 s.data.toList.length = true := hin 1 (by omega)
  by_cases q1 : byt s 1 < 128
  · have e1 : decide ((byt s 1 : Int) < 128) = true := decide_eq_true (by omega)
    have hs : slw s 4 128 143 = (65533, 1) := by unfold slw Lib.slowN; rw [if_neg q0, if_pos (.inl q1)]
    rw [hs]
    refine junk_of (r := 65533) (does_of_tree names (dsI_tree s) ?_)
    simp only [dsITree, Tree.ok, hn0, hi0, hb256, Int.toNat_natCast, firstAt, isInt, pvInt, Bool.and_true, Bool.false_eq_true, Bool.true_eq_false, false_implies, true_implies, true_and, and_true, e0, e1, hi1]
    first | rfl | exact ⟨rfl, rfl⟩ | exact ⟨rfl, rfl, rfl⟩
  have e1 : decide ((byt s 1 : Int) < 128) = false := decide_eq_false (by omega)
  by_cases q2 : 143 < byt s 1
  · have e2 : decide (143 < (byt s 1 : Int)) = true := decide_eq_true (by omega)
    have hs : slw s 4 128 143 = (65533, 1) := by unfold slw Lib.slowN; rw [if_neg q0, if_pos (.inr q2)]
    rw [hs]
    refine junk_of (r := 65533) (does_of_tree names (dsI_tree s) ?_)
    simp only [dsITree, Tree.ok, hn0, hi0, hb256, Int.toNat_natCast, firstAt, isInt, pvInt, Bool.and_true, Bool.false_eq_true, Bool.true_eq_false, false_implies, true_implies, true_and, and_true, e0, e1, e2, hi1]
    first | rfl | exact ⟨rfl, rfl⟩ | exact ⟨rfl, rfl, rfl⟩
  have e2 : decide (143 < (byt s 1 : Int)) = false := decide_eq_false (by omega)
  have hi2 : inB 2 s.data.toList.length = true := hin 2 (by omega)
  by_cases q3 : byt s 2 < 128
  · have e3 : decide ((byt s 2 : Int) < 128) = true := decide_eq_true (by omega)
    have hs : slw s 4 128 143 = (65533, 1) := by unfold slw Lib.slowN; rw [if_neg q0, if_neg (not_or.2 ⟨q1, q2⟩), if_neg (by decide), if_pos (.inl q3)]
    rw [hs]
    refine junk_of (r := 65533) (does_of_tree names (dsI_tree s) ?_)
    simp only [dsITree, Tree.ok, hn0, hi0, hb256, Int.toNat_natCast, firstAt, isInt, pvInt, Bool.and_true, Bool.false_eq_true, Bool.true_eq_false, false_implies, true_implies, true_and, and_true, e0, e1, e2, e3, hi1, hi2]
    first | rfl | exact ⟨rfl, rfl⟩ | exact ⟨rfl, rfl, rfl⟩
  have e3 : decide ((byt s 2 : Int) < 128) = false := decide_eq_false (by omega)
  by_cases q4 : 191 < byt s 2
  · have e4 : decide (191 < (byt s 2 : Int)) = true := decide_eq_true (by omega)
    have hs : slw s 4 128 143 = (65533, 1) := by unfold slw Lib.slowN; rw [if_neg q0, if_neg (not_or.2 ⟨q1, q2⟩), if_neg (by decide), if_pos (.inr q4)]
    rw [hs]
    refine junk_of (r := 65533) (does_of_tree names (dsI_tree s) ?_)
    simp only [dsITree, Tree.ok, hn0, hi0, hb256, Int.toNat_natCast, firstAt, isInt, pvInt, Bool.and_true, Bool.false_eq_true, Bool.true_eq_false, false_implies, true_implies, true_and, and_true, e0, e1, e2, e3, e4, hi1, hi2]
    first | rfl | exact ⟨rfl, rfl⟩ | exact ⟨rfl, rfl, rfl⟩
  have e4 : decide (191 < (byt s 2 : Int)) = false := decide_eq_false (by omega)
  have hi3 : inB 3 s.data.toList.length = true := hin 3 (by omega)
  by_cases q5 : byt s 3 < 128
  · have e5 : decide ((byt s 3 : Int) < 128) = true := decide_eq_true (by omega)
    have hs : slw s 4 128 143 = (65533, 1) := by unfold slw Lib.slowN; rw [if_neg q0, if_neg (not_or.2 ⟨q1, q2⟩), if_neg (by decide), if_neg (not_or.2 ⟨q3, q4⟩), if_neg (by decide), if_pos (.inl q5)]
    rw [hs]
    refine junk_of (r := 65533) (does_of_tree names (dsI_tree s) ?_)
    simp only [dsITree, Tree.ok, hn0, hi0, hb256, Int.toNat_natCast, firstAt, isInt, pvInt, Bool.and_true, Bool.false_eq_true, Bool.true_eq_false, false_implies, true_implies, true_and, and_true, e0, e1, e2, e3, e4, e5, hi1, hi2, hi3]
    first | rfl | exact ⟨rfl, rfl⟩ | exact ⟨rfl, rfl, rfl⟩
  have e5 : decide ((byt s 3 : Int) < 128) = false := decide_eq_false (by omega)
  by_cases q6 : 191 < byt s 3
  · have e6 : decide (191 < (byt s 3 : Int)) = true := decide_eq_true (by omega)
    have hs : slw s 4 128 143 = (65533, 1) := by unfold slw Lib.slowN; rw [if_neg q0, if_neg (not_or.2 ⟨q1, q2⟩), if_neg (by decide), if_neg (not_or.2 ⟨q3, q4⟩), if_neg (by decide), if_pos (.inr q6)]
    rw [hs]
    refine junk_of (r := 65533) (does_of_tree names (dsI_tree s) ?_)
    simp only [dsITree, Tree.ok, hn0, hi0, hb256, Int.toNat_natCast, firstAt, isInt, pvInt, Bool.and_true, Bool.false_eq_true, Bool.true_eq_false, false_implies, true_implies, true_and, and_true, e0, e1, e2, e3, e4, e5, e6, hi1, hi2, hi3]
    first | rfl | exact ⟨rfl, rfl⟩ | exact ⟨rfl, rfl, rfl⟩
  have e6 : decide (191 < (byt s 3 : Int)) = false := decide_eq_false (by omega)
  have hs : slw s 4 128 143 = (byt s 0 % 8 * 262144 + byt s 1 % 64 * 4096 + byt s 2 % 64 * 64 + byt s 3 % 64, 4) := by unfold slw Lib.slowN; rw [if_neg q0, if_neg (not_or.2 ⟨q1, q2⟩), if_neg (by decide), if_neg (not_or.2 ⟨q3, q4⟩), if_neg (by decide), if_neg (not_or.2 ⟨q5, q6⟩)]
  rw [hs]
  refine junk_of (r := (IntKind.i32.wrap (↑(BitVec.ofInt 32 (IntKind.i32.wrap (↑(BitVec.ofInt 32 (IntKind.i32.wrap (↑(BitVec.ofInt 32 (IntKind.i32.wrap (IntKind.i32.wrap (IntKind.u8.wrap (↑(BitVec.ofInt 8 (↑(s.data.toList.getD 0 0).toNat : Int) &&& BitVec.ofInt 8 7).toNat : Int)) * 262144)) ||| BitVec.ofInt 32 (IntKind.i32.wrap (IntKind.i32.wrap (IntKind.u8.wrap (↑(BitVec.ofInt 8 (↑(s.data.toList.getD 1 0).toNat : Int) &&& BitVec.ofInt 8 63).toNat : Int)) * 4096))).toNat : Int)) ||| BitVec.ofInt 32 (IntKind.i32.wrap (IntKind.i32.wrap (IntKind.u8.wrap (↑(BitVec.ofInt 8 (↑(s.data.toList.getD 2 0).toNat : Int) &&& BitVec.ofInt 8 63).toNat : Int)) * 64))).toNat : Int)) ||| BitVec.ofInt 32 (IntKind.i32.wrap (IntKind.u8.wrap (↑(BitVec.ofInt 8 (↑(s.data.toList.getD 3 0).toNat : Int) &&& BitVec.ofInt 8 63).toNat : Int)))).toNat : Int))) (does_of_tree names (dsI_tree s) ?_)
  simp only [dsITree, Tree.ok, hn0, hi0, hb256, Int.toNat_natCast, firstAt, isInt, pvInt, Bool.and_true, Bool.false_eq_true, Bool.true_eq_false, false_implies, true_implies, true_and, and_true, e0, e1, e2, e3, e4, e5, e6, hi1, hi2, hi3]
  first | rfl | exact ⟨rfl, rfl⟩ | exact ⟨rfl, rfl, rfl⟩

theorem bad_lead (n b0 b1 b2 b3 : Nat) (h : 128 ≤ b0 ∧ b0 < 194 ∨ 245 ≤ b0 ∧ b0 < 256) : (Lib.decodeN n b0 b1 b2 b3).2 = 1 := by
  unfold Lib.decodeN
  repeat' split
  all_goals first | rfl | omega

abbrev dcn : Nat × Nat := Lib.decodeN s.data.toList.length (byt s 0) (byt s 1) (byt s 2) (byt s 3)

theorem slow_does (h0 : 0 < s.data.toList.length) (hb : 128 ≤ byt s 0) : Does Tryd.prog env 55 [.p (.sc (.string s))] [] (.tup [.junk, sI .i64 ((dcn s).2 : Nat)]) [] := by
  have a0 := byt_lt s 0
  have a1 := byt_lt s 1
  have a2 := byt_lt s 2
  have a3 := byt_lt s 3
  by_cases cB : 128 ≤ byt s 0 ∧ byt s 0 < 194 ∨ 245 ≤ byt s 0 ∧ byt s 0 < 256
  · rw [dcn, bad_lead _ _ _ _ _ cB]; exact dsB_does s h0 cB
  by_cases cC : 194 ≤ byt s 0 ∧ byt s 0 < 224
  · rw [dcn, ← Lib.slow_C2 _ _ _ _ _ h0 a1 a2 a3 cC]; exact dsC_does s h0 cC
  by_cases cD : byt s 0 = 224
  · rw [dcn, ← Lib.slow_E0 _ _ _ _ _ h0 a1 a2 a3 cD]; exact dsD_does s h0 cD
  by_cases cE : 225 ≤ byt s 0 ∧ byt s 0 < 237 ∨ 238 ≤ byt s 0 ∧ byt s 0 < 240
  · rw [dcn, ← Lib.slow_E1 _ _ _ _ _ h0 a1 a2 a3 cE]; exact dsE_does s h0 cE
  by_cases cF : byt s 0 = 237
  · rw [dcn, ← Lib.slow_ED _ _ _ _ _ h0 a1 a2 a3 cF]; exact dsF_does s h0 cF
  by_cases cG : byt s 0 = 240
  · rw [dcn, ← Lib.slow_F0 _ _ _ _ _ h0 a1 a2 a3 cG]; exact dsG_does s h0 cG
  by_cases cH : 241 ≤ byt s 0 ∧ byt s 0 < 244
  · rw [dcn, ← Lib.slow_F1 _ _ _ _ _ h0 a1 a2 a3 cH]; exact dsH_does s h0 cH
  · have cI : byt s 0 = 244 := by omega
    rw [dcn, ← Lib.slow_F4 _ _ _ _ _ h0 a1 a2 a3 cI]; exact dsI_does s h0 cI

theorem first_does (h0 : 0 < s.data.toList.length) : Does Tryd.prog env 51 [.p (.sc (.string s))] [] (.tup [.junk, sI .i64 ((dcn s).2 : Nat)]) [] := by
  have he : (s.data.toList == (ByteArray.mk #[]).data.toList) = false := by
    cases h : s.data.toList with
    | nil => rw [h] at h0; cases h0
    | cons a r => rfl
  have hi0 : inB 0 s.data.toList.length = true := by simp only [inB, Bool.and_eq_true, decide_eq_true_eq]; omega
  by_cases hb : byt s 0 < 128
  · have e : decide ((byt s 0 : Int) < 128) = true := decide_eq_true (by omega)
    have hd : (dcn s).2 = 1 := by unfold dcn Lib.decodeN; rw [if_pos hb]
    rw [hd]
    refine junk_of (r := IntKind.i32.wrap (byt s 0 : Nat)) (does_of_tree names (drn_tree s 0) ?_)
    simp only [drnTree, Tree.ok, he, hi0, e, Bool.not_false, Bool.and_true, Bool.false_eq_true, Bool.true_eq_false, false_implies, true_implies, true_and, and_true]
    first | rfl | trivial
  · have e : decide ((byt s 0 : Int) < 128) = false := decide_eq_false (by omega)
    refine does_of_tree names (drn_tree s ((dcn s).2 : Nat)) ?_
    simp only [drnTree, Tree.ok, he, hi0, e, Bool.not_false, Bool.and_true, Bool.false_eq_true, Bool.true_eq_false, false_implies, true_implies, true_and, and_true]
    exact slow_does s h0 (by omega)

end

theorem dec_pos (s : ByteArray) (i : Nat) : 1 ≤ (Utf8.decode s i).2 := by
  rw [Lib.decode_at]
  unfold Lib.decodeN
  repeat' split
  all_goals simp

theorem extract_list (s : ByteArray) (i : Nat) : (s.extract i s.data.toList.length).data.toList = s.data.toList.drop i := by
  simp only [ByteArray.data_extract, Array.toList_extract, List.extract_eq_take_drop]
  rw [List.take_of_length_le]
  rw [List.length_drop]
  exact Nat.le_refl _

theorem get_bang (s : ByteArray) (j : Nat) : s.get! j = s.data.toList.getD j 0 := by
  obtain ⟨d⟩ := s
  show d[j]! = d.toList.getD j 0
  rw [Array.getElem!_eq_getD, List.getD_eq_getElem?_getD, Array.getElem?_toList]
  by_cases h : j < d.size
  · simp [Array.getD, h]
  · simp [Array.getD, h]; rfl

theorem dec_rest (s : ByteArray) (i : Nat) : dcn (s.extract i s.data.toList.length) = Utf8.decode s i := by
  have g : ∀ j, (s.get! (i + j)).toNat = byt (s.extract i s.data.toList.length) j := fun j => by
    rw [get_bang, byt, extract_list, List.getD_eq_getElem?_getD, List.getD_eq_getElem?_getD, List.getElem?_drop]
  have g0 := g 0
  rw [Nat.add_zero] at g0
  rw [Lib.decode_at, dcn, g0, g 1, g 2, g 3, extract_list, List.length_drop]
  rfl

def badN (s : ByteArray) : Nat → Nat → Int
  | 0, _ => -1
  | k + 1, i => if i < s.size then (if (Utf8.decode s i).1 = 65533 ∧ (Utf8.decode s i).2 = 1 then i else badN s k (i + (Utf8.decode s i).2)) else -1
def badF (s : ByteArray) : Int := badN s (s.size + 1) 0

noncomputable abbrev blCfg (s : ByteArray) (k : ObK) : Cfg := bodyCfg Tryd.prog env 37 0 [.p (.sc (.string s)), .mp 0 0] [.ob k []] 0 28
theorem bl_mem (s : ByteArray) (i : Nat) : (blCfg s (.iter s i)).st.mem = [.ob (.iter s i) []] := by kernel_rfl
theorem bl_code (s : ByteArray) (i : Nat) : inCode (blCfg s (.iter s i)) = true := by kernel_rfl
theorem bl_more (s : ByteArray) (i : Nat) (b : Bool) : ({ blCfg s (.iter s i) with st := { (blCfg s (.iter s i)).st with mem := [.ob (.itk s i b) []] } } : Cfg) = blCfg s (.itk s i b) := by kernel_rfl

theorem bl_next (s : ByteArray) (i : Nat) (o : Out) (h : Am.Good Tryd.prog env (blCfg s (.itk s i (Nat.blt i s.size))) o) : Am.Good Tryd.prog env (blCfg s (.iter s i)) o := by
  rw [← bl_more] at h
  have e1 := bl_mem s i
  have e2 := bl_code s i
  generalize blCfg s (.iter s i) = c at h e1 e2 ⊢
  exact Go.Am.Good.more e1 e2 h

theorem bad_all (s : ByteArray) (hs : s.size ≤ maxLen) : ∀ (k i : Nat), s.size + 1 ≤ i + k →
    Am.Good Tryd.prog env (bodyCfg Tryd.prog env 37 0 [.p (.sc (.string s)), .mp 0 0] [.ob (.iter s i) []] 0 28) (.ret (sI .i64 (badN s k i)) []) := by
  intro k
  induction k with
  | zero =>
    intro i hi
    refine bl_next s i _ ?_
    have hb : Nat.blt i s.size = false := by cases h : Nat.blt i s.size with | false => rfl | true => rw [Nat.blt_eq] at h; omega
    rw [hb]
    exact good_of_tree names (bdf_tree s i 0) rfl
  | succ k ih =>
    intro i hi
    refine bl_next s i _ ?_
    by_cases hlt : i < s.size
    · have hb : Nat.blt i s.size = true := by rw [Nat.blt_eq]; exact hlt
      have hp := dec_pos s i
      have hn : s.data.toList.length = s.size := Array.length_toList
      have hc := first_does (s.extract i s.data.toList.length) (by rw [extract_list, List.length_drop]; omega)
      rw [dec_rest] at hc
      rw [hb]
      refine good_of_tree names (bdl_tree s i ((Utf8.decode s i).2 : Nat)) ?_
      have next := ih (i + (Utf8.decode s i).2) (by omega)
      simp only [bdlTree, Tree.ok, Int.toNat_natCast, badN, if_pos hlt]
      refine ⟨fun q => ?_, fun q => ⟨?_, hc, fun r => ?_, fun r => ?_⟩⟩
      · have q : (Utf8.decode s i).1 ≠ 65533 := fun h => by rw [h] at q; exact absurd q (by decide)
        rw [if_neg (fun h => q h.1)]
        exact next
      · simp only [Bool.and_true, Bool.and_eq_true, Nat.ble_eq]; omega
      · have q : (Utf8.decode s i).1 = 65533 := by simp only [bne_eq_false_iff_eq] at q; omega
        have r : (Utf8.decode s i).2 = 1 := by simp only [beq_iff_eq] at r; omega
        rw [if_pos ⟨q, r⟩]
      · have r : (Utf8.decode s i).2 ≠ 1 := fun h => by rw [h] at r; exact absurd r (by decide)
        rw [if_neg (fun h => r h.2)]
        exact next
    · have hb : Nat.blt i s.size = false := by cases h : Nat.blt i s.size with | false => rfl | true => rw [Nat.blt_eq] at h; omega
      rw [hb]
      refine good_of_tree names (bdf_tree s i 0) ?_
      simp only [bdfTree, Tree.ok, badN, if_neg hlt]

theorem ofByte_bytes (s : ByteArray) : ByteArray.mk ((s.data.toList.map ofByte).map Am.byteOf).toArray = s := by
  have h : (Am.byteOf ∘ ofByte) = id := funext fun b => by
    show UInt8.ofNat ((b.toNat : Int)).toNat = b
    simp
  rw [List.map_map, h, List.map_id]

theorem all_byte (l : List UInt8) : (l.map ofByte).all isByte = true := by
  rw [List.all_map, List.all_eq_true]
  intro b _
  rfl

theorem nbad_does (s : ByteArray) (hs : s.size ≤ maxLen) : Does Tryd.prog env 37 [.p (.ps s.data.toList.length 1 (s.data.toList.map ofByte))] [] (sI .i64 (badF s)) [] := by
  refine does_of_tree names (bad_tree s.data.toList.length (s.data.toList.map ofByte)) ?_
  simp only [badTree, Tree.ok, ofByte_bytes]
  exact ⟨by rw [all_byte]; rfl, bad_all s hs (s.size + 1) 0 (by omega)⟩

end Go.Proofs.YtdmmllcjgjmbbaaDoor.N
end
