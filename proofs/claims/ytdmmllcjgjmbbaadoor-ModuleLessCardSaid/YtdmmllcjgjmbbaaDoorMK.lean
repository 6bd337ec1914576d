/-
  What module.Check looks for in a module's lists.
-/
import Derived.Test.YtdmmllcjgjmbbaaDoorMI
import Derived.Test.YtdmmllcjgjmbbaaDoorMJ

section
set_option linter.unusedSimpArgs false
set_option linter.unusedVariables false
namespace Go.Proofs.YtdmmllcjgjmbbaaDoor.N
open Go Go.Am

def ixEC (k i : Nat) (cs : List PV) (ok : Bool) (f : FuncId) (_ : List AV) (m : Mem) : Option (AV × Mem) := cond (Nat.beq f 23) (some (sB ok, m)) none
def ixLC (k i : Nat) (cs : List PV) (ok : Bool) (f : FuncId) (_ : List AV) (m : Mem) : Option (AV × Mem) := cond (Nat.beq f 27) (some (sB ok, m)) none
def ixNC (k i : Nat) (cs : List PV) (ok : Bool) (f : FuncId) (_ : List AV) (m : Mem) : Option (AV × Mem) := cond (Nat.beq f 36) (some (sB ok, m)) none
def ixTC (k i : Nat) (cs : List PV) (ok : Bool) (f : FuncId) (_ : List AV) (m : Mem) : Option (AV × Mem) := cond (Nat.beq f 29) (some (sB ok, m)) none
def ixIC (k i : Nat) (cs : List PV) (ok : Bool) (f : FuncId) (_ : List AV) (m : Mem) : Option (AV × Mem) := cond (Nat.beq f 32) (some (sB ok, m)) none
def ixFC (k i : Nat) (cs : List PV) (ok : Bool) (f : FuncId) (_ : List AV) (m : Mem) : Option (AV × Mem) := cond (Nat.beq f 35) (some (sB ok, m)) none
def ixAC (k i : Nat) (cs : List PV) (ok : Bool) (f : FuncId) (_ : List AV) (m : Mem) : Option (AV × Mem) := cond (Nat.beq f 39) (some (sB ok, m)) none
def ixBC (k i : Nat) (cs : List PV) (ok : Bool) (f : FuncId) (_ : List AV) (m : Mem) : Option (AV × Mem) := cond (Nat.beq f 41) (some (sB ok, m)) none
def ixXC (k i : Nat) (cs : List PV) (ok : Bool) (f : FuncId) (_ : List AV) (m : Mem) : Option (AV × Mem) := cond (Nat.beq f 43) (some (sB ok, m)) none
def cfEC (k : Nat) (cs : List PV) (r : Int) (f : FuncId) (_ : List AV) (m : Mem) : Option (AV × Mem) := cond (Nat.beq f 45) (some (sI .i64 r, m)) none
def cfLC (k : Nat) (cs : List PV) (r : Int) (f : FuncId) (_ : List AV) (m : Mem) : Option (AV × Mem) := cond (Nat.beq f 47) (some (sI .i64 r, m)) none
def cfNC (k : Nat) (cs : List PV) (r : Int) (f : FuncId) (_ : List AV) (m : Mem) : Option (AV × Mem) := cond (Nat.beq f 47) (some (sI .i64 r, m)) none
def cfTC (k : Nat) (cs : List PV) (r : Int) (f : FuncId) (_ : List AV) (m : Mem) : Option (AV × Mem) := cond (Nat.beq f 48) (some (sI .i64 r, m)) none
def cfIC (k : Nat) (cs : List PV) (r : Int) (f : FuncId) (_ : List AV) (m : Mem) : Option (AV × Mem) := cond (Nat.beq f 49) (some (sI .i64 r, m)) none
def cfFC (k : Nat) (cs : List PV) (r : Int) (f : FuncId) (_ : List AV) (m : Mem) : Option (AV × Mem) := cond (Nat.beq f 50) (some (sI .i64 r, m)) none
def cfAC (k : Nat) (cs : List PV) (r : Int) (f : FuncId) (_ : List AV) (m : Mem) : Option (AV × Mem) := cond (Nat.beq f 52) (some (sI .i64 r, m)) none
def cfBC (k : Nat) (cs : List PV) (r : Int) (f : FuncId) (_ : List AV) (m : Mem) : Option (AV × Mem) := cond (Nat.beq f 52) (some (sI .i64 r, m)) none
def cfXC (k : Nat) (cs : List PV) (r : Int) (f : FuncId) (_ : List AV) (m : Mem) : Option (AV × Mem) := cond (Nat.beq f 17) (some (sI .i64 r, m)) none
def clNC (s : ByteArray) (r : Int) (f : FuncId) (_ : List AV) (m : Mem) : Option (AV × Mem) := cond (Nat.beq f 37) (some (sI .i64 r, m)) none
def clTC (x : Ty) (e : Int) (f : FuncId) (_ : List AV) (m : Mem) : Option (AV × Mem) := cond (Nat.beq f 30) (some (sI .i64 e, m)) none
def clAC (x : Li) (e : Int) (f : FuncId) (_ : List AV) (m : Mem) : Option (AV × Mem) := cond (Nat.beq f 40) (some (sI .i64 e, m)) none
def liC (M : Mo) (e : Int) (n : Nat) (cs : List PV) (f : FuncId) (_ : List AV) (m : Mem) : Option (AV × Mem) := cond (Nat.beq f 19) (some (.p (.ps n 1 cs), m)) none
def liLC (e : Int) (k i : Nat) (cs : List PV) (r : Int) (f : FuncId) (_ : List AV) (m : Mem) : Option (AV × Mem) := cond (Nat.beq f 46) (some (sI .i64 r, m)) none
def loC (M : Mo) (k i : Nat) (left : Int) (cs : List PV) (n : Nat) (ns : List PV) (lg : Bool) (f : FuncId) (_ : List AV) (m : Mem) : Option (AV × Mem) := cond (Nat.beq f 26) (some (.p (.ps n 1 ns), m)) (cond (Nat.beq f 25) (some (sB lg, m)) none)
def maC (M : Mo) (b : Bool) (e : Int) (f : FuncId) (_ : List AV) (m : Mem) : Option (AV × Mem) := cond (Nat.beq f 22) (some (sB b, m)) (cond (Nat.beq f 24) (some (sI .i64 e, m)) none)
def mcC (M : Mo) (a b c : Int) (fn : FuncId) (_ : List AV) (m : Mem) : Option (AV × Mem) := cond (Nat.beq fn 14) (some (sI .i64 a, m)) (cond (Nat.beq fn 15) (some (sI .i64 b, m)) (cond (Nat.beq fn 16) (some (sI .i64 c, m)) none))
noncomputable def ixEsOrc : Orc := orcL noCall noLed [(45, 0)] [] []
def ixEsSc : Sc := .fin
noncomputable def ixEsTree (k : Nat) (cs : List PV) : Tree :=
 (.at (bodyCfg Tryd.prog env 45 0 [.p (.ps k 2 cs), .fn (Fn.func 23) [] [], sI .i64 (↑k : Int), sI .i64 0] ([]) 0 19))
theorem ixEs_tree (k : Nat) (cs : List PV) : growF Tryd.prog env ixEsOrc 1000000 45 ([AV.p (PV.ps k 2 cs), AV.fn (Fn.func 23) [] []]) ([]) ixEsSc = ixEsTree k cs := by kernel_rfl

noncomputable def ixEOrc (k : Nat) (i : Nat) (cs : List PV) (ok : Bool) : Orc := orcL (ixEC k i cs ok) noLed [(45, 0)] [(45, 0, 1), (45, 0, 2)] [(45, 5, 3), (45, 5, 4)]
def ixESc : Sc := .fin
noncomputable def ixETree (k : Nat) (i : Nat) (cs : List PV) (ok : Bool) : Tree :=
 (.test (decide ((↑i : Int) < (↑k : Int)))
 (.must (inB (↑i : Int) k && true && true)
 (.must (isPs (cs.getD ((↑i : Int).toNat * 2) PV.bad) && (isPs (cs.getD ((↑i : Int).toNat * 2 + 1) PV.bad) && true) && true)
 (.call ⟨23, [.agg [.p (.ps (psLen (cs.getD ((↑i : Int).toNat * 2) PV.bad)) (psSz (cs.getD ((↑i : Int).toNat * 2) PV.bad)) (psCells (cs.getD ((↑i : Int).toNat * 2) PV.bad))), .p (.ps (psLen (cs.getD ((↑i : Int).toNat * 2 + 1) PV.bad)) (psSz (cs.getD ((↑i : Int).toNat * 2 + 1) PV.bad)) (psCells (cs.getD ((↑i : Int).toNat * 2 + 1) PV.bad)))]], [], .p (.sc (.bool ok)), []⟩
 (.test (ok)
 (.out (.ret (sI .i64 (↑i : Int)) []))
 (.at (bodyCfg Tryd.prog env 45 0 [.p (.ps k 2 cs), .fn (Fn.func 23) [] [], sI .i64 (↑k : Int), sI .i64 (IntKind.i64.wrap ((↑i : Int) + 1))] ([]) 0 19))))))
 (.out (.ret (sI .i64 (-1)) [])))
theorem ixE_tree (k : Nat) (i : Nat) (cs : List PV) (ok : Bool) : grow Tryd.prog env (ixEOrc k i cs ok) 1000000 true (bodyCfg Tryd.prog env 45 0 ([AV.p (PV.ps k 2 cs), AV.fn (Fn.func 23) [] [], sI IntKind.i64 (↑k : Int), sI IntKind.i64 (↑i : Int)]) ([]) 0 19) ixESc atEnd = ixETree k i cs ok := by kernel_rfl

noncomputable def ixLsOrc : Orc := orcL noCall noLed [(47, 0)] [] []
def ixLsSc : Sc := .fin
noncomputable def ixLsTree (k : Nat) (cs : List PV) : Tree :=
 (.at (bodyCfg Tryd.prog env 47 0 [.p (.ps k 1 cs), .fn (Fn.func 27) [] [], sI .i64 (↑k : Int), sI .i64 0] ([]) 0 19))
theorem ixLs_tree (k : Nat) (cs : List PV) : growF Tryd.prog env ixLsOrc 1000000 47 ([AV.p (PV.ps k 1 cs), AV.fn (Fn.func 27) [] []]) ([]) ixLsSc = ixLsTree k cs := by kernel_rfl

noncomputable def ixLOrc (k : Nat) (i : Nat) (cs : List PV) (ok : Bool) : Orc := orcL (ixLC k i cs ok) noLed [(47, 0)] [(47, 0, 1), (47, 0, 2)] [(47, 5, 3), (47, 5, 4)]
def ixLSc : Sc := .fin
noncomputable def ixLTree (k : Nat) (i : Nat) (cs : List PV) (ok : Bool) : Tree :=
 (.test (decide ((↑i : Int) < (↑k : Int)))
 (.must (inB (↑i : Int) k && true && true)
 (.must (isStr (cs.getD ((↑i : Int).toNat * 1) PV.bad) && true)
 (.call ⟨27, [.p (.sc (.string (pvStr (cs.getD ((↑i : Int).toNat * 1) PV.bad))))], [], .p (.sc (.bool ok)), []⟩
 (.test (ok)
 (.out (.ret (sI .i64 (↑i : Int)) []))
 (.at (bodyCfg Tryd.prog env 47 0 [.p (.ps k 1 cs), .fn (Fn.func 27) [] [], sI .i64 (↑k : Int), sI .i64 (IntKind.i64.wrap ((↑i : Int) + 1))] ([]) 0 19))))))
 (.out (.ret (sI .i64 (-1)) [])))
theorem ixL_tree (k : Nat) (i : Nat) (cs : List PV) (ok : Bool) : grow Tryd.prog env (ixLOrc k i cs ok) 1000000 true (bodyCfg Tryd.prog env 47 0 ([AV.p (PV.ps k 1 cs), AV.fn (Fn.func 27) [] [], sI IntKind.i64 (↑k : Int), sI IntKind.i64 (↑i : Int)]) ([]) 0 19) ixLSc atEnd = ixLTree k i cs ok := by kernel_rfl

noncomputable def ixNsOrc : Orc := orcL noCall noLed [(47, 0)] [] []
def ixNsSc : Sc := .fin
noncomputable def ixNsTree (k : Nat) (cs : List PV) : Tree :=
 (.at (bodyCfg Tryd.prog env 47 0 [.p (.ps k 1 cs), .fn (Fn.func 36) [] [], sI .i64 (↑k : Int), sI .i64 0] ([]) 0 19))
theorem ixNs_tree (k : Nat) (cs : List PV) : growF Tryd.prog env ixNsOrc 1000000 47 ([AV.p (PV.ps k 1 cs), AV.fn (Fn.func 36) [] []]) ([]) ixNsSc = ixNsTree k cs := by kernel_rfl

noncomputable def ixNOrc (k : Nat) (i : Nat) (cs : List PV) (ok : Bool) : Orc := orcL (ixNC k i cs ok) noLed [(47, 0)] [(47, 0, 1), (47, 0, 2)] [(47, 5, 3), (47, 5, 4)]
def ixNSc : Sc := .fin
noncomputable def ixNTree (k : Nat) (i : Nat) (cs : List PV) (ok : Bool) : Tree :=
 (.test (decide ((↑i : Int) < (↑k : Int)))
 (.must (inB (↑i : Int) k && true && true)
 (.must (isStr (cs.getD ((↑i : Int).toNat * 1) PV.bad) && true)
 (.call ⟨36, [.p (.sc (.string (pvStr (cs.getD ((↑i : Int).toNat * 1) PV.bad))))], [], .p (.sc (.bool ok)), []⟩
 (.test (ok)
 (.out (.ret (sI .i64 (↑i : Int)) []))
 (.at (bodyCfg Tryd.prog env 47 0 [.p (.ps k 1 cs), .fn (Fn.func 36) [] [], sI .i64 (↑k : Int), sI .i64 (IntKind.i64.wrap ((↑i : Int) + 1))] ([]) 0 19))))))
 (.out (.ret (sI .i64 (-1)) [])))
theorem ixN_tree (k : Nat) (i : Nat) (cs : List PV) (ok : Bool) : grow Tryd.prog env (ixNOrc k i cs ok) 1000000 true (bodyCfg Tryd.prog env 47 0 ([AV.p (PV.ps k 1 cs), AV.fn (Fn.func 36) [] [], sI IntKind.i64 (↑k : Int), sI IntKind.i64 (↑i : Int)]) ([]) 0 19) ixNSc atEnd = ixNTree k i cs ok := by kernel_rfl

noncomputable def ixTsOrc : Orc := orcL noCall noLed [(48, 0)] [] []
def ixTsSc : Sc := .fin
noncomputable def ixTsTree (k : Nat) (cs : List PV) : Tree :=
 (.at (bodyCfg Tryd.prog env 48 0 [.p (.ps k 2 cs), .fn (Fn.func 29) [] [], sI .i64 (↑k : Int), sI .i64 0] ([]) 0 19))
theorem ixTs_tree (k : Nat) (cs : List PV) : growF Tryd.prog env ixTsOrc 1000000 48 ([AV.p (PV.ps k 2 cs), AV.fn (Fn.func 29) [] []]) ([]) ixTsSc = ixTsTree k cs := by kernel_rfl

noncomputable def ixTOrc (k : Nat) (i : Nat) (cs : List PV) (ok : Bool) : Orc := orcL (ixTC k i cs ok) noLed [(48, 0)] [(48, 0, 1), (48, 0, 2)] [(48, 5, 3), (48, 5, 4)]
def ixTSc : Sc := .fin
noncomputable def ixTTree (k : Nat) (i : Nat) (cs : List PV) (ok : Bool) : Tree :=
 (.test (decide ((↑i : Int) < (↑k : Int)))
 (.must (inB (↑i : Int) k && true && true)
 (.must (isInt IntKind.i64 (cs.getD ((↑i : Int).toNat * 2) PV.bad) && (isInt IntKind.i64 (cs.getD ((↑i : Int).toNat * 2 + 1) PV.bad) && true) && true)
 (.call ⟨29, [.agg [sI .i64 (pvInt (cs.getD ((↑i : Int).toNat * 2) PV.bad)), sI .i64 (pvInt (cs.getD ((↑i : Int).toNat * 2 + 1) PV.bad))]], [], .p (.sc (.bool ok)), []⟩
 (.test (ok)
 (.out (.ret (sI .i64 (↑i : Int)) []))
 (.at (bodyCfg Tryd.prog env 48 0 [.p (.ps k 2 cs), .fn (Fn.func 29) [] [], sI .i64 (↑k : Int), sI .i64 (IntKind.i64.wrap ((↑i : Int) + 1))] ([]) 0 19))))))
 (.out (.ret (sI .i64 (-1)) [])))
theorem ixT_tree (k : Nat) (i : Nat) (cs : List PV) (ok : Bool) : grow Tryd.prog env (ixTOrc k i cs ok) 1000000 true (bodyCfg Tryd.prog env 48 0 ([AV.p (PV.ps k 2 cs), AV.fn (Fn.func 29) [] [], sI IntKind.i64 (↑k : Int), sI IntKind.i64 (↑i : Int)]) ([]) 0 19) ixTSc atEnd = ixTTree k i cs ok := by kernel_rfl

noncomputable def ixIsOrc : Orc := orcL noCall noLed [(49, 0)] [] []
def ixIsSc : Sc := .fin
noncomputable def ixIsTree (k : Nat) (cs : List PV) : Tree :=
 (.at (bodyCfg Tryd.prog env 49 0 [.p (.ps k 3 cs), .fn (Fn.func 32) [] [], sI .i64 (↑k : Int), sI .i64 0] ([]) 0 19))
theorem ixIs_tree (k : Nat) (cs : List PV) : growF Tryd.prog env ixIsOrc 1000000 49 ([AV.p (PV.ps k 3 cs), AV.fn (Fn.func 32) [] []]) ([]) ixIsSc = ixIsTree k cs := by kernel_rfl

noncomputable def ixIOrc (k : Nat) (i : Nat) (cs : List PV) (ok : Bool) : Orc := orcL (ixIC k i cs ok) noLed [(49, 0)] [(49, 0, 1), (49, 0, 2)] [(49, 5, 3), (49, 5, 4)]
def ixISc : Sc := .fin
noncomputable def ixITree (k : Nat) (i : Nat) (cs : List PV) (ok : Bool) : Tree :=
 (.test (decide ((↑i : Int) < (↑k : Int)))
 (.must (inB (↑i : Int) k && true && true)
 (.must (isStr (cs.getD ((↑i : Int).toNat * 3) PV.bad) && (isStr (cs.getD ((↑i : Int).toNat * 3 + 1) PV.bad) && (isInt IntKind.i64 (cs.getD ((↑i : Int).toNat * 3 + 1 + 1) PV.bad) && true)) && true)
 (.call ⟨32, [.agg [.p (.sc (.string (pvStr (cs.getD ((↑i : Int).toNat * 3) PV.bad)))), .p (.sc (.string (pvStr (cs.getD ((↑i : Int).toNat * 3 + 1) PV.bad)))), sI .i64 (pvInt (cs.getD ((↑i : Int).toNat * 3 + 1 + 1) PV.bad))]], [], .p (.sc (.bool ok)), []⟩
 (.test (ok)
 (.out (.ret (sI .i64 (↑i : Int)) []))
 (.at (bodyCfg Tryd.prog env 49 0 [.p (.ps k 3 cs), .fn (Fn.func 32) [] [], sI .i64 (↑k : Int), sI .i64 (IntKind.i64.wrap ((↑i : Int) + 1))] ([]) 0 19))))))
 (.out (.ret (sI .i64 (-1)) [])))
theorem ixI_tree (k : Nat) (i : Nat) (cs : List PV) (ok : Bool) : grow Tryd.prog env (ixIOrc k i cs ok) 1000000 true (bodyCfg Tryd.prog env 49 0 ([AV.p (PV.ps k 3 cs), AV.fn (Fn.func 32) [] [], sI IntKind.i64 (↑k : Int), sI IntKind.i64 (↑i : Int)]) ([]) 0 19) ixISc atEnd = ixITree k i cs ok := by kernel_rfl

noncomputable def ixFsOrc : Orc := orcL noCall noLed [(50, 0)] [] []
def ixFsSc : Sc := .fin
noncomputable def ixFsTree (k : Nat) (cs : List PV) : Tree :=
 (.at (bodyCfg Tryd.prog env 50 0 [.p (.ps k 3 cs), .fn (Fn.func 35) [] [], sI .i64 (↑k : Int), sI .i64 0] ([]) 0 19))
theorem ixFs_tree (k : Nat) (cs : List PV) : growF Tryd.prog env ixFsOrc 1000000 50 ([AV.p (PV.ps k 3 cs), AV.fn (Fn.func 35) [] []]) ([]) ixFsSc = ixFsTree k cs := by kernel_rfl

noncomputable def ixFOrc (k : Nat) (i : Nat) (cs : List PV) (ok : Bool) : Orc := orcL (ixFC k i cs ok) noLed [(50, 0)] [(50, 0, 1), (50, 0, 2)] [(50, 5, 3), (50, 5, 4)]
def ixFSc : Sc := .fin
noncomputable def ixFTree (k : Nat) (i : Nat) (cs : List PV) (ok : Bool) : Tree :=
 (.test (decide ((↑i : Int) < (↑k : Int)))
 (.must (inB (↑i : Int) k && true && true)
 (.must (isInt IntKind.i64 (cs.getD ((↑i : Int).toNat * 3) PV.bad) && (isInt IntKind.i64 (cs.getD ((↑i : Int).toNat * 3 + 1) PV.bad) && (isPs (cs.getD ((↑i : Int).toNat * 3 + 1 + 1) PV.bad) && true)) && true)
 (.call ⟨35, [.agg [sI .i64 (pvInt (cs.getD ((↑i : Int).toNat * 3) PV.bad)), sI .i64 (pvInt (cs.getD ((↑i : Int).toNat * 3 + 1) PV.bad)), .p (.ps (psLen (cs.getD ((↑i : Int).toNat * 3 + 1 + 1) PV.bad)) (psSz (cs.getD ((↑i : Int).toNat * 3 + 1 + 1) PV.bad)) (psCells (cs.getD ((↑i : Int).toNat * 3 + 1 + 1) PV.bad)))]], [], .p (.sc (.bool ok)), []⟩
 (.test (ok)
 (.out (.ret (sI .i64 (↑i : Int)) []))
 (.at (bodyCfg Tryd.prog env 50 0 [.p (.ps k 3 cs), .fn (Fn.func 35) [] [], sI .i64 (↑k : Int), sI .i64 (IntKind.i64.wrap ((↑i : Int) + 1))] ([]) 0 19))))))
 (.out (.ret (sI .i64 (-1)) [])))
theorem ixF_tree (k : Nat) (i : Nat) (cs : List PV) (ok : Bool) : grow Tryd.prog env (ixFOrc k i cs ok) 1000000 true (bodyCfg Tryd.prog env 50 0 ([AV.p (PV.ps k 3 cs), AV.fn (Fn.func 35) [] [], sI IntKind.i64 (↑k : Int), sI IntKind.i64 (↑i : Int)]) ([]) 0 19) ixFSc atEnd = ixFTree k i cs ok := by kernel_rfl

noncomputable def ixAsOrc : Orc := orcL noCall noLed [(52, 0)] [] []
def ixAsSc : Sc := .fin
noncomputable def ixAsTree (k : Nat) (cs : List PV) : Tree :=
 (.at (bodyCfg Tryd.prog env 52 0 [.p (.ps k 3 cs), .fn (Fn.func 39) [] [], sI .i64 (↑k : Int), sI .i64 0] ([]) 0 19))
theorem ixAs_tree (k : Nat) (cs : List PV) : growF Tryd.prog env ixAsOrc 1000000 52 ([AV.p (PV.ps k 3 cs), AV.fn (Fn.func 39) [] []]) ([]) ixAsSc = ixAsTree k cs := by kernel_rfl

noncomputable def ixAOrc (k : Nat) (i : Nat) (cs : List PV) (ok : Bool) : Orc := orcL (ixAC k i cs ok) noLed [(52, 0)] [(52, 0, 1), (52, 0, 2)] [(52, 5, 3), (52, 5, 4)]
def ixASc : Sc := .fin
noncomputable def ixATree (k : Nat) (i : Nat) (cs : List PV) (ok : Bool) : Tree :=
 (.test (decide ((↑i : Int) < (↑k : Int)))
 (.must (inB (↑i : Int) k && true && true)
 (.must (isInt IntKind.u32 (cs.getD ((↑i : Int).toNat * 3) PV.bad) && (isInt IntKind.u32 (cs.getD ((↑i : Int).toNat * 3 + 1) PV.bad) && (isBool (cs.getD ((↑i : Int).toNat * 3 + 1 + 1) PV.bad) && true)) && true)
 (.call ⟨39, [.agg [sI .u32 (pvInt (cs.getD ((↑i : Int).toNat * 3) PV.bad)), sI .u32 (pvInt (cs.getD ((↑i : Int).toNat * 3 + 1) PV.bad)), .p (.sc (.bool (pvBool (cs.getD ((↑i : Int).toNat * 3 + 1 + 1) PV.bad))))]], [], .p (.sc (.bool ok)), []⟩
 (.test (ok)
 (.out (.ret (sI .i64 (↑i : Int)) []))
 (.at (bodyCfg Tryd.prog env 52 0 [.p (.ps k 3 cs), .fn (Fn.func 39) [] [], sI .i64 (↑k : Int), sI .i64 (IntKind.i64.wrap ((↑i : Int) + 1))] ([]) 0 19))))))
 (.out (.ret (sI .i64 (-1)) [])))
theorem ixA_tree (k : Nat) (i : Nat) (cs : List PV) (ok : Bool) : grow Tryd.prog env (ixAOrc k i cs ok) 1000000 true (bodyCfg Tryd.prog env 52 0 ([AV.p (PV.ps k 3 cs), AV.fn (Fn.func 39) [] [], sI IntKind.i64 (↑k : Int), sI IntKind.i64 (↑i : Int)]) ([]) 0 19) ixASc atEnd = ixATree k i cs ok := by kernel_rfl

noncomputable def ixBsOrc : Orc := orcL noCall noLed [(52, 0)] [] []
def ixBsSc : Sc := .fin
noncomputable def ixBsTree (k : Nat) (cs : List PV) : Tree :=
 (.at (bodyCfg Tryd.prog env 52 0 [.p (.ps k 3 cs), .fn (Fn.func 41) [] [], sI .i64 (↑k : Int), sI .i64 0] ([]) 0 19))
theorem ixBs_tree (k : Nat) (cs : List PV) : growF Tryd.prog env ixBsOrc 1000000 52 ([AV.p (PV.ps k 3 cs), AV.fn (Fn.func 41) [] []]) ([]) ixBsSc = ixBsTree k cs := by kernel_rfl

noncomputable def ixBOrc (k : Nat) (i : Nat) (cs : List PV) (ok : Bool) : Orc := orcL (ixBC k i cs ok) noLed [(52, 0)] [(52, 0, 1), (52, 0, 2)] [(52, 5, 3), (52, 5, 4)]
def ixBSc : Sc := .fin
noncomputable def ixBTree (k : Nat) (i : Nat) (cs : List PV) (ok : Bool) : Tree :=
 (.test (decide ((↑i : Int) < (↑k : Int)))
 (.must (inB (↑i : Int) k && true && true)
 (.must (isInt IntKind.u32 (cs.getD ((↑i : Int).toNat * 3) PV.bad) && (isInt IntKind.u32 (cs.getD ((↑i : Int).toNat * 3 + 1) PV.bad) && (isBool (cs.getD ((↑i : Int).toNat * 3 + 1 + 1) PV.bad) && true)) && true)
 (.call ⟨41, [.agg [sI .u32 (pvInt (cs.getD ((↑i : Int).toNat * 3) PV.bad)), sI .u32 (pvInt (cs.getD ((↑i : Int).toNat * 3 + 1) PV.bad)), .p (.sc (.bool (pvBool (cs.getD ((↑i : Int).toNat * 3 + 1 + 1) PV.bad))))]], [], .p (.sc (.bool ok)), []⟩
 (.test (ok)
 (.out (.ret (sI .i64 (↑i : Int)) []))
 (.at (bodyCfg Tryd.prog env 52 0 [.p (.ps k 3 cs), .fn (Fn.func 41) [] [], sI .i64 (↑k : Int), sI .i64 (IntKind.i64.wrap ((↑i : Int) + 1))] ([]) 0 19))))))
 (.out (.ret (sI .i64 (-1)) [])))
theorem ixB_tree (k : Nat) (i : Nat) (cs : List PV) (ok : Bool) : grow Tryd.prog env (ixBOrc k i cs ok) 1000000 true (bodyCfg Tryd.prog env 52 0 ([AV.p (PV.ps k 3 cs), AV.fn (Fn.func 41) [] [], sI IntKind.i64 (↑k : Int), sI IntKind.i64 (↑i : Int)]) ([]) 0 19) ixBSc atEnd = ixBTree k i cs ok := by kernel_rfl

noncomputable def ixXsOrc : Orc := orcL noCall noLed [(17, 0)] [] []
def ixXsSc : Sc := .fin
noncomputable def ixXsTree (k : Nat) (cs : List PV) : Tree :=
 (.at (bodyCfg Tryd.prog env 17 0 [.p (.ps k 3 cs), .fn (Fn.func 43) [] [], sI .i64 (↑k : Int), sI .i64 0] ([]) 0 19))
theorem ixXs_tree (k : Nat) (cs : List PV) : growF Tryd.prog env ixXsOrc 1000000 17 ([AV.p (PV.ps k 3 cs), AV.fn (Fn.func 43) [] []]) ([]) ixXsSc = ixXsTree k cs := by kernel_rfl

noncomputable def ixXOrc (k : Nat) (i : Nat) (cs : List PV) (ok : Bool) : Orc := orcL (ixXC k i cs ok) noLed [(17, 0)] [(17, 0, 1), (17, 0, 2)] [(17, 5, 3), (17, 5, 4)]
def ixXSc : Sc := .fin
noncomputable def ixXTree (k : Nat) (i : Nat) (cs : List PV) (ok : Bool) : Tree :=
 (.test (decide ((↑i : Int) < (↑k : Int)))
 (.must (inB (↑i : Int) k && true && true)
 (.must (isStr (cs.getD ((↑i : Int).toNat * 3) PV.bad) && (isInt IntKind.i64 (cs.getD ((↑i : Int).toNat * 3 + 1) PV.bad) && (isInt IntKind.u32 (cs.getD ((↑i : Int).toNat * 3 + 1 + 1) PV.bad) && true)) && true)
 (.call ⟨43, [.agg [.p (.sc (.string (pvStr (cs.getD ((↑i : Int).toNat * 3) PV.bad)))), sI .i64 (pvInt (cs.getD ((↑i : Int).toNat * 3 + 1) PV.bad)), sI .u32 (pvInt (cs.getD ((↑i : Int).toNat * 3 + 1 + 1) PV.bad))]], [], .p (.sc (.bool ok)), []⟩
 (.test (ok)
 (.out (.ret (sI .i64 (↑i : Int)) []))
 (.at (bodyCfg Tryd.prog env 17 0 [.p (.ps k 3 cs), .fn (Fn.func 43) [] [], sI .i64 (↑k : Int), sI .i64 (IntKind.i64.wrap ((↑i : Int) + 1))] ([]) 0 19))))))
 (.out (.ret (sI .i64 (-1)) [])))
theorem ixX_tree (k : Nat) (i : Nat) (cs : List PV) (ok : Bool) : grow Tryd.prog env (ixXOrc k i cs ok) 1000000 true (bodyCfg Tryd.prog env 17 0 ([AV.p (PV.ps k 3 cs), AV.fn (Fn.func 43) [] [], sI IntKind.i64 (↑k : Int), sI IntKind.i64 (↑i : Int)]) ([]) 0 19) ixXSc atEnd = ixXTree k i cs ok := by kernel_rfl

noncomputable def cfEOrc (k : Nat) (cs : List PV) (r : Int) : Orc := orcL (cfEC k cs r) noLed [] [] []
def cfESc : Sc := .fin
noncomputable def cfETree (k : Nat) (cs : List PV) (r : Int) : Tree :=
 (.call ⟨45, [.p (.ps k 2 cs), .fn (Fn.func 23) [] []], [], sI .i64 r, []⟩
 (.out (.ret (.p (.sc (.bool (decide (r ≥ 0))))) [])))
theorem cfE_tree (k : Nat) (cs : List PV) (r : Int) : growF Tryd.prog env (cfEOrc k cs r) 1000000 22 ([AV.p (PV.ps k 2 cs), AV.fn (Fn.func 23) [] []]) ([]) cfESc = cfETree k cs r := by kernel_rfl

noncomputable def cfLOrc (k : Nat) (cs : List PV) (r : Int) : Orc := orcL (cfLC k cs r) noLed [] [] []
def cfLSc : Sc := .fin
noncomputable def cfLTree (k : Nat) (cs : List PV) (r : Int) : Tree :=
 (.call ⟨47, [.p (.ps k 1 cs), .fn (Fn.func 27) [] []], [], sI .i64 r, []⟩
 (.out (.ret (.p (.sc (.bool (decide (r ≥ 0))))) [])))
theorem cfL_tree (k : Nat) (cs : List PV) (r : Int) : growF Tryd.prog env (cfLOrc k cs r) 1000000 25 ([AV.p (PV.ps k 1 cs), AV.fn (Fn.func 27) [] []]) ([]) cfLSc = cfLTree k cs r := by kernel_rfl

noncomputable def cfNOrc (k : Nat) (cs : List PV) (r : Int) : Orc := orcL (cfNC k cs r) noLed [] [] []
def cfNSc : Sc := .fin
noncomputable def cfNTree (k : Nat) (cs : List PV) (r : Int) : Tree :=
 (.call ⟨47, [.p (.ps k 1 cs), .fn (Fn.func 36) [] []], [], sI .i64 r, []⟩
 (.out (.ret (.p (.sc (.bool (decide (r ≥ 0))))) [])))
theorem cfN_tree (k : Nat) (cs : List PV) (r : Int) : growF Tryd.prog env (cfNOrc k cs r) 1000000 25 ([AV.p (PV.ps k 1 cs), AV.fn (Fn.func 36) [] []]) ([]) cfNSc = cfNTree k cs r := by kernel_rfl

noncomputable def cfTOrc (k : Nat) (cs : List PV) (r : Int) : Orc := orcL (cfTC k cs r) noLed [] [] []
def cfTSc : Sc := .fin
noncomputable def cfTTree (k : Nat) (cs : List PV) (r : Int) : Tree :=
 (.call ⟨48, [.p (.ps k 2 cs), .fn (Fn.func 29) [] []], [], sI .i64 r, []⟩
 (.out (.ret (.p (.sc (.bool (decide (r ≥ 0))))) [])))
theorem cfT_tree (k : Nat) (cs : List PV) (r : Int) : growF Tryd.prog env (cfTOrc k cs r) 1000000 28 ([AV.p (PV.ps k 2 cs), AV.fn (Fn.func 29) [] []]) ([]) cfTSc = cfTTree k cs r := by kernel_rfl

noncomputable def cfIOrc (k : Nat) (cs : List PV) (r : Int) : Orc := orcL (cfIC k cs r) noLed [] [] []
def cfISc : Sc := .fin
noncomputable def cfITree (k : Nat) (cs : List PV) (r : Int) : Tree :=
 (.call ⟨49, [.p (.ps k 3 cs), .fn (Fn.func 32) [] []], [], sI .i64 r, []⟩
 (.out (.ret (.p (.sc (.bool (decide (r ≥ 0))))) [])))
theorem cfI_tree (k : Nat) (cs : List PV) (r : Int) : growF Tryd.prog env (cfIOrc k cs r) 1000000 31 ([AV.p (PV.ps k 3 cs), AV.fn (Fn.func 32) [] []]) ([]) cfISc = cfITree k cs r := by kernel_rfl

noncomputable def cfFOrc (k : Nat) (cs : List PV) (r : Int) : Orc := orcL (cfFC k cs r) noLed [] [] []
def cfFSc : Sc := .fin
noncomputable def cfFTree (k : Nat) (cs : List PV) (r : Int) : Tree :=
 (.call ⟨50, [.p (.ps k 3 cs), .fn (Fn.func 35) [] []], [], sI .i64 r, []⟩
 (.out (.ret (.p (.sc (.bool (decide (r ≥ 0))))) [])))
theorem cfF_tree (k : Nat) (cs : List PV) (r : Int) : growF Tryd.prog env (cfFOrc k cs r) 1000000 34 ([AV.p (PV.ps k 3 cs), AV.fn (Fn.func 35) [] []]) ([]) cfFSc = cfFTree k cs r := by kernel_rfl

noncomputable def cfAOrc (k : Nat) (cs : List PV) (r : Int) : Orc := orcL (cfAC k cs r) noLed [] [] []
def cfASc : Sc := .fin
noncomputable def cfATree (k : Nat) (cs : List PV) (r : Int) : Tree :=
 (.call ⟨52, [.p (.ps k 3 cs), .fn (Fn.func 39) [] []], [], sI .i64 r, []⟩
 (.out (.ret (.p (.sc (.bool (decide (r ≥ 0))))) [])))
theorem cfA_tree (k : Nat) (cs : List PV) (r : Int) : growF Tryd.prog env (cfAOrc k cs r) 1000000 38 ([AV.p (PV.ps k 3 cs), AV.fn (Fn.func 39) [] []]) ([]) cfASc = cfATree k cs r := by kernel_rfl

noncomputable def cfBOrc (k : Nat) (cs : List PV) (r : Int) : Orc := orcL (cfBC k cs r) noLed [] [] []
def cfBSc : Sc := .fin
noncomputable def cfBTree (k : Nat) (cs : List PV) (r : Int) : Tree :=
 (.call ⟨52, [.p (.ps k 3 cs), .fn (Fn.func 41) [] []], [], sI .i64 r, []⟩
 (.out (.ret (.p (.sc (.bool (decide (r ≥ 0))))) [])))
theorem cfB_tree (k : Nat) (cs : List PV) (r : Int) : growF Tryd.prog env (cfBOrc k cs r) 1000000 38 ([AV.p (PV.ps k 3 cs), AV.fn (Fn.func 41) [] []]) ([]) cfBSc = cfBTree k cs r := by kernel_rfl

noncomputable def cfXOrc (k : Nat) (cs : List PV) (r : Int) : Orc := orcL (cfXC k cs r) noLed [] [] []
def cfXSc : Sc := .fin
noncomputable def cfXTree (k : Nat) (cs : List PV) (r : Int) : Tree :=
 (.call ⟨17, [.p (.ps k 3 cs), .fn (Fn.func 43) [] []], [], sI .i64 r, []⟩
 (.out (.ret (.p (.sc (.bool (decide (r ≥ 0))))) [])))
theorem cfX_tree (k : Nat) (cs : List PV) (r : Int) : growF Tryd.prog env (cfXOrc k cs r) 1000000 42 ([AV.p (PV.ps k 3 cs), AV.fn (Fn.func 43) [] []]) ([]) cfXSc = cfXTree k cs r := by kernel_rfl

noncomputable def kchOrc : Orc := orcL noCall noLed [] [(30, 0, 0)] []
def kchSc : Sc := .fin
noncomputable def kchTree (p r : Int) : Tree :=
 (.test (!(fun r => (p == bif true then Min.min (bif false then Min.min p 0 else Max.max p 0) 255 else Max.max (bif false then Min.min p 0 else Max.max p 0) 255) && r) ((fun r_1 => (r == bif true then Min.min (bif false then Min.min r 0 else Max.max r 0) 1 else Max.max (bif false then Min.min r 0 else Max.max r 0) 1) && r_1) true))
 (.out (.ret (sI .i64 2) []))
 (.out (.ret (sI .i64 0) [])))
theorem kch_tree (p r : Int) : growF Tryd.prog env kchOrc 1000000 30 ([AV.agg [sI IntKind.i64 p, sI IntKind.i64 r]]) ([]) kchSc = kchTree p r := by kernel_rfl

noncomputable def kliOrc : Orc := orcL noCall noLed [] [(40, 2, 5), (40, 2, 8), (40, 2, 14), (40, 2, 22), (40, 2, 26), (40, 0, 0)] []
def kliSc : Sc := (.fork (.lit (.lit .fin)) (.fork (.fork (.lit (.lit .fin)) (.fork (.lit .fin) (.no (.lit .fin)))) (.lit (.yes .fin))))
noncomputable def kliTree (mn mx : Int) (cap : Bool) (most : Int) : Tree :=
 (.test (decide (mn > most))
 (.out (.ret (sI .i64 2) []))
 (.test (cap)
 (.test (decide (mx < mn))
 (.out (.ret (sI .i64 2) []))
 (.test (decide (mx > most))
 (.out (.ret (sI .i64 2) []))
 (.must (!(!cap))
 (.out (.ret (sI .i64 0) [])))))
 (.must (!cap)
 (.test (mx != 0)
 (.out (.ret (sI .i64 2) []))
 (.out (.ret (sI .i64 0) []))))))
theorem kli_tree (mn mx : Int) (cap : Bool) (most : Int) : growF Tryd.prog env kliOrc 1000000 40 ([AV.agg [sI IntKind.u32 mn, sI IntKind.u32 mx, sB cap], sI IntKind.u32 most]) ([]) kliSc = kliTree mn mx cap most := by kernel_rfl

noncomputable def clEOrc : Orc := orcL noCall noLed [] [] []
def clESc : Sc := .fin
noncomputable def clETree (x : El) : Tree :=
 (.out (.ret (.p (.sc (.bool (decide ((↑x.fs.length : Int) > 16384))))) []))
theorem clE_tree (x : El) : growF Tryd.prog env clEOrc 1000000 23 ([AV.agg (List.map AV.p (encEl x))]) ([]) clESc = clETree x := by kernel_rfl

noncomputable def clLOrc : Orc := orcL noCall noLed [] [] []
def clLSc : Sc := .fin
noncomputable def clLTree (s : ByteArray) : Tree :=
 (.out (.ret (.p (.sc (.bool (decide ((↑s.data.toList.length : Int) > 1000))))) []))
theorem clL_tree (s : ByteArray) : growF Tryd.prog env clLOrc 1000000 27 ([AV.p (PV.sc (Value.string s))]) ([]) clLSc = clLTree s := by kernel_rfl

noncomputable def clNOrc (s : ByteArray) (r : Int) : Orc := orcL (clNC s r) noLed [] [] []
def clNSc : Sc := .fin
noncomputable def clNTree (s : ByteArray) (r : Int) : Tree :=
 (.call ⟨37, [.os (some 0) s.data.toList.length 1 (List.map ofByte s.data.toList)], [.tok], sI .i64 r, [.tok]⟩
 (.out (.ret (.p (.sc (.bool (decide (r ≥ 0))))) [])))
theorem clN_tree (s : ByteArray) (r : Int) : growF Tryd.prog env (clNOrc s r) 1000000 36 ([AV.p (PV.sc (Value.string s))]) ([]) clNSc = clNTree s r := by kernel_rfl

noncomputable def clTOrc (x : Ty) (e : Int) : Orc := orcL (clTC x e) noLed [] [] []
def clTSc : Sc := .fin
noncomputable def clTTree (x : Ty) (e : Int) : Tree :=
 (.call ⟨30, [.agg [sI .i64 x.p, sI .i64 x.r]], [], sI .i64 e, []⟩
 (.out (.ret (.p (.sc (.bool (e != 0)))) [])))
theorem clT_tree (x : Ty) (e : Int) : growF Tryd.prog env (clTOrc x e) 1000000 29 ([AV.agg (List.map AV.p (encTy x))]) ([]) clTSc = clTTree x e := by kernel_rfl

noncomputable def clIOrc : Orc := orcL noCall noLed [] [(33, 2, 3)] []
def clISc : Sc := .fin
noncomputable def clITree (x : Im) : Tree :=
 (.test (decide (x.ty ≥ 0))
 (.out (.ret (.p (.sc (.bool !decide (x.ty ≤ 2147483647)))) []))
 (.out (.ret (sB true) [])))
theorem clI_tree (x : Im) : growF Tryd.prog env clIOrc 1000000 32 ([AV.agg (List.map AV.p (encIm x))]) ([]) clISc = clITree x := by kernel_rfl

noncomputable def clAOrc (x : Li) (e : Int) : Orc := orcL (clAC x e) noLed [] [] []
def clASc : Sc := .fin
noncomputable def clATree (x : Li) (e : Int) : Tree :=
 (.call ⟨40, [.agg [sI .u32 x.mn, sI .u32 x.mx, .p (.sc (.bool x.cap))], sI .u32 1048576], [], sI .i64 e, []⟩
 (.out (.ret (.p (.sc (.bool (e != 0)))) [])))
theorem clA_tree (x : Li) (e : Int) : growF Tryd.prog env (clAOrc x e) 1000000 39 ([AV.agg (List.map AV.p (encLi x))]) ([]) clASc = clATree x e := by kernel_rfl

noncomputable def clBOrc (x : Li) (e : Int) : Orc := orcL (clAC x e) noLed [] [] []
def clBSc : Sc := .fin
noncomputable def clBTree (x : Li) (e : Int) : Tree :=
 (.call ⟨40, [.agg [sI .u32 x.mn, sI .u32 x.mx, .p (.sc (.bool x.cap))], sI .u32 65536], [], sI .i64 e, []⟩
 (.out (.ret (.p (.sc (.bool (e != 0)))) [])))
theorem clB_tree (x : Li) (e : Int) : growF Tryd.prog env (clBOrc x e) 1000000 41 ([AV.agg (List.map AV.p (encLi x))]) ([]) clBSc = clBTree x e := by kernel_rfl

noncomputable def clXOrc : Orc := orcL noCall noLed [] [(43, 2, 4)] []
def clXSc : Sc := .fin
noncomputable def clXTree (x : Ex) : Tree :=
 (.test (decide (x.kind < 0))
 (.out (.ret (sB true) []))
 (.out (.ret (.p (.sc (.bool (decide (x.kind > 3))))) [])))
theorem clX_tree (x : Ex) : growF Tryd.prog env clXOrc 1000000 43 ([AV.agg (List.map AV.p (encEx x))]) ([]) clXSc = clXTree x := by kernel_rfl

noncomputable def clFOrc : Orc := orcL noCall noLed [] [(33, 2, 3), (35, 2, 5), (35, 2, 11)] []
def clFSc : Sc := (.fork (.fork (.lit .fin) .fin) (.lit (.lit .fin)))
noncomputable def clFTree (x : Fu) : Tree :=
 (.test (decide (x.ty ≥ 0))
 (.test (!decide (x.ty ≤ 2147483647))
 (.out (.ret (sB true) []))
 (.test (decide (x.lo < 0))
 (.out (.ret (sB true) []))
 (.out (.ret (.p (.sc (.bool (decide (x.lo > 50000))))) []))))
 (.out (.ret (sB true) [])))
theorem clF_tree (x : Fu) : growF Tryd.prog env clFOrc 1000000 35 ([AV.agg (List.map AV.p (encFu x))]) ([]) clFSc = clFTree x := by kernel_rfl

noncomputable def mlsOrc (M : Mo) (e : Int) (n : Nat) (cs : List PV) : Orc := orcL (liC M e n cs) noLed [(24, 0)] [] []
def mlsSc : Sc := .fin
noncomputable def mlsTree (M : Mo) (e : Int) (n : Nat) (cs : List PV) : Tree :=
 (.call ⟨19, [.agg (List.map AV.p M.pvs)], [], .p (.ps n 1 cs), []⟩
 (.at (bodyCfg Tryd.prog env 24 0 [sI .i64 e, .p (.ps n 1 cs), sI .i64 (↑n : Int), sI .i64 0] ([]) 0 20)))
theorem mls_tree (M : Mo) (e : Int) (n : Nat) (cs : List PV) : growF Tryd.prog env (mlsOrc M e n cs) 1000000 24 ([AV.agg (List.map AV.p M.pvs), sI IntKind.i64 e]) ([]) mlsSc = mlsTree M e n cs := by kernel_rfl

noncomputable def lilOrc (e : Int) (k : Nat) (i : Nat) (cs : List PV) (r : Int) : Orc := orcL (liLC e k i cs r) noLed [(24, 0)] [(24, 0, 1), (24, 0, 2)] [(24, 4, 0), (24, 4, 1)]
def lilSc : Sc := .fin
noncomputable def lilTree (e : Int) (k : Nat) (i : Nat) (cs : List PV) (r : Int) : Tree :=
 (.test (decide ((↑i : Int) < (↑k : Int)))
 (.must (inB (↑i : Int) k && true && true)
 (.must (isPs (cs.getD ((↑i : Int).toNat * 1) PV.bad) && true)
 (.call ⟨46, [.p (.ps (psLen (cs.getD ((↑i : Int).toNat * 1) PV.bad)) (psSz (cs.getD ((↑i : Int).toNat * 1) PV.bad)) (psCells (cs.getD ((↑i : Int).toNat * 1) PV.bad)))], [], sI .i64 r, []⟩
 (.test (r == e)
 (.out (.ret (sI .i64 e) []))
 (.at (bodyCfg Tryd.prog env 24 0 [sI .i64 e, .p (.ps k 1 cs), sI .i64 (↑k : Int), sI .i64 (IntKind.i64.wrap ((↑i : Int) + 1))] ([]) 0 20))))))
 (.out (.ret (sI .i64 0) [])))
theorem lil_tree (e : Int) (k : Nat) (i : Nat) (cs : List PV) (r : Int) : grow Tryd.prog env (lilOrc e k i cs r) 1000000 true (bodyCfg Tryd.prog env 24 0 ([sI IntKind.i64 e, AV.p (PV.ps k 1 cs), sI IntKind.i64 (↑k : Int), sI IntKind.i64 (↑i : Int)]) ([]) 0 20) lilSc atEnd = lilTree e k i cs r := by kernel_rfl

noncomputable def losOrc : Orc := orcL noCall noLed [(15, 0)] [] []
def losSc : Sc := .fin
noncomputable def losTree (M : Mo) : Tree :=
 (.at (bodyCfg Tryd.prog env 15 0 [.mp 0 0, sI .i64 1048576, .p (.ps M.das.length 2 (List.flatMap encDa M.das)), sI .i64 (↑M.das.length : Int), sI .i64 0] ([.pc M.pvs]) 0 29))
theorem los_tree (M : Mo) : growF Tryd.prog env losOrc 1000000 15 ([AV.agg (List.map AV.p M.pvs)]) ([]) losSc = losTree M := by kernel_rfl

noncomputable def lolOrc (M : Mo) (k : Nat) (i : Nat) (left : Int) (cs : List PV) (n : Nat) (ns : List PV) (lg : Bool) : Orc := orcL (loC M k i left cs n ns lg) noLed [(15, 0)] [(15, 0, 1), (15, 8, 3), (15, 0, 2)] [(15, 5, 0), (15, 5, 1)]
def lolSc : Sc := (.fork .fin (.fork (.lit .fin) .fin))
noncomputable def lolTree (M : Mo) (k : Nat) (i : Nat) (left : Int) (cs : List PV) (n : Nat) (ns : List PV) (lg : Bool) : Tree :=
 (.test (decide ((↑i : Int) < (↑k : Int)))
 (.must (inB (↑i : Int) k && true && true)
 (.must (isPs (cs.getD ((↑i : Int).toNat * 2) PV.bad) && (isPs (cs.getD ((↑i : Int).toNat * 2 + 1) PV.bad) && true) && true)
 (.at (bodyCfg Tryd.prog env 15 0 [.mp 0 0, sI .i64 (IntKind.i64.wrap (left - bif true then Min.min (↑(psLen (cs.getD ((↑i : Int).toNat * 2 + 1) PV.bad)) : Int) (IntKind.i64.wrap (left + 1)) else Max.max (↑(psLen (cs.getD ((↑i : Int).toNat * 2 + 1) PV.bad)) : Int) (IntKind.i64.wrap (left + 1)))), .p (.ps k 2 cs), sI .i64 (↑k : Int), sI .i64 (IntKind.i64.wrap ((↑i : Int) + 1))] ([.pc M.pvs]) 0 29))))
 (.test (decide (left < 0))
 (.out (.ret (sI .i64 3) []))
 (.call ⟨26, [.agg (List.map AV.p M.pvs)], [], .p (.ps n 1 ns), []⟩
 (.call ⟨25, [.p (.ps n 1 ns), .fn (Fn.func 27) [] []], [], .p (.sc (.bool lg)), []⟩
 (.test (lg)
 (.out (.ret (sI .i64 3) []))
 (.out (.ret (sI .i64 0) [])))))))
theorem lol_tree (M : Mo) (k : Nat) (i : Nat) (left : Int) (cs : List PV) (n : Nat) (ns : List PV) (lg : Bool) : grow Tryd.prog env (lolOrc M k i left cs n ns lg) 1000000 true (bodyCfg Tryd.prog env 15 0 ([AV.mp 0 0, sI IntKind.i64 left, AV.p (PV.ps k 2 cs), sI IntKind.i64 (↑k : Int), sI IntKind.i64 (↑i : Int)]) ([Blk.pc M.pvs]) 0 29) lolSc atEnd = lolTree M k i left cs n ns lg := by kernel_rfl

noncomputable def manOrc (M : Mo) (b : Bool) (e : Int) : Orc := orcL (maC M b e) noLed [] [(14, 3, 5), (14, 3, 11), (14, 3, 15), (14, 0, 0)] []
def manSc : Sc := (.fork (.lit (.lit (.lit .fin))) (.fork (.lit (.lit .fin)) (.fork (.lit .fin) .fin)))
noncomputable def manTree (M : Mo) (b : Bool) (e : Int) : Tree :=
 (.test (decide ((↑M.tas.length : Int) > 1))
 (.out (.ret (sI .i64 141) []))
 (.test (decide ((↑M.mes.length : Int) > 1))
 (.out (.ret (sI .i64 141) []))
 (.test (decide ((bif false then Min.min (bif false then Min.min (bif false then Min.min (bif false then Min.min (bif false then Min.min (bif false then Min.min (↑M.tys.length : Int) (↑M.ims.length : Int) else Max.max (↑M.tys.length : Int) (↑M.ims.length : Int)) (↑M.fns.length : Int) else Max.max (bif false then Min.min (↑M.tys.length : Int) (↑M.ims.length : Int) else Max.max (↑M.tys.length : Int) (↑M.ims.length : Int)) (↑M.fns.length : Int)) (↑M.gls.length : Int) else Max.max (bif false then Min.min (bif false then Min.min (↑M.tys.length : Int) (↑M.ims.length : Int) else Max.max (↑M.tys.length : Int) (↑M.ims.length : Int)) (↑M.fns.length : Int) else Max.max (bif false then Min.min (↑M.tys.length : Int) (↑M.ims.length : Int) else Max.max (↑M.tys.length : Int) (↑M.ims.length : Int)) (↑M.fns.length : Int)) (↑M.gls.length : Int)) (↑M.exs.length : Int) else Max.max (bif false then Min.min (bif false then Min.min (bif false then Min.min (↑M.tys.length : Int) (↑M.ims.length : Int) else Max.max (↑M.tys.length : Int) (↑M.ims.length : Int)) (↑M.fns.length : Int) else Max.max (bif false then Min.min (↑M.tys.length : Int) (↑M.ims.length : Int) else Max.max (↑M.tys.length : Int) (↑M.ims.length : Int)) (↑M.fns.length : Int)) (↑M.gls.length : Int) else Max.max (bif false then Min.min (bif false then Min.min (↑M.tys.length : Int) (↑M.ims.length : Int) else Max.max (↑M.tys.length : Int) (↑M.ims.length : Int)) (↑M.fns.length : Int) else Max.max (bif false then Min.min (↑M.tys.length : Int) (↑M.ims.length : Int) else Max.max (↑M.tys.length : Int) (↑M.ims.length : Int)) (↑M.fns.length : Int)) (↑M.gls.length : Int)) (↑M.exs.length : Int)) (↑M.els.length : Int) else Max.max (bif false then Min.min (bif false then Min.min (bif false then Min.min (bif false then Min.min (↑M.tys.length : Int) (↑M.ims.length : Int) else Max.max (↑M.tys.length : Int) (↑M.ims.length : Int)) (↑M.fns.length : Int) else Max.max (bif false then Min.min (↑M.tys.length : Int) (↑M.ims.length : Int) else Max.max (↑M.tys.length : Int) (↑M.ims.length : Int)) (↑M.fns.length : Int)) (↑M.gls.length : Int) else Max.max (bif false then Min.min (bif false then Min.min (↑M.tys.length : Int) (↑M.ims.length : Int) else Max.max (↑M.tys.length : Int) (↑M.ims.length : Int)) (↑M.fns.length : Int) else Max.max (bif false then Min.min (↑M.tys.length : Int) (↑M.ims.length : Int) else Max.max (↑M.tys.length : Int) (↑M.ims.length : Int)) (↑M.fns.length : Int)) (↑M.gls.length : Int)) (↑M.exs.length : Int) else Max.max (bif false then Min.min (bif false then Min.min (bif false then Min.min (↑M.tys.length : Int) (↑M.ims.length : Int) else Max.max (↑M.tys.length : Int) (↑M.ims.length : Int)) (↑M.fns.length : Int) else Max.max (bif false then Min.min (↑M.tys.length : Int) (↑M.ims.length : Int) else Max.max (↑M.tys.length : Int) (↑M.ims.length : Int)) (↑M.fns.length : Int)) (↑M.gls.length : Int) else Max.max (bif false then Min.min (bif false then Min.min (↑M.tys.length : Int) (↑M.ims.length : Int) else Max.max (↑M.tys.length : Int) (↑M.ims.length : Int)) (↑M.fns.length : Int) else Max.max (bif false then Min.min (↑M.tys.length : Int) (↑M.ims.length : Int) else Max.max (↑M.tys.length : Int) (↑M.ims.length : Int)) (↑M.fns.length : Int)) (↑M.gls.length : Int)) (↑M.exs.length : Int)) (↑M.els.length : Int)) (↑M.das.length : Int) else Max.max (bif false then Min.min (bif false then Min.min (bif false then Min.min (bif false then Min.min (bif false then Min.min (↑M.tys.length : Int) (↑M.ims.length : Int) else Max.max (↑M.tys.length : Int) (↑M.ims.length : Int)) (↑M.fns.length : Int) else Max.max (bif false then Min.min (↑M.tys.length : Int) (↑M.ims.length : Int) else Max.max (↑M.tys.length : Int) (↑M.ims.length : Int)) (↑M.fns.length : Int)) (↑M.gls.length : Int) else Max.max (bif false then Min.min (bif false then Min.min (↑M.tys.length : Int) (↑M.ims.length : Int) else Max.max (↑M.tys.length : Int) (↑M.ims.length : Int)) (↑M.fns.length : Int) else Max.max (bif false then Min.min (↑M.tys.length : Int) (↑M.ims.length : Int) else Max.max (↑M.tys.length : Int) (↑M.ims.length : Int)) (↑M.fns.length : Int)) (↑M.gls.length : Int)) (↑M.exs.length : Int) else Max.max (bif false then Min.min (bif false then Min.min (bif false then Min.min (↑M.tys.length : Int) (↑M.ims.length : Int) else Max.max (↑M.tys.length : Int) (↑M.ims.length : Int)) (↑M.fns.length : Int) else Max.max (bif false then Min.min (↑M.tys.length : Int) (↑M.ims.length : Int) else Max.max (↑M.tys.length : Int) (↑M.ims.length : Int)) (↑M.fns.length : Int)) (↑M.gls.length : Int) else Max.max (bif false then Min.min (bif false then Min.min (↑M.tys.length : Int) (↑M.ims.length : Int) else Max.max (↑M.tys.length : Int) (↑M.ims.length : Int)) (↑M.fns.length : Int) else Max.max (bif false then Min.min (↑M.tys.length : Int) (↑M.ims.length : Int) else Max.max (↑M.tys.length : Int) (↑M.ims.length : Int)) (↑M.fns.length : Int)) (↑M.gls.length : Int)) (↑M.exs.length : Int)) (↑M.els.length : Int) else Max.max (bif false then Min.min (bif false then Min.min (bif false then Min.min (bif false then Min.min (↑M.tys.length : Int) (↑M.ims.length : Int) else Max.max (↑M.tys.length : Int) (↑M.ims.length : Int)) (↑M.fns.length : Int) else Max.max (bif false then Min.min (↑M.tys.length : Int) (↑M.ims.length : Int) else Max.max (↑M.tys.length : Int) (↑M.ims.length : Int)) (↑M.fns.length : Int)) (↑M.gls.length : Int) else Max.max (bif false then Min.min (bif false then Min.min (↑M.tys.length : Int) (↑M.ims.length : Int) else Max.max (↑M.tys.length : Int) (↑M.ims.length : Int)) (↑M.fns.length : Int) else Max.max (bif false then Min.min (↑M.tys.length : Int) (↑M.ims.length : Int) else Max.max (↑M.tys.length : Int) (↑M.ims.length : Int)) (↑M.fns.length : Int)) (↑M.gls.length : Int)) (↑M.exs.length : Int) else Max.max (bif false then Min.min (bif false then Min.min (bif false then Min.min (↑M.tys.length : Int) (↑M.ims.length : Int) else Max.max (↑M.tys.length : Int) (↑M.ims.length : Int)) (↑M.fns.length : Int) else Max.max (bif false then Min.min (↑M.tys.length : Int) (↑M.ims.length : Int) else Max.max (↑M.tys.length : Int) (↑M.ims.length : Int)) (↑M.fns.length : Int)) (↑M.gls.length : Int) else Max.max (bif false then Min.min (bif false then Min.min (↑M.tys.length : Int) (↑M.ims.length : Int) else Max.max (↑M.tys.length : Int) (↑M.ims.length : Int)) (↑M.fns.length : Int) else Max.max (bif false then Min.min (↑M.tys.length : Int) (↑M.ims.length : Int) else Max.max (↑M.tys.length : Int) (↑M.ims.length : Int)) (↑M.fns.length : Int)) (↑M.gls.length : Int)) (↑M.exs.length : Int)) (↑M.els.length : Int)) (↑M.das.length : Int)) > 16384))
 (.out (.ret (sI .i64 141) []))
 (.call ⟨22, [.p (.ps M.els.length 2 (List.flatMap encEl M.els)), .fn (Fn.func 23) [] []], [], .p (.sc (.bool b)), []⟩
 (.test (b)
 (.out (.ret (sI .i64 141) []))
 (.call ⟨24, [.agg (List.map AV.p M.pvs), sI .i64 141], [], sI .i64 e, []⟩
 (.out (.ret (sI .i64 e) []))))))))
theorem man_tree (M : Mo) (b : Bool) (e : Int) : growF Tryd.prog env (manOrc M b e) 1000000 14 ([AV.agg (List.map AV.p M.pvs)]) ([]) manSc = manTree M b e := by kernel_rfl

noncomputable def rstOrc : Orc := orcL noCall noLed [] [(16, 3, 2), (16, 4, 2), (16, 5, 2), (16, 6, 2), (16, 7, 2), (16, 8, 2), (16, 9, 2), (16, 9, 6), (16, 0, 0)] []
noncomputable def rstSc (M : Mo) (a : Bool) (b : Bool) (c : Bool) (d : Bool) (e : Bool) (f : Bool) (g : Bool) (n : Nat) (ns : List PV) (r : Int) : Sc := (.ans 28 (.p (.sc (.bool a))) ([]) (.fork (.lit (.lit (.lit (.lit (.lit (.lit (.lit .fin))))))) (.ans 31 (.p (.sc (.bool b))) ([]) (.fork (.lit (.lit (.lit (.lit (.lit (.lit .fin)))))) (.ans 34 (.p (.sc (.bool c))) ([]) (.fork (.lit (.lit (.lit (.lit (.lit .fin))))) (.ans 26 (.p (.ps n 1 ns)) ([]) (.ans 25 (.p (.sc (.bool d))) ([]) (.fork (.lit (.lit (.lit (.lit .fin)))) (.ans 38 (.p (.sc (.bool e))) ([]) (.fork (.lit (.lit (.lit .fin))) (.ans 38 (.p (.sc (.bool f))) ([]) (.fork (.lit (.lit .fin)) (.ans 42 (.p (.sc (.bool g))) ([]) (.fork (.lit .fin) (.fork (.fork .fin (.ans 24 (sI .i64 r) ([]) .fin)) (.lit (.ans 24 (sI .i64 r) ([]) .fin))))))))))))))))))
noncomputable def rstTree (M : Mo) (a : Bool) (b : Bool) (c : Bool) (d : Bool) (e : Bool) (f : Bool) (g : Bool) (n : Nat) (ns : List PV) (r : Int) : Tree :=
 (.call ⟨28, [.p (.ps M.tys.length 2 (List.flatMap encTy M.tys)), .fn (Fn.func 29) [] []], [], .p (.sc (.bool a)), []⟩
 (.test (a)
 (.out (.ret (sI .i64 2) []))
 (.call ⟨31, [.p (.ps M.ims.length 3 (List.flatMap encIm M.ims)), .fn (Fn.func 32) [] []], [], .p (.sc (.bool b)), []⟩
 (.test (b)
 (.out (.ret (sI .i64 2) []))
 (.call ⟨34, [.p (.ps M.fns.length 3 (List.flatMap encFu M.fns)), .fn (Fn.func 35) [] []], [], .p (.sc (.bool c)), []⟩
 (.test (c)
 (.out (.ret (sI .i64 2) []))
 (.call ⟨26, [.agg (List.map AV.p M.pvs)], [], .p (.ps n 1 ns), []⟩
 (.call ⟨25, [.p (.ps n 1 ns), .fn (Fn.func 36) [] []], [], .p (.sc (.bool d)), []⟩
 (.test (d)
 (.out (.ret (sI .i64 2) []))
 (.call ⟨38, [.p (.ps M.tas.length 3 (List.flatMap encLi M.tas)), .fn (Fn.func 39) [] []], [], .p (.sc (.bool e)), []⟩
 (.test (e)
 (.out (.ret (sI .i64 2) []))
 (.call ⟨38, [.p (.ps M.mes.length 3 (List.flatMap encLi M.mes)), .fn (Fn.func 41) [] []], [], .p (.sc (.bool f)), []⟩
 (.test (f)
 (.out (.ret (sI .i64 2) []))
 (.call ⟨42, [.p (.ps M.exs.length 3 (List.flatMap encEx M.exs)), .fn (Fn.func 43) [] []], [], .p (.sc (.bool g)), []⟩
 (.test (g)
 (.out (.ret (sI .i64 2) []))
 (.test (!M.st)
 (.test (M.sn != 0)
 (.out (.ret (sI .i64 2) []))
 (.call ⟨24, [.agg (List.map AV.p M.pvs), sI .i64 2], [], sI .i64 r, []⟩
 (.out (.ret (sI .i64 r) []))))
 (.call ⟨24, [.agg (List.map AV.p M.pvs), sI .i64 2], [], sI .i64 r, []⟩
 (.out (.ret (sI .i64 r) [])))))))))))))))))))
theorem rst_tree (M : Mo) (a : Bool) (b : Bool) (c : Bool) (d : Bool) (e : Bool) (f : Bool) (g : Bool) (n : Nat) (ns : List PV) (r : Int) : growF Tryd.prog env rstOrc 1000000 16 ([AV.agg (List.map AV.p M.pvs)]) ([]) (rstSc M a b c d e f g n ns r) = rstTree M a b c d e f g n ns r := by kernel_rfl

noncomputable def mchkOrc (M : Mo) (a b c : Int) : Orc := orcL (mcC M a b c) noLed [] [(6, 0, 2)] []
def mchkSc : Sc := .fin
noncomputable def mchkTree (M : Mo) (a b c : Int) : Tree :=
 (.call ⟨14, [.agg (List.map AV.p M.pvs)], [], sI .i64 a, []⟩
 (.test (a != 0)
 (.out (.ret (sI .i64 a) []))
 (.call ⟨15, [.agg (List.map AV.p M.pvs)], [], sI .i64 b, []⟩
 (.test (b != 0)
 (.out (.ret (sI .i64 b) []))
 (.call ⟨16, [.agg (List.map AV.p M.pvs)], [], sI .i64 c, []⟩
 (.test (c != 0)
 (.out (.ret (sI .i64 c) []))
 (.out (.ret (sI .i64 0) []))))))))
theorem mchk_tree (M : Mo) (a b c : Int) : growF Tryd.prog env (mchkOrc M a b c) 1000000 6 ([AV.agg (List.map AV.p M.pvs)]) ([]) mchkSc = mchkTree M a b c := by kernel_rfl

def idxF {α : Type} (p : α → Bool) : List α → Nat → Int
  | [], _ => -1
  | x :: r, i => if p x = true then i else idxF p r (i + 1)

theorem idx_any {α : Type} (p : α → Bool) : ∀ (l : List α) (i : Nat), decide (idxF p l i ≥ 0) = l.any p
  | [], _ => rfl
  | x :: r, i => by
    cases h : p x with
    | true => simp [idxF, h]
    | false => simp only [idxF, h, List.any_cons, Bool.false_or]; exact idx_any p r (i + 1)

theorem idx_all {α : Type} {l : List α} {p : α → Bool} {D : Nat → Cfg}
    (step : ∀ (i : Nat) (x : α) (o : Out), l[i]? = some x → (p x = true → Out.ret (sI .i64 i) [] = o) → (p x = false → Am.Good Tryd.prog env (D (i + 1)) o) → Am.Good Tryd.prog env (D i) o)
    (fin : Am.Good Tryd.prog env (D l.length) (.ret (sI .i64 (-1)) [])) :
    ∀ (r i : Nat), i + r = l.length → Am.Good Tryd.prog env (D i) (.ret (sI .i64 (idxF p (l.drop i) i)) []) := by
  intro r
  induction r with
  | zero =>
    intro i hi
    obtain rfl : i = l.length := by omega
    rw [List.drop_length]
    exact fin
  | succ r ih =>
    intro i hi
    have hl : i < l.length := by omega
    rw [List.drop_eq_getElem_cons hl]
    refine step i l[i] _ (List.getElem?_eq_getElem hl) (fun q => ?_) fun q => ?_
    · simp only [idxF, q, if_true]
    · simp only [idxF, q, Bool.false_eq_true, if_false]
      exact ih (i + 1) (by omega)

abbrev encS (s : ByteArray) : List PV := [.sc (.string s)]
abbrev encC (l : List Ins) : List PV := [pL l]

theorem ixE_does (l : List El) (hl : l.length ≤ 10000000) (p : El → Bool) (hp : ∀ x ∈ l, Does Tryd.prog env 23 [(.agg ((encEl x).map .p))] [] (sB (p x)) []) :
    Does Tryd.prog env 45 [.p (.ps l.length 2 (l.flatMap encEl)), .fn (.func 23) [] []] [] (sI .i64 (idxF p l 0)) [] := by
  refine does_of_tree names (ixEs_tree l.length (l.flatMap encEl)) ?_
  refine idx_all (l := l) (p := p) (D := fun i => bodyCfg Tryd.prog env 45 0 [.p (.ps l.length 2 (l.flatMap encEl)), .fn (.func 23) [] [], sI .i64 l.length, sI .i64 i] [] 0 19) ?_ ?_ l.length 0 (by omega)
  · intro i x o hx h1 h2
    have hi : i < l.length := (List.getElem?_eq_some_iff.1 hx).1
    have c := flat_at (z := 2) (enc := encEl) (fun _ => rfl) hx
    have c0 : (l.flatMap encEl).getD (i * 2) .bad = pL x.l := c 0 (by decide)
    have c1 : (l.flatMap encEl).getD (i * 2 + 1) .bad = pT .u32 x.fs := c 1 (by decide)
    have w : IntKind.i64.wrap ((i : Int) + 1) = ((i + 1 : Nat) : Int) := by rw [i64In (by omega) (by omega)]; rfl
    have hd : decide ((i : Int) < (l.length : Int)) = true := by simp; omega
    refine good_of_tree names (ixE_tree l.length i (l.flatMap encEl) (p x)) ?_
    simp only [ixETree, Tree.ok, isStr, isInt, isPs, isBool, pvStr, pvInt, pvBool, psLen, psSz, psCells, inB, Int.toNat_natCast, c0, c1, hd, w]
    exact ⟨fun _ => ⟨by first | (simp; done) | (simp; omega), rfl, hp x (List.mem_of_getElem? hx), h1, h2⟩, fun q => (by cases q)⟩
  · have hd : decide ((l.length : Int) < (l.length : Int)) = false := by simp
    refine good_of_tree names (ixE_tree l.length l.length (l.flatMap encEl) true) ?_
    simp only [ixETree, Tree.ok, hd]
    exact ⟨fun q => (by cases q), fun _ => trivial⟩

theorem cfE_does (l : List El) (hl : l.length ≤ 10000000) (p : El → Bool) (hp : ∀ x ∈ l, Does Tryd.prog env 23 [(.agg ((encEl x).map .p))] [] (sB (p x)) []) :
    Does Tryd.prog env 22 [.p (.ps l.length 2 (l.flatMap encEl)), .fn (.func 23) [] []] [] (sB (l.any p)) [] := by
  refine does_of_tree names (cfE_tree l.length (l.flatMap encEl) (idxF p l 0)) ?_
  simp only [cfETree, Tree.ok, idx_any]
  exact ⟨ixE_does l hl p hp, trivial⟩

theorem ixL_does (l : List ByteArray) (hl : l.length ≤ 10000000) (p : ByteArray → Bool) (hp : ∀ x ∈ l, Does Tryd.prog env 27 [(.p (.sc (.string x)))] [] (sB (p x)) []) :
    Does Tryd.prog env 47 [.p (.ps l.length 1 (l.flatMap encS)), .fn (.func 27) [] []] [] (sI .i64 (idxF p l 0)) [] := by
  refine does_of_tree names (ixLs_tree l.length (l.flatMap encS)) ?_
  refine idx_all (l := l) (p := p) (D := fun i => bodyCfg Tryd.prog env 47 0 [.p (.ps l.length 1 (l.flatMap encS)), .fn (.func 27) [] [], sI .i64 l.length, sI .i64 i] [] 0 19) ?_ ?_ l.length 0 (by omega)
  · intro i x o hx h1 h2
    have hi : i < l.length := (List.getElem?_eq_some_iff.1 hx).1
    have c := flat_at (z := 1) (enc := encS) (fun _ => rfl) hx
    have c0 : (l.flatMap encS).getD (i * 1) .bad = .sc (.string x) := c 0 (by decide)
    have w : IntKind.i64.wrap ((i : Int) + 1) = ((i + 1 : Nat) : Int) := by rw [i64In (by omega) (by omega)]; rfl
    have hd : decide ((i : Int) < (l.length : Int)) = true := by simp; omega
    refine good_of_tree names (ixL_tree l.length i (l.flatMap encS) (p x)) ?_
    simp only [ixLTree, Tree.ok, isStr, isInt, isPs, isBool, pvStr, pvInt, pvBool, psLen, psSz, psCells, inB, Int.toNat_natCast, c0, hd, w]
    exact ⟨fun _ => ⟨by first | (simp; done) | (simp; omega), rfl, hp x (List.mem_of_getElem? hx), h1, h2⟩, fun q => (by cases q)⟩
  · have hd : decide ((l.length : Int) < (l.length : Int)) = false := by simp
    refine good_of_tree names (ixL_tree l.length l.length (l.flatMap encS) true) ?_
    simp only [ixLTree, Tree.ok, hd]
    exact ⟨fun q => (by cases q), fun _ => trivial⟩

theorem cfL_does (l : List ByteArray) (hl : l.length ≤ 10000000) (p : ByteArray → Bool) (hp : ∀ x ∈ l, Does Tryd.prog env 27 [(.p (.sc (.string x)))] [] (sB (p x)) []) :
    Does Tryd.prog env 25 [.p (.ps l.length 1 (l.flatMap encS)), .fn (.func 27) [] []] [] (sB (l.any p)) [] := by
  refine does_of_tree names (cfL_tree l.length (l.flatMap encS) (idxF p l 0)) ?_
  simp only [cfLTree, Tree.ok, idx_any]
  exact ⟨ixL_does l hl p hp, trivial⟩

theorem ixN_does (l : List ByteArray) (hl : l.length ≤ 10000000) (p : ByteArray → Bool) (hp : ∀ x ∈ l, Does Tryd.prog env 36 [(.p (.sc (.string x)))] [] (sB (p x)) []) :
    Does Tryd.prog env 47 [.p (.ps l.length 1 (l.flatMap encS)), .fn (.func 36) [] []] [] (sI .i64 (idxF p l 0)) [] := by
  refine does_of_tree names (ixNs_tree l.length (l.flatMap encS)) ?_
  refine idx_all (l := l) (p := p) (D := fun i => bodyCfg Tryd.prog env 47 0 [.p (.ps l.length 1 (l.flatMap encS)), .fn (.func 36) [] [], sI .i64 l.length, sI .i64 i] [] 0 19) ?_ ?_ l.length 0 (by omega)
  · intro i x o hx h1 h2
    have hi : i < l.length := (List.getElem?_eq_some_iff.1 hx).1
    have c := flat_at (z := 1) (enc := encS) (fun _ => rfl) hx
    have c0 : (l.flatMap encS).getD (i * 1) .bad = .sc (.string x) := c 0 (by decide)
    have w : IntKind.i64.wrap ((i : Int) + 1) = ((i + 1 : Nat) : Int) := by rw [i64In (by omega) (by omega)]; rfl
    have hd : decide ((i : Int) < (l.length : Int)) = true := by simp; omega
    refine good_of_tree names (ixN_tree l.length i (l.flatMap encS) (p x)) ?_
    simp only [ixNTree, Tree.ok, isStr, isInt, isPs, isBool, pvStr, pvInt, pvBool, psLen, psSz, psCells, inB, Int.toNat_natCast, c0, hd, w]
    exact ⟨fun _ => ⟨by first | (simp; done) | (simp; omega), rfl, hp x (List.mem_of_getElem? hx), h1, h2⟩, fun q => (by cases q)⟩
  · have hd : decide ((l.length : Int) < (l.length : Int)) = false := by simp
    refine good_of_tree names (ixN_tree l.length l.length (l.flatMap encS) true) ?_
    simp only [ixNTree, Tree.ok, hd]
    exact ⟨fun q => (by cases q), fun _ => trivial⟩

theorem cfN_does (l : List ByteArray) (hl : l.length ≤ 10000000) (p : ByteArray → Bool) (hp : ∀ x ∈ l, Does Tryd.prog env 36 [(.p (.sc (.string x)))] [] (sB (p x)) []) :
    Does Tryd.prog env 25 [.p (.ps l.length 1 (l.flatMap encS)), .fn (.func 36) [] []] [] (sB (l.any p)) [] := by
  refine does_of_tree names (cfN_tree l.length (l.flatMap encS) (idxF p l 0)) ?_
  simp only [cfNTree, Tree.ok, idx_any]
  exact ⟨ixN_does l hl p hp, trivial⟩

theorem ixT_does (l : List Ty) (hl : l.length ≤ 10000000) (p : Ty → Bool) (hp : ∀ x ∈ l, Does Tryd.prog env 29 [(.agg ((encTy x).map .p))] [] (sB (p x)) []) :
    Does Tryd.prog env 48 [.p (.ps l.length 2 (l.flatMap encTy)), .fn (.func 29) [] []] [] (sI .i64 (idxF p l 0)) [] := by
  refine does_of_tree names (ixTs_tree l.length (l.flatMap encTy)) ?_
  refine idx_all (l := l) (p := p) (D := fun i => bodyCfg Tryd.prog env 48 0 [.p (.ps l.length 2 (l.flatMap encTy)), .fn (.func 29) [] [], sI .i64 l.length, sI .i64 i] [] 0 19) ?_ ?_ l.length 0 (by omega)
  · intro i x o hx h1 h2
    have hi : i < l.length := (List.getElem?_eq_some_iff.1 hx).1
    have c := flat_at (z := 2) (enc := encTy) (fun _ => rfl) hx
    have c0 : (l.flatMap encTy).getD (i * 2) .bad = .sc (.int .i64 x.p) := c 0 (by decide)
    have c1 : (l.flatMap encTy).getD (i * 2 + 1) .bad = .sc (.int .i64 x.r) := c 1 (by decide)
    have w : IntKind.i64.wrap ((i : Int) + 1) = ((i + 1 : Nat) : Int) := by rw [i64In (by omega) (by omega)]; rfl
    have hd : decide ((i : Int) < (l.length : Int)) = true := by simp; omega
    refine good_of_tree names (ixT_tree l.length i (l.flatMap encTy) (p x)) ?_
    simp only [ixTTree, Tree.ok, isStr, isInt, isPs, isBool, pvStr, pvInt, pvBool, psLen, psSz, psCells, inB, Int.toNat_natCast, c0, c1, hd, w]
    exact ⟨fun _ => ⟨by first | (simp; done) | (simp; omega), rfl, hp x (List.mem_of_getElem? hx), h1, h2⟩, fun q => (by cases q)⟩
  · have hd : decide ((l.length : Int) < (l.length : Int)) = false := by simp
    refine good_of_tree names (ixT_tree l.length l.length (l.flatMap encTy) true) ?_
    simp only [ixTTree, Tree.ok, hd]
    exact ⟨fun q => (by cases q), fun _ => trivial⟩

theorem cfT_does (l : List Ty) (hl : l.length ≤ 10000000) (p : Ty → Bool) (hp : ∀ x ∈ l, Does Tryd.prog env 29 [(.agg ((encTy x).map .p))] [] (sB (p x)) []) :
    Does Tryd.prog env 28 [.p (.ps l.length 2 (l.flatMap encTy)), .fn (.func 29) [] []] [] (sB (l.any p)) [] := by
  refine does_of_tree names (cfT_tree l.length (l.flatMap encTy) (idxF p l 0)) ?_
  simp only [cfTTree, Tree.ok, idx_any]
  exact ⟨ixT_does l hl p hp, trivial⟩

theorem ixI_does (l : List Im) (hl : l.length ≤ 10000000) (p : Im → Bool) (hp : ∀ x ∈ l, Does Tryd.prog env 32 [(.agg ((encIm x).map .p))] [] (sB (p x)) []) :
    Does Tryd.prog env 49 [.p (.ps l.length 3 (l.flatMap encIm)), .fn (.func 32) [] []] [] (sI .i64 (idxF p l 0)) [] := by
  refine does_of_tree names (ixIs_tree l.length (l.flatMap encIm)) ?_
  refine idx_all (l := l) (p := p) (D := fun i => bodyCfg Tryd.prog env 49 0 [.p (.ps l.length 3 (l.flatMap encIm)), .fn (.func 32) [] [], sI .i64 l.length, sI .i64 i] [] 0 19) ?_ ?_ l.length 0 (by omega)
  · intro i x o hx h1 h2
    have hi : i < l.length := (List.getElem?_eq_some_iff.1 hx).1
    have c := flat_at (z := 3) (enc := encIm) (fun _ => rfl) hx
    have c0 : (l.flatMap encIm).getD (i * 3) .bad = .sc (.string x.mo) := c 0 (by decide)
    have c1 : (l.flatMap encIm).getD (i * 3 + 1) .bad = .sc (.string x.nm) := c 1 (by decide)
    have c2 : (l.flatMap encIm).getD (i * 3 + 1 + 1) .bad = .sc (.int .i64 x.ty) := c 2 (by decide)
    have w : IntKind.i64.wrap ((i : Int) + 1) = ((i + 1 : Nat) : Int) := by rw [i64In (by omega) (by omega)]; rfl
    have hd : decide ((i : Int) < (l.length : Int)) = true := by simp; omega
    refine good_of_tree names (ixI_tree l.length i (l.flatMap encIm) (p x)) ?_
    simp only [ixITree, Tree.ok, isStr, isInt, isPs, isBool, pvStr, pvInt, pvBool, psLen, psSz, psCells, inB, Int.toNat_natCast, c0, c1, c2, hd, w]
    exact ⟨fun _ => ⟨by first | (simp; done) | (simp; omega), rfl, hp x (List.mem_of_getElem? hx), h1, h2⟩, fun q => (by cases q)⟩
  · have hd : decide ((l.length : Int) < (l.length : Int)) = false := by simp
    refine good_of_tree names (ixI_tree l.length l.length (l.flatMap encIm) true) ?_
    simp only [ixITree, Tree.ok, hd]
    exact ⟨fun q => (by cases q), fun _ => trivial⟩

theorem cfI_does (l : List Im) (hl : l.length ≤ 10000000) (p : Im → Bool) (hp : ∀ x ∈ l, Does Tryd.prog env 32 [(.agg ((encIm x).map .p))] [] (sB (p x)) []) :
    Does Tryd.prog env 31 [.p (.ps l.length 3 (l.flatMap encIm)), .fn (.func 32) [] []] [] (sB (l.any p)) [] := by
  refine does_of_tree names (cfI_tree l.length (l.flatMap encIm) (idxF p l 0)) ?_
  simp only [cfITree, Tree.ok, idx_any]
  exact ⟨ixI_does l hl p hp, trivial⟩

theorem ixF_does (l : List Fu) (hl : l.length ≤ 10000000) (p : Fu → Bool) (hp : ∀ x ∈ l, Does Tryd.prog env 35 [(.agg ((encFu x).map .p))] [] (sB (p x)) []) :
    Does Tryd.prog env 50 [.p (.ps l.length 3 (l.flatMap encFu)), .fn (.func 35) [] []] [] (sI .i64 (idxF p l 0)) [] := by
  refine does_of_tree names (ixFs_tree l.length (l.flatMap encFu)) ?_
  refine idx_all (l := l) (p := p) (D := fun i => bodyCfg Tryd.prog env 50 0 [.p (.ps l.length 3 (l.flatMap encFu)), .fn (.func 35) [] [], sI .i64 l.length, sI .i64 i] [] 0 19) ?_ ?_ l.length 0 (by omega)
  · intro i x o hx h1 h2
    have hi : i < l.length := (List.getElem?_eq_some_iff.1 hx).1
    have c := flat_at (z := 3) (enc := encFu) (fun _ => rfl) hx
    have c0 : (l.flatMap encFu).getD (i * 3) .bad = .sc (.int .i64 x.ty) := c 0 (by decide)
    have c1 : (l.flatMap encFu).getD (i * 3 + 1) .bad = .sc (.int .i64 x.lo) := c 1 (by decide)
    have c2 : (l.flatMap encFu).getD (i * 3 + 1 + 1) .bad = pL x.l := c 2 (by decide)
    have w : IntKind.i64.wrap ((i : Int) + 1) = ((i + 1 : Nat) : Int) := by rw [i64In (by omega) (by omega)]; rfl
    have hd : decide ((i : Int) < (l.length : Int)) = true := by simp; omega
    refine good_of_tree names (ixF_tree l.length i (l.flatMap encFu) (p x)) ?_
    simp only [ixFTree, Tree.ok, isStr, isInt, isPs, isBool, pvStr, pvInt, pvBool, psLen, psSz, psCells, inB, Int.toNat_natCast, c0, c1, c2, hd, w]
    exact ⟨fun _ => ⟨by first | (simp; done) | (simp; omega), rfl, hp x (List.mem_of_getElem? hx), h1, h2⟩, fun q => (by cases q)⟩
  · have hd : decide ((l.length : Int) < (l.length : Int)) = false := by simp
    refine good_of_tree names (ixF_tree l.length l.length (l.flatMap encFu) true) ?_
    simp only [ixFTree, Tree.ok, hd]
    exact ⟨fun q => (by cases q), fun _ => trivial⟩

theorem cfF_does (l : List Fu) (hl : l.length ≤ 10000000) (p : Fu → Bool) (hp : ∀ x ∈ l, Does Tryd.prog env 35 [(.agg ((encFu x).map .p))] [] (sB (p x)) []) :
    Does Tryd.prog env 34 [.p (.ps l.length 3 (l.flatMap encFu)), .fn (.func 35) [] []] [] (sB (l.any p)) [] := by
  refine does_of_tree names (cfF_tree l.length (l.flatMap encFu) (idxF p l 0)) ?_
  simp only [cfFTree, Tree.ok, idx_any]
  exact ⟨ixF_does l hl p hp, trivial⟩

theorem ixA_does (l : List Li) (hl : l.length ≤ 10000000) (p : Li → Bool) (hp : ∀ x ∈ l, Does Tryd.prog env 39 [(.agg ((encLi x).map .p))] [] (sB (p x)) []) :
    Does Tryd.prog env 52 [.p (.ps l.length 3 (l.flatMap encLi)), .fn (.func 39) [] []] [] (sI .i64 (idxF p l 0)) [] := by
  refine does_of_tree names (ixAs_tree l.length (l.flatMap encLi)) ?_
  refine idx_all (l := l) (p := p) (D := fun i => bodyCfg Tryd.prog env 52 0 [.p (.ps l.length 3 (l.flatMap encLi)), .fn (.func 39) [] [], sI .i64 l.length, sI .i64 i] [] 0 19) ?_ ?_ l.length 0 (by omega)
  · intro i x o hx h1 h2
    have hi : i < l.length := (List.getElem?_eq_some_iff.1 hx).1
    have c := flat_at (z := 3) (enc := encLi) (fun _ => rfl) hx
    have c0 : (l.flatMap encLi).getD (i * 3) .bad = .sc (.int .u32 x.mn) := c 0 (by decide)
    have c1 : (l.flatMap encLi).getD (i * 3 + 1) .bad = .sc (.int .u32 x.mx) := c 1 (by decide)
    have c2 : (l.flatMap encLi).getD (i * 3 + 1 + 1) .bad = .sc (.bool x.cap) := c 2 (by decide)
    have w : IntKind.i64.wrap ((i : Int) + 1) = ((i + 1 : Nat) : Int) := by rw [i64In (by omega) (by omega)]; rfl
    have hd : decide ((i : Int) < (l.length : Int)) = true := by simp; omega
    refine good_of_tree names (ixA_tree l.length i (l.flatMap encLi) (p x)) ?_
    simp only [ixATree, Tree.ok, isStr, isInt, isPs, isBool, pvStr, pvInt, pvBool, psLen, psSz, psCells, inB, Int.toNat_natCast, c0, c1, c2, hd, w]
    exact ⟨fun _ => ⟨by first | (simp; done) | (simp; omega), rfl, hp x (List.mem_of_getElem? hx), h1, h2⟩, fun q => (by cases q)⟩
  · have hd : decide ((l.length : Int) < (l.length : Int)) = false := by simp
    refine good_of_tree names (ixA_tree l.length l.length (l.flatMap encLi) true) ?_
    simp only [ixATree, Tree.ok, hd]
    exact ⟨fun q => (by cases q), fun _ => trivial⟩

theorem cfA_does (l : List Li) (hl : l.length ≤ 10000000) (p : Li → Bool) (hp : ∀ x ∈ l, Does Tryd.prog env 39 [(.agg ((encLi x).map .p))] [] (sB (p x)) []) :
    Does Tryd.prog env 38 [.p (.ps l.length 3 (l.flatMap encLi)), .fn (.func 39) [] []] [] (sB (l.any p)) [] := by
  refine does_of_tree names (cfA_tree l.length (l.flatMap encLi) (idxF p l 0)) ?_
  simp only [cfATree, Tree.ok, idx_any]
  exact ⟨ixA_does l hl p hp, trivial⟩

theorem ixB_does (l : List Li) (hl : l.length ≤ 10000000) (p : Li → Bool) (hp : ∀ x ∈ l, Does Tryd.prog env 41 [(.agg ((encLi x).map .p))] [] (sB (p x)) []) :
    Does Tryd.prog env 52 [.p (.ps l.length 3 (l.flatMap encLi)), .fn (.func 41) [] []] [] (sI .i64 (idxF p l 0)) [] := by
  refine does_of_tree names (ixBs_tree l.length (l.flatMap encLi)) ?_
  refine idx_all (l := l) (p := p) (D := fun i => bodyCfg Tryd.prog env 52 0 [.p (.ps l.length 3 (l.flatMap encLi)), .fn (.func 41) [] [], sI .i64 l.length, sI .i64 i] [] 0 19) ?_ ?_ l.length 0 (by omega)
  · intro i x o hx h1 h2
    have hi : i < l.length := (List.getElem?_eq_some_iff.1 hx).1
    have c := flat_at (z := 3) (enc := encLi) (fun _ => rfl) hx
    have c0 : (l.flatMap encLi).getD (i * 3) .bad = .sc (.int .u32 x.mn) := c 0 (by decide)
    have c1 : (l.flatMap encLi).getD (i * 3 + 1) .bad = .sc (.int .u32 x.mx) := c 1 (by decide)
    have c2 : (l.flatMap encLi).getD (i * 3 + 1 + 1) .bad = .sc (.bool x.cap) := c 2 (by decide)
    have w : IntKind.i64.wrap ((i : Int) + 1) = ((i + 1 : Nat) : Int) := by rw [i64In (by omega) (by omega)]; rfl
    have hd : decide ((i : Int) < (l.length : Int)) = true := by simp; omega
    refine good_of_tree names (ixB_tree l.length i (l.flatMap encLi) (p x)) ?_
    simp only [ixBTree, Tree.ok, isStr, isInt, isPs, isBool, pvStr, pvInt, pvBool, psLen, psSz, psCells, inB, Int.toNat_natCast, c0, c1, c2, hd, w]
    exact ⟨fun _ => ⟨by first | (simp; done) | (simp; omega), rfl, hp x (List.mem_of_getElem? hx), h1, h2⟩, fun q => (by cases q)⟩
  · have hd : decide ((l.length : Int) < (l.length : Int)) = false := by simp
    refine good_of_tree names (ixB_tree l.length l.length (l.flatMap encLi) true) ?_
    simp only [ixBTree, Tree.ok, hd]
    exact ⟨fun q => (by cases q), fun _ => trivial⟩

theorem cfB_does (l : List Li) (hl : l.length ≤ 10000000) (p : Li → Bool) (hp : ∀ x ∈ l, Does Tryd.prog env 41 [(.agg ((encLi x).map .p))] [] (sB (p x)) []) :
    Does Tryd.prog env 38 [.p (.ps l.length 3 (l.flatMap encLi)), .fn (.func 41) [] []] [] (sB (l.any p)) [] := by
  refine does_of_tree names (cfB_tree l.length (l.flatMap encLi) (idxF p l 0)) ?_
  simp only [cfBTree, Tree.ok, idx_any]
  exact ⟨ixB_does l hl p hp, trivial⟩

theorem ixX_does (l : List Ex) (hl : l.length ≤ 10000000) (p : Ex → Bool) (hp : ∀ x ∈ l, Does Tryd.prog env 43 [(.agg ((encEx x).map .p))] [] (sB (p x)) []) :
    Does Tryd.prog env 17 [.p (.ps l.length 3 (l.flatMap encEx)), .fn (.func 43) [] []] [] (sI .i64 (idxF p l 0)) [] := by
  refine does_of_tree names (ixXs_tree l.length (l.flatMap encEx)) ?_
  refine idx_all (l := l) (p := p) (D := fun i => bodyCfg Tryd.prog env 17 0 [.p (.ps l.length 3 (l.flatMap encEx)), .fn (.func 43) [] [], sI .i64 l.length, sI .i64 i] [] 0 19) ?_ ?_ l.length 0 (by omega)
  · intro i x o hx h1 h2
    have hi : i < l.length := (List.getElem?_eq_some_iff.1 hx).1
    have c := flat_at (z := 3) (enc := encEx) (fun _ => rfl) hx
    have c0 : (l.flatMap encEx).getD (i * 3) .bad = .sc (.string x.nm) := c 0 (by decide)
    have c1 : (l.flatMap encEx).getD (i * 3 + 1) .bad = .sc (.int .i64 x.kind) := c 1 (by decide)
    have c2 : (l.flatMap encEx).getD (i * 3 + 1 + 1) .bad = .sc (.int .u32 x.ix) := c 2 (by decide)
    have w : IntKind.i64.wrap ((i : Int) + 1) = ((i + 1 : Nat) : Int) := by rw [i64In (by omega) (by omega)]; rfl
    have hd : decide ((i : Int) < (l.length : Int)) = true := by simp; omega
    refine good_of_tree names (ixX_tree l.length i (l.flatMap encEx) (p x)) ?_
    simp only [ixXTree, Tree.ok, isStr, isInt, isPs, isBool, pvStr, pvInt, pvBool, psLen, psSz, psCells, inB, Int.toNat_natCast, c0, c1, c2, hd, w]
    exact ⟨fun _ => ⟨by first | (simp; done) | (simp; omega), rfl, hp x (List.mem_of_getElem? hx), h1, h2⟩, fun q => (by cases q)⟩
  · have hd : decide ((l.length : Int) < (l.length : Int)) = false := by simp
    refine good_of_tree names (ixX_tree l.length l.length (l.flatMap encEx) true) ?_
    simp only [ixXTree, Tree.ok, hd]
    exact ⟨fun q => (by cases q), fun _ => trivial⟩

theorem cfX_does (l : List Ex) (hl : l.length ≤ 10000000) (p : Ex → Bool) (hp : ∀ x ∈ l, Does Tryd.prog env 43 [(.agg ((encEx x).map .p))] [] (sB (p x)) []) :
    Does Tryd.prog env 42 [.p (.ps l.length 3 (l.flatMap encEx)), .fn (.func 43) [] []] [] (sB (l.any p)) [] := by
  refine does_of_tree names (cfX_tree l.length (l.flatMap encEx) (idxF p l 0)) ?_
  simp only [cfXTree, Tree.ok, idx_any]
  exact ⟨ixX_does l hl p hp, trivial⟩

def kcF (x : Ty) : Int := if 0 ≤ x.p ∧ x.p ≤ 255 ∧ 0 ≤ x.r ∧ x.r ≤ 1 then 0 else 2
def klF (most : Int) (x : Li) : Int := if x.mn > most ∨ (x.cap = true ∧ (x.mx < x.mn ∨ x.mx > most)) ∨ (x.cap = false ∧ x.mx ≠ 0) then 2 else 0

theorem kch_does (x : Ty) : Does Tryd.prog env 30 [.agg ((encTy x).map .p)] [] (sI .i64 (kcF x)) [] := by
  refine does_of_tree names (kch_tree x.p x.r) ?_
  simp only [kchTree, Tree.ok, cond_true, cond_false, Bool.and_true]
  refine ⟨fun q => ?_, fun q => ?_⟩
  · simp only [Bool.not_eq_true', Bool.and_eq_false_iff, beq_eq_false_iff_ne, ne_eq] at q
    rw [kcF, if_neg (by omega)]
  · simp only [Bool.not_eq_false', Bool.and_eq_true, beq_iff_eq] at q
    rw [kcF, if_pos (by omega)]

theorem kli_does (x : Li) (most : Int) : Does Tryd.prog env 40 [.agg ((encLi x).map .p), sI .u32 most] [] (sI .i64 (klF most x)) [] := by
  refine does_of_tree names (kli_tree x.mn x.mx x.cap most) ?_
  obtain ⟨mn, mx, cap⟩ := x
  simp only [kliTree, Tree.ok, klF]
  cases cap with
  | true =>
    refine ⟨fun q => ?_, fun q => ⟨fun _ => ⟨fun r => ?_, fun r => ⟨fun t => ?_, fun t => ⟨rfl, ?_⟩⟩⟩, fun r => (by cases r)⟩⟩ <;> simp only [decide_eq_true_eq, decide_eq_false_iff_not] at *
    · rw [if_pos (.inl q)]
    · rw [if_pos (.inr (.inl ⟨trivial, .inl r⟩))]
    · rw [if_pos (.inr (.inl ⟨trivial, .inr t⟩))]
    · rw [if_neg (by simp; omega)]
  | false =>
    refine ⟨fun q => ?_, fun q => ⟨fun r => (by cases r), fun _ => ⟨rfl, fun r => ?_, fun r => ?_⟩⟩⟩
    · simp only [decide_eq_true_eq] at q
      rw [if_pos (.inl q)]
    · rw [if_pos (.inr (.inr ⟨rfl, by simpa using r⟩))]
    · simp only [decide_eq_false_iff_not] at q
      have r : mx = 0 := by simpa using r
      rw [if_neg (by simp [r]; omega)]

def manyE (x : El) : Bool := decide ((x.fs.length : Int) > 16384)
def longS (s : ByteArray) : Bool := decide ((s.data.toList.length : Int) > 1000)
def badT (x : Ty) : Bool := kcF x != 0
def badI (x : Im) : Bool := !(decide (0 ≤ x.ty) && decide (x.ty ≤ 2147483647))
def badU (x : Fu) : Bool := !(decide (0 ≤ x.ty) && decide (x.ty ≤ 2147483647)) || decide (x.lo < 0) || decide (x.lo > 50000)
def badL (most : Int) (x : Li) : Bool := klF most x != 0
def badX (x : Ex) : Bool := decide (x.kind < 0) || decide (x.kind > 3)

theorem clE_does (x : El) : Does Tryd.prog env 23 [.agg ((encEl x).map .p)] [] (sB (manyE x)) [] := does_of_tree names (clE_tree x) rfl
theorem clL_does (s : ByteArray) : Does Tryd.prog env 27 [.p (.sc (.string s))] [] (sB (longS s)) [] := does_of_tree names (clL_tree s) rfl
theorem clT_does (x : Ty) : Does Tryd.prog env 29 [.agg ((encTy x).map .p)] [] (sB (badT x)) [] := does_of_tree names (clT_tree x (kcF x)) ⟨kch_does x, rfl⟩
theorem clA_does (x : Li) : Does Tryd.prog env 39 [.agg ((encLi x).map .p)] [] (sB (badL 1048576 x)) [] := does_of_tree names (clA_tree x (klF 1048576 x)) ⟨kli_does x _, rfl⟩
theorem clB_does (x : Li) : Does Tryd.prog env 41 [.agg ((encLi x).map .p)] [] (sB (badL 65536 x)) [] := does_of_tree names (clB_tree x (klF 65536 x)) ⟨kli_does x _, rfl⟩
theorem clI_does (x : Im) : Does Tryd.prog env 32 [.agg ((encIm x).map .p)] [] (sB (badI x)) [] := by
  refine does_of_tree names (clI_tree x) ?_
  simp only [clITree, Tree.ok, badI, ge_iff_le]
  exact ⟨fun q => by rw [q, Bool.true_and], fun q => by rw [q]; rfl⟩
theorem clX_does (x : Ex) : Does Tryd.prog env 43 [.agg ((encEx x).map .p)] [] (sB (badX x)) [] := by
  refine does_of_tree names (clX_tree x) ?_
  simp only [clXTree, Tree.ok, badX]
  exact ⟨fun q => by rw [q]; rfl, fun q => by rw [q, Bool.false_or]⟩
theorem clF_does (x : Fu) : Does Tryd.prog env 35 [.agg ((encFu x).map .p)] [] (sB (badU x)) [] := by
  refine does_of_tree names (clF_tree x) ?_
  simp only [clFTree, Tree.ok, badU, ge_iff_le]
  refine ⟨fun q => ⟨fun r => ?_, fun r => ⟨fun t => ?_, fun t => ?_⟩⟩, fun q => ?_⟩
  · rw [q, Bool.true_and, r]; rfl
  · rw [q, Bool.true_and, r, t]; rfl
  · rw [q, Bool.true_and, r, t]; rfl
  · rw [q]; rfl

def nms (M : Mo) : List ByteArray := M.ims.flatMap (fun x => [x.mo, x.nm]) ++ M.exs.map Ex.nm
def cds (M : Mo) : List (List Ins) := M.fns.map Fu.l ++ M.gls.map Gl.l ++ M.els.map El.l ++ M.das.map Da.l

theorem map_flat {α β : Type} {f : α → β} {g : β → List PV} : ∀ l : List α, (l.map f).flatMap g = l.flatMap fun x => g (f x)
  | [] => rfl
  | x :: r => by rw [List.map_cons, List.flatMap_cons, List.flatMap_cons, map_flat r]
theorem nm_flat : ∀ l : List Im, (l.flatMap fun x => [x.mo, x.nm]).flatMap encS = l.flatMap nmI
  | [] => rfl
  | x :: r => by rw [List.flatMap_cons, List.flatMap_cons, List.flatMap_append, nm_flat r]; rfl
theorem nmsP_eq (M : Mo) : nmsP M = (nms M).flatMap encS := by
  rw [nms, List.flatMap_append, map_flat, nm_flat]; rfl
theorem cdsP_eq (M : Mo) : cdsP M = (cds M).flatMap encC := by
  rw [cds, List.flatMap_append, List.flatMap_append, List.flatMap_append, map_flat, map_flat, map_flat, map_flat]; rfl
theorem nms_len (M : Mo) : (nmsP M).length = (nms M).length := by rw [nmsP_eq, flat_one (n := 1) (fun _ => rfl), Nat.mul_one]
theorem cds_len (M : Mo) : (cdsP M).length = (cds M).length := by rw [cdsP_eq, flat_one (n := 1) (fun _ => rfl), Nat.mul_one]
theorem nms_le {M : Mo} (hM : M.fit) : (nms M).length ≤ 10000000 := by
  have h1 := hM.ims; have h2 := hM.exs
  have l1 := flat_one (f := nmI) (n := 2) (fun _ => rfl) M.ims
  have l2 := flat_one (f := nmE) (n := 1) (fun _ => rfl) M.exs
  rw [← nms_len, nmsP, List.length_append]; omega
theorem cds_le {M : Mo} (hM : M.fit) : (cds M).length ≤ 10000000 := by
  have h1 := hM.fns; have h2 := hM.gls; have h3 := hM.els; have h4 := hM.das
  simp only [cds, List.length_append, List.length_map]; omega

theorem namesD (M : Mo) (hM : M.fit) : Does Tryd.prog env 26 [.agg (M.pvs.map .p)] [] (.p (.ps (nms M).length 1 ((nms M).flatMap encS))) [] := by
  have h := names_does M hM
  rw [nms_len, nmsP_eq] at h
  exact h
theorem codesD (M : Mo) (hM : M.fit) : Does Tryd.prog env 19 [.agg (M.pvs.map .p)] [] (.p (.ps (cds M).length 1 ((cds M).flatMap encC))) [] := by
  have h := codes_does M hM
  rw [cds_len, cdsP_eq] at h
  exact h

def _root_.Go.Am.Mo.slim (M : Mo) : Prop := ∀ l ∈ cds M, numL l ≤ 100000000000

def hasE (M : Mo) (e : Int) : Bool := (cds M).any fun l => checkF mayI l == e

theorem lil_all {l : List (List Ins)} {e : Int} (hl : l.length ≤ 10000000) (hs : ∀ x ∈ l, numL x ≤ 100000000000) : ∀ (r i : Nat), i + r = l.length →
    Am.Good Tryd.prog env (bodyCfg Tryd.prog env 24 0 [sI .i64 e, .p (.ps l.length 1 (l.flatMap encC)), sI .i64 l.length, sI .i64 i] [] 0 20) (.ret (sI .i64 (if (l.drop i).any (fun x => checkF mayI x == e) = true then e else 0)) []) := by
  intro r
  induction r with
  | zero =>
    intro i hi
    obtain rfl : i = l.length := by omega
    have hd : decide ((l.length : Int) < (l.length : Int)) = false := by simp
    refine good_of_tree names (lil_tree e l.length l.length (l.flatMap encC) 0) ?_
    simp only [lilTree, Tree.ok, hd, List.drop_length]
    exact ⟨fun q => (by cases q), fun _ => rfl⟩
  | succ r ih =>
    intro i hi
    have hil : i < l.length := by omega
    have hx := List.getElem?_eq_getElem hil
    have hm : l[i] ∈ l := List.getElem_mem hil
    rw [List.drop_eq_getElem_cons hil, List.any_cons]
    generalize l[i] = x at *
    have c := flat_at (z := 1) (enc := encC) (fun _ => rfl) hx
    have c0 : (l.flatMap encC).getD (i * 1) .bad = pL x := c 0 (by decide)
    have w : IntKind.i64.wrap ((i : Int) + 1) = ((i + 1 : Nat) : Int) := by rw [i64In (by omega) (by omega)]; rfl
    have hd : decide ((i : Int) < (l.length : Int)) = true := by simp; omega
    refine good_of_tree names (lil_tree e l.length i (l.flatMap encC) (checkF mayI x)) ?_
    simp only [lilTree, Tree.ok, isPs, psLen, psSz, psCells, inB, Int.toNat_natCast, c0, hd, w]
    refine ⟨fun _ => ⟨by first | (simp; done) | (simp; omega), rfl, check_does mayI_does x (hs x hm), fun q => ?_, fun q => ?_⟩, fun q => (by cases q)⟩
    · rw [q, Bool.true_or, if_pos rfl]
    · rw [q, Bool.false_or]
      exact ih (i + 1) (by omega)

theorem mlists_does (M : Mo) (hM : M.fit) (hs : M.slim) (e : Int) : Does Tryd.prog env 24 [.agg (M.pvs.map .p), sI .i64 e] [] (sI .i64 (if hasE M e = true then e else 0)) [] := by
  refine does_of_tree names (mls_tree M e (cds M).length ((cds M).flatMap encC)) ?_
  exact ⟨codesD M hM, lil_all (cds_le hM) hs (cds M).length 0 (by omega)⟩

def leftF : Int → List Da → Int
  | n, [] => n
  | n, x :: r => leftF (n - min (x.bs.length : Int) (n + 1)) r

def anyLong (M : Mo) : Bool := (nms M).any longS
def longF (M : Mo) : Int := if leftF 1048576 M.das < 0 ∨ anyLong M = true then 3 else 0

theorem lol_all (M : Mo) (hM : M.fit) : ∀ (r i : Nat) (n : Int), i + r = M.das.length → -1 ≤ n → n ≤ 1048576 →
    Am.Good Tryd.prog env (bodyCfg Tryd.prog env 15 0 [.mp 0 0, sI .i64 n, .p (.ps M.das.length 2 (M.das.flatMap encDa)), sI .i64 M.das.length, sI .i64 i] [.pc M.pvs] 0 29) (.ret (sI .i64 (if leftF n (M.das.drop i) < 0 ∨ anyLong M = true then 3 else 0)) []) := by
  intro r
  induction r with
  | zero =>
    intro i n hi h1 h2
    obtain rfl : i = M.das.length := by omega
    have hd : decide ((M.das.length : Int) < (M.das.length : Int)) = false := by simp
    refine good_of_tree names (lol_tree M M.das.length M.das.length n (M.das.flatMap encDa) (nms M).length ((nms M).flatMap encS) (anyLong M)) ?_
    simp only [lolTree, Tree.ok, hd, List.drop_length, leftF]
    refine ⟨fun q => (by cases q), fun _ => ⟨fun q => ?_, fun q => ⟨namesD M hM, cfL_does (nms M) (nms_le hM) longS (fun x _ => clL_does x), fun t => ?_, fun t => ?_⟩⟩⟩ <;> simp only [decide_eq_true_eq, decide_eq_false_iff_not] at q
    · rw [if_pos (.inl q)]
    · rw [if_pos (.inr t)]
    · rw [if_neg (by simp [t]; omega)]
  | succ r ih =>
    intro i n hi h1 h2
    have hl := hM.das
    have hil : i < M.das.length := by omega
    have hx := List.getElem?_eq_getElem hil
    rw [List.drop_eq_getElem_cons hil]
    generalize M.das[i] = x at *
    have c := flat_at (z := 2) (enc := encDa) (fun _ => rfl) hx
    have c0 : (M.das.flatMap encDa).getD (i * 2) .bad = pL x.l := c 0 (by decide)
    have c1 : (M.das.flatMap encDa).getD (i * 2 + 1) .bad = pT .u8 x.bs := c 1 (by decide)
    have w : IntKind.i64.wrap ((i : Int) + 1) = ((i + 1 : Nat) : Int) := by rw [i64In (by omega) (by omega)]; rfl
    have w1 : IntKind.i64.wrap (n + 1) = n + 1 := i64In (by omega) (by omega)
    have w2 : IntKind.i64.wrap (n - min (x.bs.length : Int) (n + 1)) = n - min (x.bs.length : Int) (n + 1) := i64In (by omega) (by omega)
    have hd : decide ((i : Int) < (M.das.length : Int)) = true := by simp; omega
    refine good_of_tree names (lol_tree M M.das.length i n (M.das.flatMap encDa) 0 [] true) ?_
    simp only [lolTree, Tree.ok, isPs, psLen, psSz, psCells, inB, Int.toNat_natCast, c0, c1, hd, w, w1, w2, cond_true, leftF]
    exact ⟨fun _ => ⟨by first | (simp; done) | (simp; omega), rfl, ih (i + 1) _ (by omega) (by omega) (by omega)⟩, fun q => (by cases q)⟩

theorem long_does (M : Mo) (hM : M.fit) : Does Tryd.prog env 15 [.agg (M.pvs.map .p)] [] (sI .i64 (longF M)) [] :=
  does_of_tree names (los_tree M) (lol_all M hM M.das.length 0 1048576 (by omega) (by omega) (by omega))

def manyB (M : Mo) : Bool := decide (M.tas.length > 1) || decide (M.mes.length > 1) || decide (max (max (max (max (max (max (M.tys.length : Int) M.ims.length) M.fns.length) M.gls.length) M.exs.length) M.els.length) M.das.length > 16384) || M.els.any manyE
def manyF (M : Mo) : Int := if manyB M = true then 141 else if hasE M 141 = true then 141 else 0

theorem many_does (M : Mo) (hM : M.fit) (hs : M.slim) : Does Tryd.prog env 14 [.agg (M.pvs.map .p)] [] (sI .i64 (manyF M)) [] := by
  have hE := cfE_does M.els (by have := hM.els; omega) manyE (fun x _ => clE_does x)
  refine does_of_tree names (man_tree M (M.els.any manyE) (if hasE M 141 = true then 141 else 0)) ?_
  have hli := mlists_does M hM hs 141
  have hF : manyF M = if manyB M = true then 141 else if hasE M 141 = true then 141 else 0 := rfl
  generalize (if hasE M 141 = true then (141 : Int) else 0) = v at hli hF ⊢
  simp only [manTree, Tree.ok, cond_false, cond_true]
  refine ⟨fun q => ?_, fun q => ⟨fun r => ?_, fun r => ⟨fun t => ?_, fun t => ⟨hE, fun u => ?_, fun u => ⟨hli, ?_⟩⟩⟩⟩⟩ <;> simp only [decide_eq_true_eq, decide_eq_false_iff_not] at *
  · rw [hF, if_pos (by simp only [manyB, Bool.or_eq_true, decide_eq_true_eq]; omega)]
  · rw [hF, if_pos (by simp only [manyB, Bool.or_eq_true, decide_eq_true_eq]; omega)]
  · rw [hF, if_pos (by simp only [manyB, Bool.or_eq_true, decide_eq_true_eq]; omega)]
  · rw [hF, if_pos (by simp [manyB, u])]
  · rw [hF, if_neg (by simp only [manyB, u, Bool.or_eq_true, decide_eq_true_eq, Bool.or_false]; omega)]

end Go.Proofs.YtdmmllcjgjmbbaaDoor.N
end
