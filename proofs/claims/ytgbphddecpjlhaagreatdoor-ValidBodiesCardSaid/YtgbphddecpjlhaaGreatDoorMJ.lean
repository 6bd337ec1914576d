/-
  The looker's turns: a state, how it is turned, or the first error.
-/
import Derived.Test.YtgbphddecpjlhaaGreatDoorMI

section
set_option linter.unusedSimpArgs false
namespace Go.Proofs.YtgbphddecpjlhaaGreatDoor.N
open Go Go.Am

def isTurn (f : FuncId) : Bool := Nat.beq f 137 || (Nat.beq f 139 || (Nat.beq f 133 || (Nat.beq f 153 || Nat.beq f 86)))
def lkOk (_M : Md) (_tP _tR _own _h : Int) (_k : Nat) (_cs : List PV) (_e _p _nx _n _q _r h2 : Int) (k2 : Nat) (c2 : List PV) (_ec : Int) (f : FuncId) (_ : List AV) (m : Mem) : Option (AV × Mem) := cond (isTurn f) (some (.tup [.agg [sI .i64 h2, .ms 1 0 k2 4 none], sI .i64 0], m ++ [frB c2])) none
def lkBad (_M : Md) (_tP _tR _own _h : Int) (_k : Nat) (_cs : List PV) (_e _p _nx _n _q _r _h2 : Int) (_k2 : Nat) (_c2 : List PV) (ec : Int) (f : FuncId) (_ : List AV) (m : Mem) : Option (AV × Mem) := cond (isTurn f) (some (.tup [.agg [sI .i64 0, .os none 0 0 []], sI .i64 ec], m)) none
def labC (_M : Md) (_tP _tR _own _h : Int) (_k : Nat) (_cs : List PV) (_e _p _nx _a _q v : Int) (_ec : Int) (f : FuncId) (_ : List AV) (m : Mem) : Option (AV × Mem) := cond (Nat.beq f 135) (some (.tup [sI .i64 v, sI .i64 0], m)) none
def slaC (f : FuncId) (_ : List AV) (m : Mem) : Option (AV × Mem) := cond (Nat.beq f 142) (some (sI .i64 0, m)) none
def slaS (_h : Int) (_n k : Nat) (_cs : List PV) (_a op base res : Int) (dead : Bool) : FuncId → Nat → Nat → Option (AV → AV) := shapeAt [(135, 6, 7, sI .i64 k), (135, 6, 9, .agg [sI .i64 op, sI .i64 base, sI .i64 res, sB dead])]
noncomputable def lpopOOrc (M : Md) (tP tR own h : Int) (k : Nat) (cs : List PV) (e p nx n q r h2 : Int) (k2 : Nat) (c2 : List PV) (ec : Int) : Orc := orcL (lkOk M tP tR own h k cs e p nx n q r h2 k2 c2 ec) (lkOk M tP tR own h k cs e p nx n q r h2 k2 c2 ec) [] [] []
def lpopOSc : Sc := .fin
noncomputable def lpopOTree (M : Md) (tP tR own h : Int) (k : Nat) (cs : List PV) (_e p nx n _q _r h2 : Int) (k2 : Nat) (c2 : List PV) (_ec : Int) : Tree :=
 (.call ⟨137, [.agg [sI .i64 h, .ms 0 0 k 4 none], sI .i64 n], [.ob (ObK.gr 135 true) (List.map keepP (List.map keepP (List.map keepP (List.map AV.p cs))))], .tup [.agg [sI .i64 h2, .ms 1 0 k2 4 none], sI .i64 0], [.ob (ObK.gr 135 true) (List.map keepP (List.map keepP (List.map keepP (List.map AV.p cs)))), .ob (ObK.gr 135 true) (List.map AV.p c2)]⟩
 (.out (.ret (.tup []) [.ac [.p (.ps M.tyN 2 M.tyC), .p (.ps M.imN 3 M.imC), .p (.ps M.fnN 3 M.fnC), .p (.ps M.taN 3 M.taC), .p (.ps M.meN 3 M.meC), .p (.ps M.glN 2 M.glC), .p (.ps M.exN 3 M.exC), .p (.sc (.bool M.st)), sI .u32 M.sn, .p (.ps M.elN 2 M.elC), .p (.ps M.daN 2 M.daC), sI .i64 tP, sI .i64 tR, sI .u64 own, sI .i64 h2, .ms 2 0 k2 4 none, sI .i64 0, sI .i64 p, sI .i64 nx], .ob (ObK.gr 135 true) (List.map keepP (List.map keepP (List.map keepP (List.map keepP (List.map keepP (List.map keepP (List.map keepP (List.map keepP (List.map keepP (List.map keepP (List.map keepP (List.map keepP (List.map AV.p cs))))))))))))), .ob (ObK.gr 135 true) (List.map keepP (List.map keepP (List.map keepP (List.map keepP (List.map keepP (List.map keepP (List.map AV.p c2)))))))])))
theorem lpopO_tree (M : Md) (tP tR own h : Int) (k : Nat) (cs : List PV) (e p nx n q r h2 : Int) (k2 : Nat) (c2 : List PV) (ec : Int) : growF Tryz.prog env (lpopOOrc M tP tR own h k cs e p nx n q r h2 k2 c2 ec) 1000000 110 ([AV.mp 0 0, sI IntKind.i64 n, sI IntKind.i64 q]) ([lkB M tP tR own h 1 k 0 p nx, frB cs]) lpopOSc = lpopOTree M tP tR own h k cs e p nx n q r h2 k2 c2 ec := by kernel_rfl

noncomputable def lpopBOrc (M : Md) (tP tR own h : Int) (k : Nat) (cs : List PV) (e p nx n q r h2 : Int) (k2 : Nat) (c2 : List PV) (ec : Int) : Orc := orcL (lkBad M tP tR own h k cs e p nx n q r h2 k2 c2 ec) (lkBad M tP tR own h k cs e p nx n q r h2 k2 c2 ec) [] [(116, 0, 0), (84, 0, 1)] []
def lpopBSc : Sc := (.yes (.no .fin))
noncomputable def lpopBTree (M : Md) (tP tR own h : Int) (k : Nat) (cs : List PV) (_e _p nx n q _r _h2 : Int) (_k2 : Nat) (_c2 : List PV) (ec : Int) : Tree :=
 (.call ⟨137, [.agg [sI .i64 h, .ms 0 0 k 4 none], sI .i64 n], [.ob (ObK.gr 135 true) (List.map keepP (List.map keepP (List.map keepP (List.map AV.p cs))))], .tup [.agg [sI .i64 0, .os none 0 0 []], sI .i64 ec], [.ob (ObK.gr 135 true) (List.map keepP (List.map keepP (List.map keepP (List.map AV.p cs))))]⟩
 (.must (ec != 0)
 (.must (!(ec == 0))
 (.out (.ret (.tup []) [.ac [.p (.ps M.tyN 2 M.tyC), .p (.ps M.imN 3 M.imC), .p (.ps M.fnN 3 M.fnC), .p (.ps M.taN 3 M.taC), .p (.ps M.meN 3 M.meC), .p (.ps M.glN 2 M.glC), .p (.ps M.exN 3 M.exC), .p (.sc (.bool M.st)), sI .u32 M.sn, .p (.ps M.elN 2 M.elC), .p (.ps M.daN 2 M.daC), sI .i64 tP, sI .i64 tR, sI .u64 own, sI .i64 h, .ms 1 0 k 4 none, sI .i64 ec, sI .i64 q, sI .i64 nx], .ob (ObK.gr 135 true) (List.map keepP (List.map keepP (List.map keepP (List.map keepP (List.map keepP (List.map keepP (List.map keepP (List.map keepP (List.map keepP (List.map keepP (List.map keepP (List.map keepP (List.map AV.p cs)))))))))))))])))))
theorem lpopB_tree (M : Md) (tP tR own h : Int) (k : Nat) (cs : List PV) (e p nx n q r h2 : Int) (k2 : Nat) (c2 : List PV) (ec : Int) : growF Tryz.prog env (lpopBOrc M tP tR own h k cs e p nx n q r h2 k2 c2 ec) 1000000 110 ([AV.mp 0 0, sI IntKind.i64 n, sI IntKind.i64 q]) ([lkB M tP tR own h 1 k 0 p nx, frB cs]) lpopBSc = lpopBTree M tP tR own h k cs e p nx n q r h2 k2 c2 ec := by kernel_rfl

noncomputable def lpopEOrc : Orc := orcL noCall noLed [] [(84, 0, 0)] []
def lpopESc : Sc := (.yes .fin)
noncomputable def lpopETree (M : Md) (tP tR own h : Int) (k : Nat) (cs : List PV) (e p nx _n _q _r _h2 : Int) (_k2 : Nat) (_c2 : List PV) (_ec : Int) : Tree :=
 (.must (e != 0)
 (.out (.ret (.tup []) [.ac [.p (.ps M.tyN 2 M.tyC), .p (.ps M.imN 3 M.imC), .p (.ps M.fnN 3 M.fnC), .p (.ps M.taN 3 M.taC), .p (.ps M.meN 3 M.meC), .p (.ps M.glN 2 M.glC), .p (.ps M.exN 3 M.exC), .p (.sc (.bool M.st)), sI .u32 M.sn, .p (.ps M.elN 2 M.elC), .p (.ps M.daN 2 M.daC), sI .i64 tP, sI .i64 tR, sI .u64 own, sI .i64 h, .ms 1 0 k 4 none, sI .i64 e, sI .i64 p, sI .i64 nx], .ob (ObK.gr 135 true) (List.map keepP (List.map keepP (List.map keepP (List.map keepP (List.map AV.p cs)))))])))
theorem lpopE_tree (M : Md) (tP tR own h : Int) (k : Nat) (cs : List PV) (e p nx n q r h2 : Int) (k2 : Nat) (c2 : List PV) (ec : Int) : growF Tryz.prog env lpopEOrc 1000000 110 ([AV.mp 0 0, sI IntKind.i64 n, sI IntKind.i64 q]) ([lkB M tP tR own h 1 k e p nx, frB cs]) lpopESc = lpopETree M tP tR own h k cs e p nx n q r h2 k2 c2 ec := by kernel_rfl

noncomputable def lpusOOrc (M : Md) (tP tR own h : Int) (k : Nat) (cs : List PV) (e p nx n q r h2 : Int) (k2 : Nat) (c2 : List PV) (ec : Int) : Orc := orcL (lkOk M tP tR own h k cs e p nx n q r h2 k2 c2 ec) (lkOk M tP tR own h k cs e p nx n q r h2 k2 c2 ec) [] [] []
def lpusOSc : Sc := .fin
noncomputable def lpusOTree (M : Md) (tP tR own h : Int) (k : Nat) (cs : List PV) (_e p nx n _q _r h2 : Int) (k2 : Nat) (c2 : List PV) (_ec : Int) : Tree :=
 (.call ⟨139, [.agg [sI .i64 h, .ms 0 0 k 4 none], sI .i64 n], [.ob (ObK.gr 135 true) (List.map keepP (List.map keepP (List.map keepP (List.map AV.p cs))))], .tup [.agg [sI .i64 h2, .ms 1 0 k2 4 none], sI .i64 0], [.ob (ObK.gr 135 true) (List.map keepP (List.map keepP (List.map keepP (List.map AV.p cs)))), .ob (ObK.gr 135 true) (List.map AV.p c2)]⟩
 (.out (.ret (.tup []) [.ac [.p (.ps M.tyN 2 M.tyC), .p (.ps M.imN 3 M.imC), .p (.ps M.fnN 3 M.fnC), .p (.ps M.taN 3 M.taC), .p (.ps M.meN 3 M.meC), .p (.ps M.glN 2 M.glC), .p (.ps M.exN 3 M.exC), .p (.sc (.bool M.st)), sI .u32 M.sn, .p (.ps M.elN 2 M.elC), .p (.ps M.daN 2 M.daC), sI .i64 tP, sI .i64 tR, sI .u64 own, sI .i64 h2, .ms 2 0 k2 4 none, sI .i64 0, sI .i64 p, sI .i64 nx], .ob (ObK.gr 135 true) (List.map keepP (List.map keepP (List.map keepP (List.map keepP (List.map keepP (List.map keepP (List.map keepP (List.map keepP (List.map keepP (List.map keepP (List.map keepP (List.map keepP (List.map AV.p cs))))))))))))), .ob (ObK.gr 135 true) (List.map keepP (List.map keepP (List.map keepP (List.map keepP (List.map keepP (List.map keepP (List.map AV.p c2)))))))])))
theorem lpusO_tree (M : Md) (tP tR own h : Int) (k : Nat) (cs : List PV) (e p nx n q r h2 : Int) (k2 : Nat) (c2 : List PV) (ec : Int) : growF Tryz.prog env (lpusOOrc M tP tR own h k cs e p nx n q r h2 k2 c2 ec) 1000000 111 ([AV.mp 0 0, sI IntKind.i64 n, sI IntKind.i64 q]) ([lkB M tP tR own h 1 k 0 p nx, frB cs]) lpusOSc = lpusOTree M tP tR own h k cs e p nx n q r h2 k2 c2 ec := by kernel_rfl

noncomputable def lpusEOrc : Orc := orcL noCall noLed [] [(84, 0, 0)] []
def lpusESc : Sc := (.yes .fin)
noncomputable def lpusETree (M : Md) (tP tR own h : Int) (k : Nat) (cs : List PV) (e p nx _n _q _r _h2 : Int) (_k2 : Nat) (_c2 : List PV) (_ec : Int) : Tree :=
 (.must (e != 0)
 (.out (.ret (.tup []) [.ac [.p (.ps M.tyN 2 M.tyC), .p (.ps M.imN 3 M.imC), .p (.ps M.fnN 3 M.fnC), .p (.ps M.taN 3 M.taC), .p (.ps M.meN 3 M.meC), .p (.ps M.glN 2 M.glC), .p (.ps M.exN 3 M.exC), .p (.sc (.bool M.st)), sI .u32 M.sn, .p (.ps M.elN 2 M.elC), .p (.ps M.daN 2 M.daC), sI .i64 tP, sI .i64 tR, sI .u64 own, sI .i64 h, .ms 1 0 k 4 none, sI .i64 e, sI .i64 p, sI .i64 nx], .ob (ObK.gr 135 true) (List.map keepP (List.map keepP (List.map keepP (List.map keepP (List.map AV.p cs)))))])))
theorem lpusE_tree (M : Md) (tP tR own h : Int) (k : Nat) (cs : List PV) (e p nx n q r h2 : Int) (k2 : Nat) (c2 : List PV) (ec : Int) : growF Tryz.prog env lpusEOrc 1000000 111 ([AV.mp 0 0, sI IntKind.i64 n, sI IntKind.i64 q]) ([lkB M tP tR own h 1 k e p nx, frB cs]) lpusESc = lpusETree M tP tR own h k cs e p nx n q r h2 k2 c2 ec := by kernel_rfl

noncomputable def ldeaOOrc (M : Md) (tP tR own h : Int) (k : Nat) (cs : List PV) (e p nx n q r h2 : Int) (k2 : Nat) (c2 : List PV) (ec : Int) : Orc := orcL (lkOk M tP tR own h k cs e p nx n q r h2 k2 c2 ec) (lkOk M tP tR own h k cs e p nx n q r h2 k2 c2 ec) [] [] []
def ldeaOSc : Sc := .fin
noncomputable def ldeaOTree (M : Md) (tP tR own h : Int) (k : Nat) (cs : List PV) (_e p nx _n _q _r h2 : Int) (k2 : Nat) (c2 : List PV) (_ec : Int) : Tree :=
 (.call ⟨133, [.agg [sI .i64 h, .ms 0 0 k 4 none]], [.ob (ObK.gr 135 true) (List.map keepP (List.map keepP (List.map keepP (List.map AV.p cs))))], .tup [.agg [sI .i64 h2, .ms 1 0 k2 4 none], sI .i64 0], [.ob (ObK.gr 135 true) (List.map keepP (List.map keepP (List.map keepP (List.map AV.p cs)))), .ob (ObK.gr 135 true) (List.map AV.p c2)]⟩
 (.out (.ret (.tup []) [.ac [.p (.ps M.tyN 2 M.tyC), .p (.ps M.imN 3 M.imC), .p (.ps M.fnN 3 M.fnC), .p (.ps M.taN 3 M.taC), .p (.ps M.meN 3 M.meC), .p (.ps M.glN 2 M.glC), .p (.ps M.exN 3 M.exC), .p (.sc (.bool M.st)), sI .u32 M.sn, .p (.ps M.elN 2 M.elC), .p (.ps M.daN 2 M.daC), sI .i64 tP, sI .i64 tR, sI .u64 own, sI .i64 h2, .ms 2 0 k2 4 none, sI .i64 0, sI .i64 p, sI .i64 nx], .ob (ObK.gr 135 true) (List.map keepP (List.map keepP (List.map keepP (List.map keepP (List.map keepP (List.map keepP (List.map keepP (List.map keepP (List.map keepP (List.map keepP (List.map keepP (List.map keepP (List.map AV.p cs))))))))))))), .ob (ObK.gr 135 true) (List.map keepP (List.map keepP (List.map keepP (List.map keepP (List.map keepP (List.map keepP (List.map AV.p c2)))))))])))
theorem ldeaO_tree (M : Md) (tP tR own h : Int) (k : Nat) (cs : List PV) (e p nx n q r h2 : Int) (k2 : Nat) (c2 : List PV) (ec : Int) : growF Tryz.prog env (ldeaOOrc M tP tR own h k cs e p nx n q r h2 k2 c2 ec) 1000000 107 ([AV.mp 0 0, sI IntKind.i64 q]) ([lkB M tP tR own h 1 k 0 p nx, frB cs]) ldeaOSc = ldeaOTree M tP tR own h k cs e p nx n q r h2 k2 c2 ec := by kernel_rfl

noncomputable def ldeaEOrc : Orc := orcL noCall noLed [] [(84, 0, 0)] []
def ldeaESc : Sc := (.yes .fin)
noncomputable def ldeaETree (M : Md) (tP tR own h : Int) (k : Nat) (cs : List PV) (e p nx _n _q _r _h2 : Int) (_k2 : Nat) (_c2 : List PV) (_ec : Int) : Tree :=
 (.must (e != 0)
 (.out (.ret (.tup []) [.ac [.p (.ps M.tyN 2 M.tyC), .p (.ps M.imN 3 M.imC), .p (.ps M.fnN 3 M.fnC), .p (.ps M.taN 3 M.taC), .p (.ps M.meN 3 M.meC), .p (.ps M.glN 2 M.glC), .p (.ps M.exN 3 M.exC), .p (.sc (.bool M.st)), sI .u32 M.sn, .p (.ps M.elN 2 M.elC), .p (.ps M.daN 2 M.daC), sI .i64 tP, sI .i64 tR, sI .u64 own, sI .i64 h, .ms 1 0 k 4 none, sI .i64 e, sI .i64 p, sI .i64 nx], .ob (ObK.gr 135 true) (List.map keepP (List.map keepP (List.map keepP (List.map keepP (List.map AV.p cs)))))])))
theorem ldeaE_tree (M : Md) (tP tR own h : Int) (k : Nat) (cs : List PV) (e p nx n q r h2 : Int) (k2 : Nat) (c2 : List PV) (ec : Int) : growF Tryz.prog env ldeaEOrc 1000000 107 ([AV.mp 0 0, sI IntKind.i64 q]) ([lkB M tP tR own h 1 k e p nx, frB cs]) ldeaESc = ldeaETree M tP tR own h k cs e p nx n q r h2 k2 c2 ec := by kernel_rfl

noncomputable def lleaOOrc (M : Md) (tP tR own h : Int) (k : Nat) (cs : List PV) (e p nx n q r h2 : Int) (k2 : Nat) (c2 : List PV) (ec : Int) : Orc := orcL (lkOk M tP tR own h k cs e p nx n q r h2 k2 c2 ec) (lkOk M tP tR own h k cs e p nx n q r h2 k2 c2 ec) [] [] []
def lleaOSc : Sc := .fin
noncomputable def lleaOTree (M : Md) (tP tR own h : Int) (k : Nat) (cs : List PV) (_e p nx _n _q _r h2 : Int) (k2 : Nat) (c2 : List PV) (_ec : Int) : Tree :=
 (.call ⟨86, [.agg [sI .i64 h, .ms 0 0 k 4 none]], [.ob (ObK.gr 135 true) (List.map keepP (List.map keepP (List.map keepP (List.map AV.p cs))))], .tup [.agg [sI .i64 h2, .ms 1 0 k2 4 none], sI .i64 0], [.ob (ObK.gr 135 true) (List.map keepP (List.map keepP (List.map keepP (List.map AV.p cs)))), .ob (ObK.gr 135 true) (List.map AV.p c2)]⟩
 (.out (.ret (.tup []) [.ac [.p (.ps M.tyN 2 M.tyC), .p (.ps M.imN 3 M.imC), .p (.ps M.fnN 3 M.fnC), .p (.ps M.taN 3 M.taC), .p (.ps M.meN 3 M.meC), .p (.ps M.glN 2 M.glC), .p (.ps M.exN 3 M.exC), .p (.sc (.bool M.st)), sI .u32 M.sn, .p (.ps M.elN 2 M.elC), .p (.ps M.daN 2 M.daC), sI .i64 tP, sI .i64 tR, sI .u64 own, sI .i64 h2, .ms 2 0 k2 4 none, sI .i64 0, sI .i64 p, sI .i64 nx], .ob (ObK.gr 135 true) (List.map keepP (List.map keepP (List.map keepP (List.map keepP (List.map keepP (List.map keepP (List.map keepP (List.map keepP (List.map keepP (List.map keepP (List.map keepP (List.map keepP (List.map AV.p cs))))))))))))), .ob (ObK.gr 135 true) (List.map keepP (List.map keepP (List.map keepP (List.map keepP (List.map keepP (List.map keepP (List.map AV.p c2)))))))])))
theorem lleaO_tree (M : Md) (tP tR own h : Int) (k : Nat) (cs : List PV) (e p nx n q r h2 : Int) (k2 : Nat) (c2 : List PV) (ec : Int) : growF Tryz.prog env (lleaOOrc M tP tR own h k cs e p nx n q r h2 k2 c2 ec) 1000000 34 ([AV.mp 0 0, sI IntKind.i64 q]) ([lkB M tP tR own h 1 k 0 p nx, frB cs]) lleaOSc = lleaOTree M tP tR own h k cs e p nx n q r h2 k2 c2 ec := by kernel_rfl

noncomputable def lleaBOrc (M : Md) (tP tR own h : Int) (k : Nat) (cs : List PV) (e p nx n q r h2 : Int) (k2 : Nat) (c2 : List PV) (ec : Int) : Orc := orcL (lkBad M tP tR own h k cs e p nx n q r h2 k2 c2 ec) (lkBad M tP tR own h k cs e p nx n q r h2 k2 c2 ec) [] [(116, 0, 0), (84, 0, 1)] []
def lleaBSc : Sc := (.yes (.no .fin))
noncomputable def lleaBTree (M : Md) (tP tR own h : Int) (k : Nat) (cs : List PV) (_e _p nx _n q _r _h2 : Int) (_k2 : Nat) (_c2 : List PV) (ec : Int) : Tree :=
 (.call ⟨86, [.agg [sI .i64 h, .ms 0 0 k 4 none]], [.ob (ObK.gr 135 true) (List.map keepP (List.map keepP (List.map keepP (List.map AV.p cs))))], .tup [.agg [sI .i64 0, .os none 0 0 []], sI .i64 ec], [.ob (ObK.gr 135 true) (List.map keepP (List.map keepP (List.map keepP (List.map AV.p cs))))]⟩
 (.must (ec != 0)
 (.must (!(ec == 0))
 (.out (.ret (.tup []) [.ac [.p (.ps M.tyN 2 M.tyC), .p (.ps M.imN 3 M.imC), .p (.ps M.fnN 3 M.fnC), .p (.ps M.taN 3 M.taC), .p (.ps M.meN 3 M.meC), .p (.ps M.glN 2 M.glC), .p (.ps M.exN 3 M.exC), .p (.sc (.bool M.st)), sI .u32 M.sn, .p (.ps M.elN 2 M.elC), .p (.ps M.daN 2 M.daC), sI .i64 tP, sI .i64 tR, sI .u64 own, sI .i64 h, .ms 1 0 k 4 none, sI .i64 ec, sI .i64 q, sI .i64 nx], .ob (ObK.gr 135 true) (List.map keepP (List.map keepP (List.map keepP (List.map keepP (List.map keepP (List.map keepP (List.map keepP (List.map keepP (List.map keepP (List.map keepP (List.map keepP (List.map keepP (List.map AV.p cs)))))))))))))])))))
theorem lleaB_tree (M : Md) (tP tR own h : Int) (k : Nat) (cs : List PV) (e p nx n q r h2 : Int) (k2 : Nat) (c2 : List PV) (ec : Int) : growF Tryz.prog env (lleaBOrc M tP tR own h k cs e p nx n q r h2 k2 c2 ec) 1000000 34 ([AV.mp 0 0, sI IntKind.i64 q]) ([lkB M tP tR own h 1 k 0 p nx, frB cs]) lleaBSc = lleaBTree M tP tR own h k cs e p nx n q r h2 k2 c2 ec := by kernel_rfl

noncomputable def lleaEOrc : Orc := orcL noCall noLed [] [(84, 0, 0)] []
def lleaESc : Sc := (.yes .fin)
noncomputable def lleaETree (M : Md) (tP tR own h : Int) (k : Nat) (cs : List PV) (e p nx _n _q _r _h2 : Int) (_k2 : Nat) (_c2 : List PV) (_ec : Int) : Tree :=
 (.must (e != 0)
 (.out (.ret (.tup []) [.ac [.p (.ps M.tyN 2 M.tyC), .p (.ps M.imN 3 M.imC), .p (.ps M.fnN 3 M.fnC), .p (.ps M.taN 3 M.taC), .p (.ps M.meN 3 M.meC), .p (.ps M.glN 2 M.glC), .p (.ps M.exN 3 M.exC), .p (.sc (.bool M.st)), sI .u32 M.sn, .p (.ps M.elN 2 M.elC), .p (.ps M.daN 2 M.daC), sI .i64 tP, sI .i64 tR, sI .u64 own, sI .i64 h, .ms 1 0 k 4 none, sI .i64 e, sI .i64 p, sI .i64 nx], .ob (ObK.gr 135 true) (List.map keepP (List.map keepP (List.map keepP (List.map keepP (List.map AV.p cs)))))])))
theorem lleaE_tree (M : Md) (tP tR own h : Int) (k : Nat) (cs : List PV) (e p nx n q r h2 : Int) (k2 : Nat) (c2 : List PV) (ec : Int) : growF Tryz.prog env lleaEOrc 1000000 34 ([AV.mp 0 0, sI IntKind.i64 q]) ([lkB M tP tR own h 1 k e p nx, frB cs]) lleaESc = lleaETree M tP tR own h k cs e p nx n q r h2 k2 c2 ec := by kernel_rfl

noncomputable def lentOOrc (M : Md) (tP tR own h : Int) (k : Nat) (cs : List PV) (e p nx n q r h2 : Int) (k2 : Nat) (c2 : List PV) (ec : Int) : Orc := orcL (lkOk M tP tR own h k cs e p nx n q r h2 k2 c2 ec) (lkOk M tP tR own h k cs e p nx n q r h2 k2 c2 ec) [] [] []
def lentOSc : Sc := .fin
noncomputable def lentOTree (M : Md) (tP tR own h : Int) (k : Nat) (cs : List PV) (_e p nx n _q r h2 : Int) (k2 : Nat) (c2 : List PV) (_ec : Int) : Tree :=
 (.call ⟨153, [.agg [sI .i64 h, .ms 0 0 k 4 none], sI .i64 n, sI .i64 r], [.ob (ObK.gr 135 true) (List.map keepP (List.map keepP (List.map keepP (List.map AV.p cs))))], .tup [.agg [sI .i64 h2, .ms 1 0 k2 4 none], sI .i64 0], [.ob (ObK.gr 135 true) (List.map keepP (List.map keepP (List.map keepP (List.map AV.p cs)))), .ob (ObK.gr 135 true) (List.map AV.p c2)]⟩
 (.out (.ret (.tup []) [.ac [.p (.ps M.tyN 2 M.tyC), .p (.ps M.imN 3 M.imC), .p (.ps M.fnN 3 M.fnC), .p (.ps M.taN 3 M.taC), .p (.ps M.meN 3 M.meC), .p (.ps M.glN 2 M.glC), .p (.ps M.exN 3 M.exC), .p (.sc (.bool M.st)), sI .u32 M.sn, .p (.ps M.elN 2 M.elC), .p (.ps M.daN 2 M.daC), sI .i64 tP, sI .i64 tR, sI .u64 own, sI .i64 h2, .ms 2 0 k2 4 none, sI .i64 0, sI .i64 p, sI .i64 nx], .ob (ObK.gr 135 true) (List.map keepP (List.map keepP (List.map keepP (List.map keepP (List.map keepP (List.map keepP (List.map keepP (List.map keepP (List.map keepP (List.map keepP (List.map keepP (List.map keepP (List.map AV.p cs))))))))))))), .ob (ObK.gr 135 true) (List.map keepP (List.map keepP (List.map keepP (List.map keepP (List.map keepP (List.map keepP (List.map AV.p c2)))))))])))
theorem lentO_tree (M : Md) (tP tR own h : Int) (k : Nat) (cs : List PV) (e p nx n q r h2 : Int) (k2 : Nat) (c2 : List PV) (ec : Int) : growF Tryz.prog env (lentOOrc M tP tR own h k cs e p nx n q r h2 k2 c2 ec) 1000000 134 ([AV.mp 0 0, sI IntKind.i64 n, sI IntKind.i64 r, sI IntKind.i64 q]) ([lkB M tP tR own h 1 k 0 p nx, frB cs]) lentOSc = lentOTree M tP tR own h k cs e p nx n q r h2 k2 c2 ec := by kernel_rfl

noncomputable def lentEOrc : Orc := orcL noCall noLed [] [(84, 0, 0)] []
def lentESc : Sc := (.yes .fin)
noncomputable def lentETree (M : Md) (tP tR own h : Int) (k : Nat) (cs : List PV) (e p nx _n _q _r _h2 : Int) (_k2 : Nat) (_c2 : List PV) (_ec : Int) : Tree :=
 (.must (e != 0)
 (.out (.ret (.tup []) [.ac [.p (.ps M.tyN 2 M.tyC), .p (.ps M.imN 3 M.imC), .p (.ps M.fnN 3 M.fnC), .p (.ps M.taN 3 M.taC), .p (.ps M.meN 3 M.meC), .p (.ps M.glN 2 M.glC), .p (.ps M.exN 3 M.exC), .p (.sc (.bool M.st)), sI .u32 M.sn, .p (.ps M.elN 2 M.elC), .p (.ps M.daN 2 M.daC), sI .i64 tP, sI .i64 tR, sI .u64 own, sI .i64 h, .ms 1 0 k 4 none, sI .i64 e, sI .i64 p, sI .i64 nx], .ob (ObK.gr 135 true) (List.map keepP (List.map keepP (List.map keepP (List.map keepP (List.map AV.p cs)))))])))
theorem lentE_tree (M : Md) (tP tR own h : Int) (k : Nat) (cs : List PV) (e p nx n q r h2 : Int) (k2 : Nat) (c2 : List PV) (ec : Int) : growF Tryz.prog env lentEOrc 1000000 134 ([AV.mp 0 0, sI IntKind.i64 n, sI IntKind.i64 r, sI IntKind.i64 q]) ([lkB M tP tR own h 1 k e p nx, frB cs]) lentESc = lentETree M tP tR own h k cs e p nx n q r h2 k2 c2 ec := by kernel_rfl

noncomputable def llabOrc (M : Md) (tP tR own h : Int) (k : Nat) (cs : List PV) (e p nx a q v ec : Int) : Orc := orcL (labC M tP tR own h k cs e p nx a q v ec) noLed [] [(109, 0, 0), (116, 1, 6)] []
def llabSc : Sc := .fin
noncomputable def llabTree (M : Md) (tP tR own h : Int) (k : Nat) (cs : List PV) (e p nx a q v _ec : Int) : Tree :=
 (.test (decide (IntKind.u64.wrap a ≥ IntKind.u64.wrap (↑k : Int)))
 (.test (e == 0)
 (.out (.ret (sI .i64 0) [.ac [.p (.ps M.tyN 2 M.tyC), .p (.ps M.imN 3 M.imC), .p (.ps M.fnN 3 M.fnC), .p (.ps M.taN 3 M.taC), .p (.ps M.meN 3 M.meC), .p (.ps M.glN 2 M.glC), .p (.ps M.exN 3 M.exC), .p (.sc (.bool M.st)), sI .u32 M.sn, .p (.ps M.elN 2 M.elC), .p (.ps M.daN 2 M.daC), sI .i64 tP, sI .i64 tR, sI .u64 own, sI .i64 h, .ms 1 0 k 4 none, sI .i64 6, sI .i64 q, sI .i64 nx], .ob (ObK.gr 135 true) (List.map keepP (List.map keepP (List.map keepP (List.map keepP (List.map AV.p cs)))))]))
 (.out (.ret (sI .i64 0) [.ac [.p (.ps M.tyN 2 M.tyC), .p (.ps M.imN 3 M.imC), .p (.ps M.fnN 3 M.fnC), .p (.ps M.taN 3 M.taC), .p (.ps M.meN 3 M.meC), .p (.ps M.glN 2 M.glC), .p (.ps M.exN 3 M.exC), .p (.sc (.bool M.st)), sI .u32 M.sn, .p (.ps M.elN 2 M.elC), .p (.ps M.daN 2 M.daC), sI .i64 tP, sI .i64 tR, sI .u64 own, sI .i64 h, .ms 1 0 k 4 none, sI .i64 e, sI .i64 p, sI .i64 nx], .ob (ObK.gr 135 true) (List.map keepP (List.map keepP (List.map keepP (List.map keepP (List.map AV.p cs)))))])))
 (.call ⟨135, [.agg [sI .i64 h, .ms 0 0 k 4 none], sI .i64 (IntKind.i64.wrap a)], [.ob (ObK.gr 135 true) (List.map keepP (List.map AV.p cs))], .tup [sI .i64 v, sI .i64 0], [.ob (ObK.gr 135 true) (List.map keepP (List.map AV.p cs))]⟩
 (.test (e == 0)
 (.out (.ret (sI .i64 v) [.ac [.p (.ps M.tyN 2 M.tyC), .p (.ps M.imN 3 M.imC), .p (.ps M.fnN 3 M.fnC), .p (.ps M.taN 3 M.taC), .p (.ps M.meN 3 M.meC), .p (.ps M.glN 2 M.glC), .p (.ps M.exN 3 M.exC), .p (.sc (.bool M.st)), sI .u32 M.sn, .p (.ps M.elN 2 M.elC), .p (.ps M.daN 2 M.daC), sI .i64 tP, sI .i64 tR, sI .u64 own, sI .i64 h, .ms 1 0 k 4 none, sI .i64 e, sI .i64 p, sI .i64 nx], .ob (ObK.gr 135 true) (List.map keepP (List.map keepP (List.map keepP (List.map keepP (List.map keepP (List.map keepP (List.map AV.p cs)))))))]))
 (.out (.ret (sI .i64 v) [.ac [.p (.ps M.tyN 2 M.tyC), .p (.ps M.imN 3 M.imC), .p (.ps M.fnN 3 M.fnC), .p (.ps M.taN 3 M.taC), .p (.ps M.meN 3 M.meC), .p (.ps M.glN 2 M.glC), .p (.ps M.exN 3 M.exC), .p (.sc (.bool M.st)), sI .u32 M.sn, .p (.ps M.elN 2 M.elC), .p (.ps M.daN 2 M.daC), sI .i64 tP, sI .i64 tR, sI .u64 own, sI .i64 h, .ms 1 0 k 4 none, sI .i64 e, sI .i64 p, sI .i64 nx], .ob (ObK.gr 135 true) (List.map keepP (List.map keepP (List.map keepP (List.map keepP (List.map keepP (List.map keepP (List.map AV.p cs)))))))])))))
theorem llab_tree (M : Md) (tP tR own h : Int) (k : Nat) (cs : List PV) (e p nx a q v ec : Int) : growF Tryz.prog env (llabOrc M tP tR own h k cs e p nx a q v ec) 1000000 109 ([AV.mp 0 0, sI IntKind.u32 a, sI IntKind.i64 q]) ([lkB M tP tR own h 1 k e p nx, frB cs]) llabSc = llabTree M tP tR own h k cs e p nx a q v ec := by kernel_rfl

noncomputable def laskOrc : Orc := orcL noCall noLed [] [(113, 0, 0), (116, 1, 6), (116, 0, 0)] []
def laskSc : Sc := (.fork (.fork .fin (.lit .fin)) .fin)
noncomputable def laskTree (M : Md) (tP tR own h : Int) (k : Nat) (cs : List PV) (e p nx q ec : Int) (b : Bool) : Tree :=
 (.test (!b)
 (.test (e == 0)
 (.test (ec != 0)
 (.out (.ret (.tup []) [.ac [.p (.ps M.tyN 2 M.tyC), .p (.ps M.imN 3 M.imC), .p (.ps M.fnN 3 M.fnC), .p (.ps M.taN 3 M.taC), .p (.ps M.meN 3 M.meC), .p (.ps M.glN 2 M.glC), .p (.ps M.exN 3 M.exC), .p (.sc (.bool M.st)), sI .u32 M.sn, .p (.ps M.elN 2 M.elC), .p (.ps M.daN 2 M.daC), sI .i64 tP, sI .i64 tR, sI .u64 own, sI .i64 h, .ms 1 0 k 4 none, sI .i64 ec, sI .i64 q, sI .i64 nx], .ob (ObK.gr 135 true) (List.map keepP (List.map keepP (List.map keepP (List.map keepP (List.map AV.p cs)))))]))
 (.out (.ret (.tup []) [.ac [.p (.ps M.tyN 2 M.tyC), .p (.ps M.imN 3 M.imC), .p (.ps M.fnN 3 M.fnC), .p (.ps M.taN 3 M.taC), .p (.ps M.meN 3 M.meC), .p (.ps M.glN 2 M.glC), .p (.ps M.exN 3 M.exC), .p (.sc (.bool M.st)), sI .u32 M.sn, .p (.ps M.elN 2 M.elC), .p (.ps M.daN 2 M.daC), sI .i64 tP, sI .i64 tR, sI .u64 own, sI .i64 h, .ms 1 0 k 4 none, sI .i64 e, sI .i64 p, sI .i64 nx], .ob (ObK.gr 135 true) (List.map keepP (List.map keepP (List.map keepP (List.map keepP (List.map AV.p cs)))))])))
 (.out (.ret (.tup []) [.ac [.p (.ps M.tyN 2 M.tyC), .p (.ps M.imN 3 M.imC), .p (.ps M.fnN 3 M.fnC), .p (.ps M.taN 3 M.taC), .p (.ps M.meN 3 M.meC), .p (.ps M.glN 2 M.glC), .p (.ps M.exN 3 M.exC), .p (.sc (.bool M.st)), sI .u32 M.sn, .p (.ps M.elN 2 M.elC), .p (.ps M.daN 2 M.daC), sI .i64 tP, sI .i64 tR, sI .u64 own, sI .i64 h, .ms 1 0 k 4 none, sI .i64 e, sI .i64 p, sI .i64 nx], .ob (ObK.gr 135 true) (List.map keepP (List.map keepP (List.map keepP (List.map keepP (List.map AV.p cs)))))])))
 (.out (.ret (.tup []) [.ac [.p (.ps M.tyN 2 M.tyC), .p (.ps M.imN 3 M.imC), .p (.ps M.fnN 3 M.fnC), .p (.ps M.taN 3 M.taC), .p (.ps M.meN 3 M.meC), .p (.ps M.glN 2 M.glC), .p (.ps M.exN 3 M.exC), .p (.sc (.bool M.st)), sI .u32 M.sn, .p (.ps M.elN 2 M.elC), .p (.ps M.daN 2 M.daC), sI .i64 tP, sI .i64 tR, sI .u64 own, sI .i64 h, .ms 1 0 k 4 none, sI .i64 e, sI .i64 p, sI .i64 nx], .ob (ObK.gr 135 true) (List.map keepP (List.map AV.p cs))])))
theorem lask_tree (M : Md) (tP tR own h : Int) (k : Nat) (cs : List PV) (e p nx q ec : Int) (b : Bool) : growF Tryz.prog env laskOrc 1000000 113 ([AV.mp 0 0, sB b, sI IntKind.i64 ec, sI IntKind.i64 q]) ([lkB M tP tR own h 1 k e p nx, frB cs]) laskSc = laskTree M tP tR own h k cs e p nx q ec b := by kernel_rfl

noncomputable def slabOrc (h : Int) (n : Nat) (k : Nat) (cs : List PV) (a op base res : Int) (dead : Bool) : Orc := orcS slaC noLed [] [(135, 4, 3), (135, 0, 1), (135, 0, 2)] [(135, 6, 8), (135, 6, 9)] (slaS h n k cs a op base res dead)
def slabSc : Sc := (.fork (.lit .fin) .fin)
noncomputable def slabTree (h : Int) (n : Nat) (k : Nat) (cs : List PV) (a op base res : Int) (dead : Bool) : Tree :=
 (.call ⟨142, [.agg [sI .i64 h, .ms 0 0 n 4 none]], [.ob (ObK.gr 135 true) (List.map keepP (List.map AV.p cs))], sI .i64 0, [.ob (ObK.gr 135 true) (List.map keepP (List.map AV.p cs))]⟩
 (.test (decide (a < 0))
 (.out (.ret (.tup [sI .i64 0, sI .i64 6]) [.ob (ObK.gr 135 true) (List.map keepP (List.map keepP (List.map keepP (List.map AV.p cs))))]))
 (.test (decide (a ≥ (↑n : Int)))
 (.out (.ret (.tup [sI .i64 0, sI .i64 6]) [.ob (ObK.gr 135 true) (List.map keepP (List.map keepP (List.map keepP (List.map AV.p cs))))]))
 (.need (sI .i64 (IntKind.i64.wrap (IntKind.i64.wrap ((↑n : Int) - 1) - a)) = sI IntKind.i64 (↑k : Int))
 (.must (inB (↑k : Int) n && true && true)
 (.must ((0 + (↑k : Int).toNat * 4 + 4).ble (List.map keepP (List.map keepP (List.map AV.p cs))).length && ((normA (some (TypeInfo.mk (TypeDesc.int IntKind.i64) "int" 1 8 false 8 8 (some (.int .i64 0)) true #[]).desc) ((List.map keepP (List.map keepP (List.map AV.p cs))).getD (0 + (↑k : Int).toNat * 4) .junk)).snd && ((normA (some (TypeInfo.mk (TypeDesc.int IntKind.i64) "int" 1 8 false 8 8 (some (.int .i64 0)) true #[]).desc) ((List.map keepP (List.map keepP (List.map AV.p cs))).getD (0 + (↑k : Int).toNat * 4 + 1) .junk)).snd && ((normA (some (TypeInfo.mk (TypeDesc.int IntKind.i64) "int" 1 8 false 8 8 (some (.int .i64 0)) true #[]).desc) ((List.map keepP (List.map keepP (List.map AV.p cs))).getD (0 + (↑k : Int).toNat * 4 + 1 + 1) .junk)).snd && ((normA (some (TypeInfo.mk TypeDesc.bool "bool" 1 1 false 1 1 (some (.bool false)) true #[]).desc) ((List.map keepP (List.map keepP (List.map AV.p cs))).getD (0 + (↑k : Int).toNat * 4 + 1 + 1 + 1) .junk)).snd && true)))) && true)
 (.need (AV.agg [(normA (Option.some (TypeInfo.mk (TypeDesc.int IntKind.i64) "int" 1 8 false 8 8 (Option.some (Value.int IntKind.i64 0)) true #[]).desc) ((List.map keepP (List.map keepP (List.map AV.p cs))).getD (0 + (↑k : Int).toNat * 4) AV.junk)).fst, (normA (Option.some (TypeInfo.mk (TypeDesc.int IntKind.i64) "int" 1 8 false 8 8 (Option.some (Value.int IntKind.i64 0)) true #[]).desc) ((List.map keepP (List.map keepP (List.map AV.p cs))).getD (0 + (↑k : Int).toNat * 4 + 1) AV.junk)).fst, (normA (Option.some (TypeInfo.mk (TypeDesc.int IntKind.i64) "int" 1 8 false 8 8 (Option.some (Value.int IntKind.i64 0)) true #[]).desc) ((List.map keepP (List.map keepP (List.map AV.p cs))).getD (0 + (↑k : Int).toNat * 4 + 1 + 1) AV.junk)).fst, (normA (Option.some (TypeInfo.mk TypeDesc.bool "bool" 1 1 false 1 1 (Option.some (Value.bool false)) true #[]).desc) ((List.map keepP (List.map keepP (List.map AV.p cs))).getD (0 + (↑k : Int).toNat * 4 + 1 + 1 + 1) AV.junk)).fst] = AV.agg [sI IntKind.i64 op, sI IntKind.i64 base, sI IntKind.i64 res, sB dead])
 (.test (op == 3)
 (.out (.ret (.tup [sI .i64 0, sI .i64 0]) [.ob (ObK.gr 135 true) (List.map keepP (List.map keepP (List.map keepP (List.map AV.p cs))))]))
 (.out (.ret (.tup [sI .i64 res, sI .i64 0]) [.ob (ObK.gr 135 true) (List.map keepP (List.map keepP (List.map keepP (List.map AV.p cs))))]))))))))))
theorem slab_tree (h : Int) (n : Nat) (k : Nat) (cs : List PV) (a op base res : Int) (dead : Bool) : growF Tryz.prog env (slabOrc h n k cs a op base res dead) 1000000 135 ([AV.agg [sI IntKind.i64 h, AV.ms 0 0 n 4 Option.none], sI IntKind.i64 a]) ([frB cs]) slabSc = slabTree h n k cs a op base res dead := by kernel_rfl

structure Lx where
  M : Md
  tP : Int
  tR : Int
  own : Int

structure Rw where
  h : Int
  k : Nat
  cs : List PV
  e : Int
  p : Int
  nx : Int

abbrev memIn (X : Lx) (R : Rw) : Mem := [lkB X.M X.tP X.tR X.own R.h 1 R.k R.e R.p R.nx, frB R.cs]
abbrev memOut (X : Lx) (R : Rw) : Mem := [lkB X.M X.tP X.tR X.own R.h 2 R.k R.e R.p R.nx, .dead, frB R.cs]

def Run (X : Lx) (f : FuncId) (args : List AV) (R R' : Rw) : Prop := Does Tryz.prog env f (.mp 0 0 :: args) (memIn X R) (.tup []) (memOut X R')
def Ask (X : Lx) (f : FuncId) (args : List AV) (v : AV) (R R' : Rw) : Prop := Does Tryz.prog env f (.mp 0 0 :: args) (memIn X R) v (memIn X R')

section
variable {X : Lx} {R : Rw}

theorem popE {n q : Int} (he : R.e ≠ 0) : Run X 110 [sI .i64 n, sI .i64 q] R R :=
  Does.settle (l0 := X.M.cells ++ [sI .i64 X.tP, sI .i64 X.tR, sI .u64 X.own, sI .i64 R.h, .ms 1 0 R.k 4 none, sI .i64 R.e, sI .i64 R.p, sI .i64 R.nx]) (does_of_tree names (lpopE_tree X.M X.tP X.tR X.own R.h R.k R.cs R.e R.p R.nx n q 0 0 0 [] 0) (by
    simp only [lpopETree, Tree.ok, keep_map]
    exact ⟨by simpa using he, rfl⟩)) (Nat.le_refl 2)

theorem popO {n q : Int} {h2 : Int} {k2 : Nat} {c2 : List PV} (he : R.e = 0) (hd : Does Tryz.prog env 137 [.agg [sI .i64 R.h, .ms 0 0 R.k 4 none], sI .i64 n] [frB R.cs] (.tup [.agg [sI .i64 h2, .ms 1 0 k2 4 none], sI .i64 0]) [frB R.cs, frB c2]) :
    Run X 110 [sI .i64 n, sI .i64 q] R ⟨h2, k2, c2, 0, R.p, R.nx⟩ := by
  obtain ⟨h, k, cs, e, p, nx⟩ := R
  simp only at he hd
  subst he
  refine Does.kill (m' := [lkB X.M X.tP X.tR X.own h2 2 k2 0 p nx, frB cs, frB c2]) (does_of_tree names (lpopO_tree X.M X.tP X.tR X.own h k cs 0 p nx n q 0 h2 k2 c2 0) ?_) 1
  simp only [lpopOTree, Tree.ok, keep_map]
  exact ⟨hd, rfl⟩

theorem popB {n q : Int} {ec : Int} (he : R.e = 0) (hec : ec ≠ 0) (hd : Does Tryz.prog env 137 [.agg [sI .i64 R.h, .ms 0 0 R.k 4 none], sI .i64 n] [frB R.cs] (.tup [.agg [sI .i64 0, .os none 0 0 []], sI .i64 ec]) [frB R.cs]) :
    Run X 110 [sI .i64 n, sI .i64 q] R ⟨R.h, R.k, R.cs, ec, q, R.nx⟩ := by
  obtain ⟨h, k, cs, e, p, nx⟩ := R
  simp only at he hd
  subst he
  refine Does.settle (l0 := X.M.cells ++ [sI .i64 X.tP, sI .i64 X.tR, sI .u64 X.own, sI .i64 h, .ms 1 0 k 4 none, sI .i64 ec, sI .i64 q, sI .i64 nx]) (does_of_tree names (lpopB_tree X.M X.tP X.tR X.own h k cs 0 p nx n q 0 0 0 [] ec) ?_) (Nat.le_refl 2)
  have h1 : (ec != 0) = true := by simpa using hec
  have h2 : (!(ec == 0)) = true := by simpa using hec
  simp only [lpopBTree, Tree.ok, keep_map, h1, h2, true_and]
  exact ⟨hd, rfl⟩

theorem pusE {n q : Int} (he : R.e ≠ 0) : Run X 111 [sI .i64 n, sI .i64 q] R R :=
  Does.settle (l0 := X.M.cells ++ [sI .i64 X.tP, sI .i64 X.tR, sI .u64 X.own, sI .i64 R.h, .ms 1 0 R.k 4 none, sI .i64 R.e, sI .i64 R.p, sI .i64 R.nx]) (does_of_tree names (lpusE_tree X.M X.tP X.tR X.own R.h R.k R.cs R.e R.p R.nx n q 0 0 0 [] 0) (by
    simp only [lpusETree, Tree.ok, keep_map]
    exact ⟨by simpa using he, rfl⟩)) (Nat.le_refl 2)

theorem pusO {n q : Int} {h2 : Int} {k2 : Nat} {c2 : List PV} (he : R.e = 0) (hd : Does Tryz.prog env 139 [.agg [sI .i64 R.h, .ms 0 0 R.k 4 none], sI .i64 n] [frB R.cs] (.tup [.agg [sI .i64 h2, .ms 1 0 k2 4 none], sI .i64 0]) [frB R.cs, frB c2]) :
    Run X 111 [sI .i64 n, sI .i64 q] R ⟨h2, k2, c2, 0, R.p, R.nx⟩ := by
  obtain ⟨h, k, cs, e, p, nx⟩ := R
  simp only at he hd
  subst he
  refine Does.kill (m' := [lkB X.M X.tP X.tR X.own h2 2 k2 0 p nx, frB cs, frB c2]) (does_of_tree names (lpusO_tree X.M X.tP X.tR X.own h k cs 0 p nx n q 0 h2 k2 c2 0) ?_) 1
  simp only [lpusOTree, Tree.ok, keep_map]
  exact ⟨hd, rfl⟩

theorem deaE {q : Int} (he : R.e ≠ 0) : Run X 107 [sI .i64 q] R R :=
  Does.settle (l0 := X.M.cells ++ [sI .i64 X.tP, sI .i64 X.tR, sI .u64 X.own, sI .i64 R.h, .ms 1 0 R.k 4 none, sI .i64 R.e, sI .i64 R.p, sI .i64 R.nx]) (does_of_tree names (ldeaE_tree X.M X.tP X.tR X.own R.h R.k R.cs R.e R.p R.nx 0 q 0 0 0 [] 0) (by
    simp only [ldeaETree, Tree.ok, keep_map]
    exact ⟨by simpa using he, rfl⟩)) (Nat.le_refl 2)

theorem deaO {q : Int} {h2 : Int} {k2 : Nat} {c2 : List PV} (he : R.e = 0) (hd : Does Tryz.prog env 133 [.agg [sI .i64 R.h, .ms 0 0 R.k 4 none]] [frB R.cs] (.tup [.agg [sI .i64 h2, .ms 1 0 k2 4 none], sI .i64 0]) [frB R.cs, frB c2]) :
    Run X 107 [sI .i64 q] R ⟨h2, k2, c2, 0, R.p, R.nx⟩ := by
  obtain ⟨h, k, cs, e, p, nx⟩ := R
  simp only at he hd
  subst he
  refine Does.kill (m' := [lkB X.M X.tP X.tR X.own h2 2 k2 0 p nx, frB cs, frB c2]) (does_of_tree names (ldeaO_tree X.M X.tP X.tR X.own h k cs 0 p nx 0 q 0 h2 k2 c2 0) ?_) 1
  simp only [ldeaOTree, Tree.ok, keep_map]
  exact ⟨hd, rfl⟩

theorem leaE {q : Int} (he : R.e ≠ 0) : Run X 34 [sI .i64 q] R R :=
  Does.settle (l0 := X.M.cells ++ [sI .i64 X.tP, sI .i64 X.tR, sI .u64 X.own, sI .i64 R.h, .ms 1 0 R.k 4 none, sI .i64 R.e, sI .i64 R.p, sI .i64 R.nx]) (does_of_tree names (lleaE_tree X.M X.tP X.tR X.own R.h R.k R.cs R.e R.p R.nx 0 q 0 0 0 [] 0) (by
    simp only [lleaETree, Tree.ok, keep_map]
    exact ⟨by simpa using he, rfl⟩)) (Nat.le_refl 2)

theorem leaO {q : Int} {h2 : Int} {k2 : Nat} {c2 : List PV} (he : R.e = 0) (hd : Does Tryz.prog env 86 [.agg [sI .i64 R.h, .ms 0 0 R.k 4 none]] [frB R.cs] (.tup [.agg [sI .i64 h2, .ms 1 0 k2 4 none], sI .i64 0]) [frB R.cs, frB c2]) :
    Run X 34 [sI .i64 q] R ⟨h2, k2, c2, 0, R.p, R.nx⟩ := by
  obtain ⟨h, k, cs, e, p, nx⟩ := R
  simp only at he hd
  subst he
  refine Does.kill (m' := [lkB X.M X.tP X.tR X.own h2 2 k2 0 p nx, frB cs, frB c2]) (does_of_tree names (lleaO_tree X.M X.tP X.tR X.own h k cs 0 p nx 0 q 0 h2 k2 c2 0) ?_) 1
  simp only [lleaOTree, Tree.ok, keep_map]
  exact ⟨hd, rfl⟩

theorem leaB {q : Int} {ec : Int} (he : R.e = 0) (hec : ec ≠ 0) (hd : Does Tryz.prog env 86 [.agg [sI .i64 R.h, .ms 0 0 R.k 4 none]] [frB R.cs] (.tup [.agg [sI .i64 0, .os none 0 0 []], sI .i64 ec]) [frB R.cs]) :
    Run X 34 [sI .i64 q] R ⟨R.h, R.k, R.cs, ec, q, R.nx⟩ := by
  obtain ⟨h, k, cs, e, p, nx⟩ := R
  simp only at he hd
  subst he
  refine Does.settle (l0 := X.M.cells ++ [sI .i64 X.tP, sI .i64 X.tR, sI .u64 X.own, sI .i64 h, .ms 1 0 k 4 none, sI .i64 ec, sI .i64 q, sI .i64 nx]) (does_of_tree names (lleaB_tree X.M X.tP X.tR X.own h k cs 0 p nx 0 q 0 0 0 [] ec) ?_) (Nat.le_refl 2)
  have h1 : (ec != 0) = true := by simpa using hec
  have h2 : (!(ec == 0)) = true := by simpa using hec
  simp only [lleaBTree, Tree.ok, keep_map, h1, h2, true_and]
  exact ⟨hd, rfl⟩

theorem entE {n r q : Int} (he : R.e ≠ 0) : Run X 134 [sI .i64 n, sI .i64 r, sI .i64 q] R R :=
  Does.settle (l0 := X.M.cells ++ [sI .i64 X.tP, sI .i64 X.tR, sI .u64 X.own, sI .i64 R.h, .ms 1 0 R.k 4 none, sI .i64 R.e, sI .i64 R.p, sI .i64 R.nx]) (does_of_tree names (lentE_tree X.M X.tP X.tR X.own R.h R.k R.cs R.e R.p R.nx n q r 0 0 [] 0) (by
    simp only [lentETree, Tree.ok, keep_map]
    exact ⟨by simpa using he, rfl⟩)) (Nat.le_refl 2)

theorem entO {n r q : Int} {h2 : Int} {k2 : Nat} {c2 : List PV} (he : R.e = 0) (hd : Does Tryz.prog env 153 [.agg [sI .i64 R.h, .ms 0 0 R.k 4 none], sI .i64 n, sI .i64 r] [frB R.cs] (.tup [.agg [sI .i64 h2, .ms 1 0 k2 4 none], sI .i64 0]) [frB R.cs, frB c2]) :
    Run X 134 [sI .i64 n, sI .i64 r, sI .i64 q] R ⟨h2, k2, c2, 0, R.p, R.nx⟩ := by
  obtain ⟨h, k, cs, e, p, nx⟩ := R
  simp only at he hd
  subst he
  refine Does.kill (m' := [lkB X.M X.tP X.tR X.own h2 2 k2 0 p nx, frB cs, frB c2]) (does_of_tree names (lentO_tree X.M X.tP X.tR X.own h k cs 0 p nx n q r h2 k2 c2 0) ?_) 1
  simp only [lentOTree, Tree.ok, keep_map]
  exact ⟨hd, rfl⟩

end
end Go.Proofs.YtgbphddecpjlhaaGreatDoor.N
end
