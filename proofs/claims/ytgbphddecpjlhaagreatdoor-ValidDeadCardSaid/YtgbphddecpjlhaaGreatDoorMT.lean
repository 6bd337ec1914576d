/-
  The looker's function, and module.TypeOf; module.Check of the laws' module.
  ValidDead: the law's module, and its function's body.
  What the row's condition tells: the library's tables, cell by cell.
-/
import Derived.Test.YtgbphddecpjlhaaGreatDoorMR
import Derived.Test.YtgbphddecpjlhaaGreatDoorMS
import Derived.Test.YtgbphddecpjlhaaGreatDoorMG
import Derived.Test.YtgbphddecpjlhaaGreatDoorMH
import Derived.Test.YtgbphddecpjlhaaGreatDoorRows
import Derived.MakeChecks

section
set_option linter.unusedSimpArgs false
set_option linter.unusedVariables false
namespace Go.Proofs.YtgbphddecpjlhaaGreatDoor.N
open Go Go.Am

def loC (X : Lx) (n : Nat) (P Q lo : Int) (l : List Ins) (R1 R2 : Rw) (f : FuncId) (_ : List AV) (m : Mem) : Option (AV × Mem) := cond (Nat.beq f 31) (some (.tup [.agg [sI .i64 X.tP, sI .i64 X.tR], sB true], m)) (cond (Nat.beq f 33) (some (.tup [], memOut X R1)) (cond (Nat.beq f 34) (some (.tup [], memOut X R2)) none))
def loS (X : Lx) (n : Nat) (P Q lo : Int) (l : List Ins) (R1 R2 : Rw) : FuncId → Nat → Nat → Option (AV → AV) := shapeAt [(16, 7, 5, .agg [sI .i64 lo, aL l]), (16, 8, 8, sI .u64 X.own)]
def tyS (M : Md) (a : Nat) (T P Q : Int) : FuncId → Nat → Nat → Option (AV → AV) := shapeAt [(31, 5, 5, sI .i64 T), (31, 7, 5, sI .i64 T), (31, 10, 4, .agg [sI .i64 P, sI .i64 Q])]
def bs (l : List UInt8) : PV := .sc (.string ⟨l.toArray⟩)
def con0 : List PV := [.sc (.int .i64 65), .sc (.int .i64 0), .sc (.int .u32 0), .sc (.int .u32 0), .sc (.int .i32 0), .ps 0 1 [], .ps 0 8 [], .ps 0 8 []]
def rmD (tp tr lo : Int) (l : List Ins) : Md := ⟨3, [sP 1, sP 1, sP 0, sP 0, sP tp, sP tr], 1, [bs [104, 111, 115, 116], bs [102], sP 0], 2, [sP 1, sP 0, .ps 0 8 [], sP 2, sP lo, .ps l.length 8 (encL l)],
  1, [.sc (.int .u32 1), .sc (.int .u32 0), .sc (.bool false)], 1, [.sc (.int .u32 1), .sc (.int .u32 0), .sc (.bool false)], 2, [.sc (.bool true), .ps 1 8 con0, .sc (.bool false), .ps 1 8 con0], 0, [], false, 0, 0, [], 0, []⟩
def mcQ (lo ck : Int) (l : List Ins) (i : Nat) (f : FuncId) (_ : List AV) (m : Mem) : Option (AV × Mem) := cond (Nat.beq f 95) (match i with
  | 1 => some (sI .i64 ck, m)
  | 5 => some (sI .i64 ck, m)
  | _ => some (sI .i64 0, m)) none
def boC (M : Md) (n : Nat) (e e2 p2 : Int) (f : FuncId) (_ : List AV) (m : Mem) : Option (AV × Mem) := cond (Nat.beq f 15) (some (sI .i64 e, m)) (cond (Nat.beq f 16) (some (.tup [sI .i64 e2, sI .i64 p2], m)) none)
/- lok: 211 steps -/
noncomputable def lokOrc (X : Lx) (n : Nat) (P : Int) (Q : Int) (lo : Int) (l : List Ins) (R1 : Rw) (R2 : Rw) : Orc := orcS (loC X n P Q lo l R1 R2) noLed [] [(16, 0, 0), (32, 2, 3), (32, 0, 0)] [(16, 7, 3), (16, 7, 5)] (loS X n P Q lo l R1 R2)
def lokSc : Sc := (.fork .fin (.fork (.lit .fin) .fin))
noncomputable def lokTree (X : Lx) (n : Nat) (P : Int) (Q : Int) (lo : Int) (l : List Ins) (R1 : Rw) (R2 : Rw) : Tree :=
  (.test (decide ((↑n : Int) ≥ (↑X.M.fnN : Int)))
   (.out (Out.ret (AV.tup [AV.p (PV.sc (Value.int IntKind.i64 6)), AV.p (PV.sc (Value.int IntKind.i64 0))]) []))
   (.call ⟨31, [AV.agg X.M.cells, AV.p (PV.sc (Value.int IntKind.u32 (IntKind.u32.wrap (IntKind.i64.wrap ((↑X.M.imN : Int) + (↑n : Int))))))], [], AV.tup [AV.agg [AV.p (PV.sc (Value.int IntKind.i64 X.tP)), AV.p (PV.sc (Value.int IntKind.i64 X.tR))], AV.p (PV.sc (Value.bool true))], []⟩
    (.must (inB (↑n : Int) X.M.fnN && true && true)
     (.must (isInt IntKind.i64 (X.M.fnC.getD ((↑n : Int).toNat * 3 + 1) PV.bad) && (isPs (X.M.fnC.getD ((↑n : Int).toNat * 3 + 1 + 1) PV.bad) && true) && true)
      (.need (AV.agg [AV.p (PV.sc (Value.int IntKind.i64 (pvInt (X.M.fnC.getD ((↑n : Int).toNat * 3 + 1) PV.bad)))), AV.p (PV.ps (psLen (X.M.fnC.getD ((↑n : Int).toNat * 3 + 1 + 1) PV.bad)) (psSz (X.M.fnC.getD ((↑n : Int).toNat * 3 + 1 + 1) PV.bad)) (psCells (X.M.fnC.getD ((↑n : Int).toNat * 3 + 1 + 1) PV.bad)))] = AV.agg [sI IntKind.i64 lo, aL l])
       (.need (AV.p (PV.sc (Value.int IntKind.u64 (IntKind.u64.wrap (IntKind.u64.wrap X.tP + IntKind.u64.wrap lo)))) = sI IntKind.u64 X.own)
        (.test (decide (X.tR < 0))
         (.call ⟨33, [AV.mp 0 0, AV.p (PV.ps l.length 8 (encL l))], [Blk.ac [AV.p (PV.ps X.M.tyN 2 X.M.tyC), AV.p (PV.ps X.M.imN 3 X.M.imC), AV.p (PV.ps X.M.fnN 3 X.M.fnC), AV.p (PV.ps X.M.taN 3 X.M.taC), AV.p (PV.ps X.M.meN 3 X.M.meC), AV.p (PV.ps X.M.glN 2 X.M.glC), AV.p (PV.ps X.M.exN 3 X.M.exC), AV.p (PV.sc (Value.bool X.M.st)), AV.p (PV.sc (Value.int IntKind.u32 X.M.sn)), AV.p (PV.ps X.M.elN 2 X.M.elC), AV.p (PV.ps X.M.daN 2 X.M.daC), AV.p (PV.sc (Value.int IntKind.i64 X.tP)), AV.p (PV.sc (Value.int IntKind.i64 X.tR)), AV.p (PV.sc (Value.int IntKind.u64 X.own)), AV.p (PV.sc (Value.int IntKind.i64 0)), AV.os Option.none 0 0 [], AV.p (PV.sc (Value.int IntKind.i64 0)), AV.p (PV.sc (Value.int IntKind.i64 0)), AV.p (PV.sc (Value.int IntKind.i64 0))]], AV.tup [], [Blk.ac [AV.p (PV.ps X.M.tyN 2 X.M.tyC), AV.p (PV.ps X.M.imN 3 X.M.imC), AV.p (PV.ps X.M.fnN 3 X.M.fnC), AV.p (PV.ps X.M.taN 3 X.M.taC), AV.p (PV.ps X.M.meN 3 X.M.meC), AV.p (PV.ps X.M.glN 2 X.M.glC), AV.p (PV.ps X.M.exN 3 X.M.exC), AV.p (PV.sc (Value.bool X.M.st)), AV.p (PV.sc (Value.int IntKind.u32 X.M.sn)), AV.p (PV.ps X.M.elN 2 X.M.elC), AV.p (PV.ps X.M.daN 2 X.M.daC), AV.p (PV.sc (Value.int IntKind.i64 X.tP)), AV.p (PV.sc (Value.int IntKind.i64 X.tR)), AV.p (PV.sc (Value.int IntKind.u64 X.own)), AV.p (PV.sc (Value.int IntKind.i64 R1.h)), AV.ms 2 0 R1.k 4 Option.none, AV.p (PV.sc (Value.int IntKind.i64 R1.e)), AV.p (PV.sc (Value.int IntKind.i64 R1.p)), AV.p (PV.sc (Value.int IntKind.i64 R1.nx))], Blk.dead, Blk.ob (ObK.gr 135 true) (List.map AV.p R1.cs)]⟩
          (.call ⟨34, [AV.mp 0 0, AV.p (PV.sc (Value.int IntKind.i64 0))], [Blk.ac [AV.p (PV.ps X.M.tyN 2 X.M.tyC), AV.p (PV.ps X.M.imN 3 X.M.imC), AV.p (PV.ps X.M.fnN 3 X.M.fnC), AV.p (PV.ps X.M.taN 3 X.M.taC), AV.p (PV.ps X.M.meN 3 X.M.meC), AV.p (PV.ps X.M.glN 2 X.M.glC), AV.p (PV.ps X.M.exN 3 X.M.exC), AV.p (PV.sc (Value.bool X.M.st)), AV.p (PV.sc (Value.int IntKind.u32 X.M.sn)), AV.p (PV.ps X.M.elN 2 X.M.elC), AV.p (PV.ps X.M.daN 2 X.M.daC), AV.p (PV.sc (Value.int IntKind.i64 X.tP)), AV.p (PV.sc (Value.int IntKind.i64 X.tR)), AV.p (PV.sc (Value.int IntKind.u64 X.own)), AV.p (PV.sc (Value.int IntKind.i64 R1.h)), AV.ms 1 0 R1.k 4 Option.none, AV.p (PV.sc (Value.int IntKind.i64 R1.e)), AV.p (PV.sc (Value.int IntKind.i64 R1.p)), AV.p (PV.sc (Value.int IntKind.i64 R1.nx))], Blk.ob (ObK.gr 135 true) (List.map keepP (List.map keepP (List.map AV.p R1.cs)))], AV.tup [], [Blk.ac [AV.p (PV.ps X.M.tyN 2 X.M.tyC), AV.p (PV.ps X.M.imN 3 X.M.imC), AV.p (PV.ps X.M.fnN 3 X.M.fnC), AV.p (PV.ps X.M.taN 3 X.M.taC), AV.p (PV.ps X.M.meN 3 X.M.meC), AV.p (PV.ps X.M.glN 2 X.M.glC), AV.p (PV.ps X.M.exN 3 X.M.exC), AV.p (PV.sc (Value.bool X.M.st)), AV.p (PV.sc (Value.int IntKind.u32 X.M.sn)), AV.p (PV.ps X.M.elN 2 X.M.elC), AV.p (PV.ps X.M.daN 2 X.M.daC), AV.p (PV.sc (Value.int IntKind.i64 X.tP)), AV.p (PV.sc (Value.int IntKind.i64 X.tR)), AV.p (PV.sc (Value.int IntKind.u64 X.own)), AV.p (PV.sc (Value.int IntKind.i64 R2.h)), AV.ms 2 0 R2.k 4 Option.none, AV.p (PV.sc (Value.int IntKind.i64 R2.e)), AV.p (PV.sc (Value.int IntKind.i64 R2.p)), AV.p (PV.sc (Value.int IntKind.i64 R2.nx))], Blk.dead, Blk.ob (ObK.gr 135 true) (List.map AV.p R2.cs)]⟩
           (.out (Out.ret (AV.tup [AV.p (PV.sc (Value.int IntKind.i64 R2.e)), AV.p (PV.sc (Value.int IntKind.i64 R2.p))]) []))))
         (.test (decide (X.tR > 1))
          (.call ⟨33, [AV.mp 0 0, AV.p (PV.ps l.length 8 (encL l))], [Blk.ac [AV.p (PV.ps X.M.tyN 2 X.M.tyC), AV.p (PV.ps X.M.imN 3 X.M.imC), AV.p (PV.ps X.M.fnN 3 X.M.fnC), AV.p (PV.ps X.M.taN 3 X.M.taC), AV.p (PV.ps X.M.meN 3 X.M.meC), AV.p (PV.ps X.M.glN 2 X.M.glC), AV.p (PV.ps X.M.exN 3 X.M.exC), AV.p (PV.sc (Value.bool X.M.st)), AV.p (PV.sc (Value.int IntKind.u32 X.M.sn)), AV.p (PV.ps X.M.elN 2 X.M.elC), AV.p (PV.ps X.M.daN 2 X.M.daC), AV.p (PV.sc (Value.int IntKind.i64 X.tP)), AV.p (PV.sc (Value.int IntKind.i64 X.tR)), AV.p (PV.sc (Value.int IntKind.u64 X.own)), AV.p (PV.sc (Value.int IntKind.i64 0)), AV.os Option.none 0 0 [], AV.p (PV.sc (Value.int IntKind.i64 0)), AV.p (PV.sc (Value.int IntKind.i64 0)), AV.p (PV.sc (Value.int IntKind.i64 0))]], AV.tup [], [Blk.ac [AV.p (PV.ps X.M.tyN 2 X.M.tyC), AV.p (PV.ps X.M.imN 3 X.M.imC), AV.p (PV.ps X.M.fnN 3 X.M.fnC), AV.p (PV.ps X.M.taN 3 X.M.taC), AV.p (PV.ps X.M.meN 3 X.M.meC), AV.p (PV.ps X.M.glN 2 X.M.glC), AV.p (PV.ps X.M.exN 3 X.M.exC), AV.p (PV.sc (Value.bool X.M.st)), AV.p (PV.sc (Value.int IntKind.u32 X.M.sn)), AV.p (PV.ps X.M.elN 2 X.M.elC), AV.p (PV.ps X.M.daN 2 X.M.daC), AV.p (PV.sc (Value.int IntKind.i64 X.tP)), AV.p (PV.sc (Value.int IntKind.i64 X.tR)), AV.p (PV.sc (Value.int IntKind.u64 X.own)), AV.p (PV.sc (Value.int IntKind.i64 R1.h)), AV.ms 2 0 R1.k 4 Option.none, AV.p (PV.sc (Value.int IntKind.i64 R1.e)), AV.p (PV.sc (Value.int IntKind.i64 R1.p)), AV.p (PV.sc (Value.int IntKind.i64 R1.nx))], Blk.dead, Blk.ob (ObK.gr 135 true) (List.map AV.p R1.cs)]⟩
           (.call ⟨34, [AV.mp 0 0, AV.p (PV.sc (Value.int IntKind.i64 0))], [Blk.ac [AV.p (PV.ps X.M.tyN 2 X.M.tyC), AV.p (PV.ps X.M.imN 3 X.M.imC), AV.p (PV.ps X.M.fnN 3 X.M.fnC), AV.p (PV.ps X.M.taN 3 X.M.taC), AV.p (PV.ps X.M.meN 3 X.M.meC), AV.p (PV.ps X.M.glN 2 X.M.glC), AV.p (PV.ps X.M.exN 3 X.M.exC), AV.p (PV.sc (Value.bool X.M.st)), AV.p (PV.sc (Value.int IntKind.u32 X.M.sn)), AV.p (PV.ps X.M.elN 2 X.M.elC), AV.p (PV.ps X.M.daN 2 X.M.daC), AV.p (PV.sc (Value.int IntKind.i64 X.tP)), AV.p (PV.sc (Value.int IntKind.i64 X.tR)), AV.p (PV.sc (Value.int IntKind.u64 X.own)), AV.p (PV.sc (Value.int IntKind.i64 R1.h)), AV.ms 1 0 R1.k 4 Option.none, AV.p (PV.sc (Value.int IntKind.i64 R1.e)), AV.p (PV.sc (Value.int IntKind.i64 R1.p)), AV.p (PV.sc (Value.int IntKind.i64 R1.nx))], Blk.ob (ObK.gr 135 true) (List.map keepP (List.map keepP (List.map AV.p R1.cs)))], AV.tup [], [Blk.ac [AV.p (PV.ps X.M.tyN 2 X.M.tyC), AV.p (PV.ps X.M.imN 3 X.M.imC), AV.p (PV.ps X.M.fnN 3 X.M.fnC), AV.p (PV.ps X.M.taN 3 X.M.taC), AV.p (PV.ps X.M.meN 3 X.M.meC), AV.p (PV.ps X.M.glN 2 X.M.glC), AV.p (PV.ps X.M.exN 3 X.M.exC), AV.p (PV.sc (Value.bool X.M.st)), AV.p (PV.sc (Value.int IntKind.u32 X.M.sn)), AV.p (PV.ps X.M.elN 2 X.M.elC), AV.p (PV.ps X.M.daN 2 X.M.daC), AV.p (PV.sc (Value.int IntKind.i64 X.tP)), AV.p (PV.sc (Value.int IntKind.i64 X.tR)), AV.p (PV.sc (Value.int IntKind.u64 X.own)), AV.p (PV.sc (Value.int IntKind.i64 R2.h)), AV.ms 2 0 R2.k 4 Option.none, AV.p (PV.sc (Value.int IntKind.i64 R2.e)), AV.p (PV.sc (Value.int IntKind.i64 R2.p)), AV.p (PV.sc (Value.int IntKind.i64 R2.nx))], Blk.dead, Blk.ob (ObK.gr 135 true) (List.map AV.p R2.cs)]⟩
            (.out (Out.ret (AV.tup [AV.p (PV.sc (Value.int IntKind.i64 R2.e)), AV.p (PV.sc (Value.int IntKind.i64 R2.p))]) []))))
          (.call ⟨33, [AV.mp 0 0, AV.p (PV.ps l.length 8 (encL l))], [Blk.ac [AV.p (PV.ps X.M.tyN 2 X.M.tyC), AV.p (PV.ps X.M.imN 3 X.M.imC), AV.p (PV.ps X.M.fnN 3 X.M.fnC), AV.p (PV.ps X.M.taN 3 X.M.taC), AV.p (PV.ps X.M.meN 3 X.M.meC), AV.p (PV.ps X.M.glN 2 X.M.glC), AV.p (PV.ps X.M.exN 3 X.M.exC), AV.p (PV.sc (Value.bool X.M.st)), AV.p (PV.sc (Value.int IntKind.u32 X.M.sn)), AV.p (PV.ps X.M.elN 2 X.M.elC), AV.p (PV.ps X.M.daN 2 X.M.daC), AV.p (PV.sc (Value.int IntKind.i64 X.tP)), AV.p (PV.sc (Value.int IntKind.i64 X.tR)), AV.p (PV.sc (Value.int IntKind.u64 X.own)), AV.p (PV.sc (Value.int IntKind.i64 0)), AV.ms 1 0 1 4 Option.none, AV.p (PV.sc (Value.int IntKind.i64 0)), AV.p (PV.sc (Value.int IntKind.i64 0)), AV.p (PV.sc (Value.int IntKind.i64 0))], Blk.ob (ObK.gr 135 true) [AV.p (PV.sc (Value.int IntKind.i64 0)), AV.p (PV.sc (Value.int IntKind.i64 0)), AV.p (PV.sc (Value.int IntKind.i64 X.tR)), AV.p (PV.sc (Value.bool false))]], AV.tup [], [Blk.ac [AV.p (PV.ps X.M.tyN 2 X.M.tyC), AV.p (PV.ps X.M.imN 3 X.M.imC), AV.p (PV.ps X.M.fnN 3 X.M.fnC), AV.p (PV.ps X.M.taN 3 X.M.taC), AV.p (PV.ps X.M.meN 3 X.M.meC), AV.p (PV.ps X.M.glN 2 X.M.glC), AV.p (PV.ps X.M.exN 3 X.M.exC), AV.p (PV.sc (Value.bool X.M.st)), AV.p (PV.sc (Value.int IntKind.u32 X.M.sn)), AV.p (PV.ps X.M.elN 2 X.M.elC), AV.p (PV.ps X.M.daN 2 X.M.daC), AV.p (PV.sc (Value.int IntKind.i64 X.tP)), AV.p (PV.sc (Value.int IntKind.i64 X.tR)), AV.p (PV.sc (Value.int IntKind.u64 X.own)), AV.p (PV.sc (Value.int IntKind.i64 R1.h)), AV.ms 2 0 R1.k 4 Option.none, AV.p (PV.sc (Value.int IntKind.i64 R1.e)), AV.p (PV.sc (Value.int IntKind.i64 R1.p)), AV.p (PV.sc (Value.int IntKind.i64 R1.nx))], Blk.dead, Blk.ob (ObK.gr 135 true) (List.map AV.p R1.cs)]⟩
           (.call ⟨34, [AV.mp 0 0, AV.p (PV.sc (Value.int IntKind.i64 0))], [Blk.ac [AV.p (PV.ps X.M.tyN 2 X.M.tyC), AV.p (PV.ps X.M.imN 3 X.M.imC), AV.p (PV.ps X.M.fnN 3 X.M.fnC), AV.p (PV.ps X.M.taN 3 X.M.taC), AV.p (PV.ps X.M.meN 3 X.M.meC), AV.p (PV.ps X.M.glN 2 X.M.glC), AV.p (PV.ps X.M.exN 3 X.M.exC), AV.p (PV.sc (Value.bool X.M.st)), AV.p (PV.sc (Value.int IntKind.u32 X.M.sn)), AV.p (PV.ps X.M.elN 2 X.M.elC), AV.p (PV.ps X.M.daN 2 X.M.daC), AV.p (PV.sc (Value.int IntKind.i64 X.tP)), AV.p (PV.sc (Value.int IntKind.i64 X.tR)), AV.p (PV.sc (Value.int IntKind.u64 X.own)), AV.p (PV.sc (Value.int IntKind.i64 R1.h)), AV.ms 1 0 R1.k 4 Option.none, AV.p (PV.sc (Value.int IntKind.i64 R1.e)), AV.p (PV.sc (Value.int IntKind.i64 R1.p)), AV.p (PV.sc (Value.int IntKind.i64 R1.nx))], Blk.ob (ObK.gr 135 true) (List.map keepP (List.map keepP (List.map AV.p R1.cs)))], AV.tup [], [Blk.ac [AV.p (PV.ps X.M.tyN 2 X.M.tyC), AV.p (PV.ps X.M.imN 3 X.M.imC), AV.p (PV.ps X.M.fnN 3 X.M.fnC), AV.p (PV.ps X.M.taN 3 X.M.taC), AV.p (PV.ps X.M.meN 3 X.M.meC), AV.p (PV.ps X.M.glN 2 X.M.glC), AV.p (PV.ps X.M.exN 3 X.M.exC), AV.p (PV.sc (Value.bool X.M.st)), AV.p (PV.sc (Value.int IntKind.u32 X.M.sn)), AV.p (PV.ps X.M.elN 2 X.M.elC), AV.p (PV.ps X.M.daN 2 X.M.daC), AV.p (PV.sc (Value.int IntKind.i64 X.tP)), AV.p (PV.sc (Value.int IntKind.i64 X.tR)), AV.p (PV.sc (Value.int IntKind.u64 X.own)), AV.p (PV.sc (Value.int IntKind.i64 R2.h)), AV.ms 2 0 R2.k 4 Option.none, AV.p (PV.sc (Value.int IntKind.i64 R2.e)), AV.p (PV.sc (Value.int IntKind.i64 R2.p)), AV.p (PV.sc (Value.int IntKind.i64 R2.nx))], Blk.dead, Blk.ob (ObK.gr 135 true) (List.map AV.p R2.cs)]⟩
            (.out (Out.ret (AV.tup [AV.p (PV.sc (Value.int IntKind.i64 R2.e)), AV.p (PV.sc (Value.int IntKind.i64 R2.p))]) []))))))))))))
theorem lok_tree (X : Lx) (n : Nat) (P : Int) (Q : Int) (lo : Int) (l : List Ins) (R1 : Rw) (R2 : Rw) : growF Tryz.prog env (lokOrc X n P Q lo l R1 R2) 1000000 16 ([AV.agg X.M.cells, sI IntKind.i64 (↑n : Int)]) ([]) lokSc = lokTree X n P Q lo l R1 R2 := by kernel_rfl

/- tyo: 210 steps -/
noncomputable def tyoOrc (M : Md) (a : Nat) (T : Int) (P : Int) (Q : Int) : Orc := orcS noCall noLed [] [(31, 0, 0), (31, 8, 3), (31, 0, 2), (31, 0, 1)] [(31, 5, 3), (31, 5, 5), (31, 10, 3), (31, 10, 4), (31, 7, 3), (31, 7, 5)] (tyS M a T P Q)
def tyoSc : Sc := (.fork (.fork (.lit .fin) .fin) (.fork (.fork (.lit .fin) .fin) (.lit (.lit .fin))))
noncomputable def tyoTree (M : Md) (a : Nat) (T : Int) (P : Int) (Q : Int) : Tree :=
  (.test (decide (IntKind.i64.wrap (IntKind.i64.wrap (↑a : Int) - (↑M.imN : Int)) < 0))
   (.must (inB (IntKind.i64.wrap (↑a : Int)) M.imN && true && true)
    (.must (isInt IntKind.i64 (M.imC.getD ((IntKind.i64.wrap (↑a : Int)).toNat * 3 + 2) PV.bad) && true)
     (.need (AV.p (PV.sc (Value.int IntKind.i64 (pvInt (M.imC.getD ((IntKind.i64.wrap (↑a : Int)).toNat * 3 + 2) PV.bad)))) = sI IntKind.i64 T)
      (.test (decide (T < 0))
       (.out (Out.ret (AV.tup [AV.agg [AV.p (PV.sc (Value.int IntKind.i64 0)), AV.p (PV.sc (Value.int IntKind.i64 0))], AV.p (PV.sc (Value.bool false))]) []))
       (.test (decide (T ≥ (↑M.tyN : Int)))
        (.out (Out.ret (AV.tup [AV.agg [AV.p (PV.sc (Value.int IntKind.i64 0)), AV.p (PV.sc (Value.int IntKind.i64 0))], AV.p (PV.sc (Value.bool false))]) []))
        (.must (inB T M.tyN && true && true)
         (.must (isInt IntKind.i64 (M.tyC.getD (T.toNat * 2) PV.bad) && (isInt IntKind.i64 (M.tyC.getD (T.toNat * 2 + 1) PV.bad) && true) && true)
          (.need (AV.agg [AV.p (PV.sc (Value.int IntKind.i64 (pvInt (M.tyC.getD (T.toNat * 2) PV.bad)))), AV.p (PV.sc (Value.int IntKind.i64 (pvInt (M.tyC.getD (T.toNat * 2 + 1) PV.bad))))] = AV.agg [sI IntKind.i64 P, sI IntKind.i64 Q])
           (.out (Out.ret (AV.tup [AV.agg [AV.p (PV.sc (Value.int IntKind.i64 P)), AV.p (PV.sc (Value.int IntKind.i64 Q))], AV.p (PV.sc (Value.bool true))]) []))))))))))
   (.test (decide (IntKind.i64.wrap (IntKind.i64.wrap (↑a : Int) - (↑M.imN : Int)) < (↑M.fnN : Int)))
    (.must (inB (IntKind.i64.wrap (IntKind.i64.wrap (↑a : Int) - (↑M.imN : Int))) M.fnN && true && true)
     (.must (isInt IntKind.i64 (M.fnC.getD ((IntKind.i64.wrap (IntKind.i64.wrap (↑a : Int) - (↑M.imN : Int))).toNat * 3 + 0) PV.bad) && true)
      (.need (AV.p (PV.sc (Value.int IntKind.i64 (pvInt (M.fnC.getD ((IntKind.i64.wrap (IntKind.i64.wrap (↑a : Int) - (↑M.imN : Int))).toNat * 3 + 0) PV.bad)))) = sI IntKind.i64 T)
       (.test (decide (T < 0))
        (.out (Out.ret (AV.tup [AV.agg [AV.p (PV.sc (Value.int IntKind.i64 0)), AV.p (PV.sc (Value.int IntKind.i64 0))], AV.p (PV.sc (Value.bool false))]) []))
        (.test (decide (T ≥ (↑M.tyN : Int)))
         (.out (Out.ret (AV.tup [AV.agg [AV.p (PV.sc (Value.int IntKind.i64 0)), AV.p (PV.sc (Value.int IntKind.i64 0))], AV.p (PV.sc (Value.bool false))]) []))
         (.must (inB T M.tyN && true && true)
          (.must (isInt IntKind.i64 (M.tyC.getD (T.toNat * 2) PV.bad) && (isInt IntKind.i64 (M.tyC.getD (T.toNat * 2 + 1) PV.bad) && true) && true)
           (.need (AV.agg [AV.p (PV.sc (Value.int IntKind.i64 (pvInt (M.tyC.getD (T.toNat * 2) PV.bad)))), AV.p (PV.sc (Value.int IntKind.i64 (pvInt (M.tyC.getD (T.toNat * 2 + 1) PV.bad))))] = AV.agg [sI IntKind.i64 P, sI IntKind.i64 Q])
            (.out (Out.ret (AV.tup [AV.agg [AV.p (PV.sc (Value.int IntKind.i64 P)), AV.p (PV.sc (Value.int IntKind.i64 Q))], AV.p (PV.sc (Value.bool true))]) []))))))))))
    (.out (Out.ret (AV.tup [AV.agg [AV.p (PV.sc (Value.int IntKind.i64 0)), AV.p (PV.sc (Value.int IntKind.i64 0))], AV.p (PV.sc (Value.bool false))]) []))))
theorem tyo_tree (M : Md) (a : Nat) (T : Int) (P : Int) (Q : Int) : growF Tryz.prog env (tyoOrc M a T P Q) 1000000 31 ([AV.agg M.cells, sI IntKind.u32 (↑a : Int)]) ([]) tyoSc = tyoTree M a T P Q := by kernel_rfl

/- mckD: 3147 steps -/
noncomputable def mckDOrc : Orc := orcL noCall noLed [] [(63, 0, 2), (74, 2, 11), (103, 0, 2)] []
noncomputable def mckDSc (lo : Int) (ck : Int) (l : List Ins) : Sc := (.ans 95 (AV.p (PV.sc (Value.int IntKind.i64 0))) ([]) (.lit (.ans 95 (AV.p (PV.sc (Value.int IntKind.i64 ck))) ([]) (.fork .fin (.ans 95 (AV.p (PV.sc (Value.int IntKind.i64 0))) ([]) (.lit (.ans 95 (AV.p (PV.sc (Value.int IntKind.i64 0))) ([]) (.lit (.lit (.lit (.fork (.lit .fin) (.fork .fin (.ans 95 (AV.p (PV.sc (Value.int IntKind.i64 0))) ([]) (.lit (.ans 95 (AV.p (PV.sc (Value.int IntKind.i64 ck))) ([]) (.fork .fin (.ans 95 (AV.p (PV.sc (Value.int IntKind.i64 0))) ([]) (.lit (.ans 95 (AV.p (PV.sc (Value.int IntKind.i64 0))) ([]) (.lit .fin))))))))))))))))))))
noncomputable def mckDTree (lo : Int) (ck : Int) (l : List Ins) : Tree :=
  (.call ⟨95, [AV.p (PV.ps 0 8 [])], [], AV.p (PV.sc (Value.int IntKind.i64 0)), []⟩
   (.call ⟨95, [AV.p (PV.ps l.length 8 (encL l))], [], AV.p (PV.sc (Value.int IntKind.i64 ck)), []⟩
    (.test (ck == 141)
     (.out (Out.ret (AV.p (PV.sc (Value.int IntKind.i64 141))) []))
     (.call ⟨95, [AV.p (PV.ps 1 8 [PV.sc (Value.int IntKind.i64 65), PV.sc (Value.int IntKind.i64 0), PV.sc (Value.int IntKind.u32 0), PV.sc (Value.int IntKind.u32 0), PV.sc (Value.int IntKind.i32 0), PV.ps 0 1 [], PV.ps 0 8 [], PV.ps 0 8 []])], [], AV.p (PV.sc (Value.int IntKind.i64 0)), []⟩
      (.call ⟨95, [AV.p (PV.ps 1 8 [PV.sc (Value.int IntKind.i64 65), PV.sc (Value.int IntKind.i64 0), PV.sc (Value.int IntKind.u32 0), PV.sc (Value.int IntKind.u32 0), PV.sc (Value.int IntKind.i32 0), PV.ps 0 1 [], PV.ps 0 8 [], PV.ps 0 8 []])], [], AV.p (PV.sc (Value.int IntKind.i64 0)), []⟩
       (.test (decide (lo < 0))
        (.out (Out.ret (AV.p (PV.sc (Value.int IntKind.i64 2))) []))
        (.test (decide (lo > 50000))
         (.out (Out.ret (AV.p (PV.sc (Value.int IntKind.i64 2))) []))
         (.call ⟨95, [AV.p (PV.ps 0 8 [])], [], AV.p (PV.sc (Value.int IntKind.i64 0)), []⟩
          (.call ⟨95, [AV.p (PV.ps l.length 8 (encL l))], [], AV.p (PV.sc (Value.int IntKind.i64 ck)), []⟩
           (.test (ck == 2)
            (.out (Out.ret (AV.p (PV.sc (Value.int IntKind.i64 2))) []))
            (.call ⟨95, [AV.p (PV.ps 1 8 [PV.sc (Value.int IntKind.i64 65), PV.sc (Value.int IntKind.i64 0), PV.sc (Value.int IntKind.u32 0), PV.sc (Value.int IntKind.u32 0), PV.sc (Value.int IntKind.i32 0), PV.ps 0 1 [], PV.ps 0 8 [], PV.ps 0 8 []])], [], AV.p (PV.sc (Value.int IntKind.i64 0)), []⟩
             (.call ⟨95, [AV.p (PV.ps 1 8 [PV.sc (Value.int IntKind.i64 65), PV.sc (Value.int IntKind.i64 0), PV.sc (Value.int IntKind.u32 0), PV.sc (Value.int IntKind.u32 0), PV.sc (Value.int IntKind.i32 0), PV.ps 0 1 [], PV.ps 0 8 [], PV.ps 0 8 []])], [], AV.p (PV.sc (Value.int IntKind.i64 0)), []⟩
              (.out (Out.ret (AV.p (PV.sc (Value.int IntKind.i64 0))) []))))))))))))))
theorem mckD_tree (lo : Int) (ck : Int) (l : List Ins) : growF Tryz.prog env mckDOrc 1000000 15 ([AV.agg (rmD 0 0 lo l).cells]) ([]) (mckDSc lo ck l) = mckDTree lo ck l := by kernel_rfl

/- bod: 40 steps -/
noncomputable def bodOrc (M : Md) (n : Nat) (e : Int) (e2 : Int) (p2 : Int) : Orc := orcL (boC M n e e2 p2) noLed [] [(8, 0, 0)] []
def bodSc : Sc := .fin
noncomputable def bodTree (M : Md) (n : Nat) (e : Int) (e2 : Int) (p2 : Int) : Tree :=
  (.call ⟨15, [AV.agg [AV.p (PV.ps M.tyN 2 M.tyC), AV.p (PV.ps M.imN 3 M.imC), AV.p (PV.ps M.fnN 3 M.fnC), AV.p (PV.ps M.taN 3 M.taC), AV.p (PV.ps M.meN 3 M.meC), AV.p (PV.ps M.glN 2 M.glC), AV.p (PV.ps M.exN 3 M.exC), AV.p (PV.sc (Value.bool M.st)), AV.p (PV.sc (Value.int IntKind.u32 M.sn)), AV.p (PV.ps M.elN 2 M.elC), AV.p (PV.ps M.daN 2 M.daC)]], [], AV.p (PV.sc (Value.int IntKind.i64 e)), []⟩
   (.test (e != 0)
    (.out (Out.ret (AV.tup [AV.p (PV.sc (Value.int IntKind.i64 e)), AV.p (PV.sc (Value.int IntKind.i64 0))]) []))
    (.call ⟨16, [AV.agg [AV.p (PV.ps M.tyN 2 M.tyC), AV.p (PV.ps M.imN 3 M.imC), AV.p (PV.ps M.fnN 3 M.fnC), AV.p (PV.ps M.taN 3 M.taC), AV.p (PV.ps M.meN 3 M.meC), AV.p (PV.ps M.glN 2 M.glC), AV.p (PV.ps M.exN 3 M.exC), AV.p (PV.sc (Value.bool M.st)), AV.p (PV.sc (Value.int IntKind.u32 M.sn)), AV.p (PV.ps M.elN 2 M.elC), AV.p (PV.ps M.daN 2 M.daC)], AV.p (PV.sc (Value.int IntKind.i64 (↑n : Int)))], [], AV.tup [AV.p (PV.sc (Value.int IntKind.i64 e2)), AV.p (PV.sc (Value.int IntKind.i64 p2))], []⟩
     (.out (Out.ret (AV.tup [AV.p (PV.sc (Value.int IntKind.i64 e2)), AV.p (PV.sc (Value.int IntKind.i64 p2))]) [])))))
theorem bod_tree (M : Md) (n : Nat) (e : Int) (e2 : Int) (p2 : Int) : growF Tryz.prog env (bodOrc M n e e2 p2) 1000000 8 ([AV.agg M.cells, sI IntKind.i64 (↑n : Int)]) ([]) bodSc = bodTree M n e e2 p2 := by kernel_rfl


theorem typeOf_some {M : Md} {a : Nat} {T P Q : Int} (ha : a < 4294967296) (hi : M.imN ≤ 1000000000) (hf : M.fnN ≤ 1000000000) (hT : 0 ≤ T ∧ T < M.tyN)
    (hat : (a < M.imN ∧ M.imC.getD (a * 3 + 2) .bad = .sc (.int .i64 T)) ∨ (M.imN ≤ a ∧ a - M.imN < M.fnN ∧ M.fnC.getD ((a - M.imN) * 3 + 0) .bad = .sc (.int .i64 T)))
    (hP : M.tyC.getD (T.toNat * 2) .bad = .sc (.int .i64 P)) (hQ : M.tyC.getD (T.toNat * 2 + 1) .bad = .sc (.int .i64 Q)) :
    Does Tryz.prog env 31 [.agg M.cells, sI .u32 a] [] (.tup [.agg [sI .i64 P, sI .i64 Q], sB true]) [] := by
  refine does_of_tree names (tyo_tree M a T P Q) ?_
  have w1 : IntKind.i64.wrap (a : Int) = a := i64In (by omega) (by omega)
  have w2 : IntKind.i64.wrap ((a : Int) - M.imN) = a - M.imN := i64In (by omega) (by omega)
  have t1 : decide (T < 0) = false := by simp; omega
  have t2 : decide (T ≥ (M.tyN : Int)) = false := by simp; omega
  rcases hat with ⟨h1, h2⟩ | ⟨h1, h2, h3⟩
  · have g1 : decide ((a : Int) - M.imN < 0) = true := by simp; omega
    simp only [tyoTree, Tree.ok, w1, w2, g1, t1, t2, h2, hP, hQ, Int.toNat_natCast, isInt, pvInt, ik, inB, Bool.false_eq_true, Bool.true_eq_false, false_implies, true_implies, true_and, and_true, Bool.and_true, Bool.and_eq_true, decide_eq_true_eq]
    omega
  · have g1 : decide ((a : Int) - M.imN < 0) = false := by simp; omega
    have g2 : decide ((a : Int) - M.imN < M.fnN) = true := by simp; omega
    have e1 : ((a : Int) - M.imN).toNat = a - M.imN := by omega
    simp only [tyoTree, Tree.ok, w1, w2, g1, g2, t1, t2, e1, h3, hP, hQ, isInt, pvInt, ik, inB, Bool.false_eq_true, Bool.true_eq_false, false_implies, true_implies, true_and, and_true, Bool.and_true, Bool.and_eq_true, decide_eq_true_eq]
    omega

theorem typeOf_none {M : Md} {a : Nat} (ha : a < 4294967296) (hi : M.imN ≤ 1000000000) (hf : M.fnN ≤ 1000000000) (hat : M.imN + M.fnN ≤ a) :
    Does Tryz.prog env 31 [.agg M.cells, sI .u32 a] [] (.tup [.agg [sI .i64 0, sI .i64 0], sB false]) [] := by
  refine does_of_tree names (tyo_tree M a 0 0 0) ?_
  have w1 : IntKind.i64.wrap (a : Int) = a := i64In (by omega) (by omega)
  have w2 : IntKind.i64.wrap ((a : Int) - M.imN) = a - M.imN := i64In (by omega) (by omega)
  have g1 : decide ((a : Int) - M.imN < 0) = false := by simp; omega
  have g2 : decide ((a : Int) - M.imN < M.fnN) = false := by simp; omega
  simp only [tyoTree, Tree.ok, w1, w2, g1, g2, Bool.false_eq_true, false_implies, true_implies, and_true]

/-- A function's instructions, looked at. -/
theorem look_does {X : Lx} {V : VEnv} (hv : VOk X V) {n : Nat} {lo : Int} {l : List Ins} (hn : n < X.M.fnN) (hf : X.M.fnN ≤ 1000000000) (hi : X.M.imN ≤ 1000000000) (hlo : X.M.fnC.getD (n * 3 + 1) .bad = .sc (.int .i64 lo)) (hl : X.M.fnC.getD (n * 3 + 2) .bad = .ps l.length 8 (encL l))
    (hp : 0 ≤ X.tP ∧ X.tP ≤ 1000000) (hlo0 : 0 ≤ lo ∧ lo ≤ 1000000) (how : X.own = X.tP + lo) (hty : Does Tryz.prog env 31 [.agg X.M.cells, sI .u32 (X.M.imN + n : Nat)] [] (.tup [.agg [sI .i64 X.tP, sI .i64 X.tR], sB true]) [])
    (hfit : Fit l 0 1) : Does Tryz.prog env 16 [.agg X.M.cells, sI .i64 n] [] (.tup [sI .i64 (bodyV V l).1, sI .i64 ((bodyV V l).2 : Nat)]) [] := by
  have hret := hv.ret
  have hret1 := hv.ret1
  have g0 : Good ⟨0, 1, frC 0 0 X.tR false, 0, 0, 0⟩ [] ⟨0, 0, X.tR, false⟩ 0 0 := by
    refine ⟨⟨rfl, rfl, ⟨[], rfl⟩, ?_⟩, rfl, rfl, rfl, by simp⟩
    exact ⟨rfl, rfl, by simp only; omega, by simp only; omega, trivial, by simp, by simp, by simp⟩
  obtain ⟨R1, r1, a1⟩ := list_run hv l _ [] ⟨0, 0, X.tR, false⟩ 0 0 hfit g0
  have hlab : labs ([] ++ [(⟨0, 0, X.tR, false⟩ : Fr)]) = [V.ret] := by simp [labs, hret]
  rw [hlab] at a1
  have hres : X.tR.toNat = V.ret := by omega
  have key : ∃ R2, Run X 34 [sI .i64 (0 : Nat)] R1 R2 ∧ R2.e = (bodyV V l).1 ∧ R2.p = ((bodyV V l).2 : Nat) := by
    unfold bodyV
    dsimp only at a1
    cases hvl : valL V [V.ret] l 0 false 0 with
    | bad e p =>
      rw [hvl] at a1
      exact ⟨R1, leaE (by rw [a1.1]; exact a1.2.1), a1.1, a1.2.2⟩
    | ok m d c =>
      rw [hvl] at a1
      obtain ⟨R2, r2, h2⟩ := leave_end (X := X) a1 0
      refine ⟨R2, r2, ?_⟩
      simp only [hres] at h2
      have hp0 := a1.p0
      cases hev : endV V.ret m d 0 (.ok 0 false 0) with
      | bad e p => rw [hev] at h2; dsimp only; rw [hev]; exact h2
      | ok m' d' c' => rw [hev] at h2; dsimp only; rw [hev]; exact ⟨h2.1, by rw [h2.2, hp0]; rfl⟩
  obtain ⟨R2, r2, e2, p2⟩ := key
  rw [← e2, ← p2]
  refine does_of_tree names (lok_tree X n X.tP X.tR lo l R1 R2) ?_
  have w1 : IntKind.i64.wrap ((X.M.imN : Int) + n) = ((X.M.imN + n : Nat) : Int) := by rw [i64In (by omega) (by omega)]; omega
  have w2 : IntKind.u32.wrap ((X.M.imN + n : Nat) : Int) = ((X.M.imN + n : Nat) : Int) := u32In (by omega) (by omega)
  have w3 : IntKind.u64.wrap X.tP = X.tP := u64In (by omega) (by omega)
  have w4 : IntKind.u64.wrap lo = lo := u64In (by omega) (by omega)
  have w5 : IntKind.u64.wrap (X.tP + lo) = X.own := by rw [u64In (by omega) (by omega), how]
  have g1 : decide ((n : Int) ≥ (X.M.fnN : Int)) = false := by simp; omega
  have g2 : decide (X.tR < 0) = false := by simp; omega
  have g3 : decide (X.tR > 1) = false := by simp; omega
  simp only [lokTree, Tree.ok, keep_map, w1, w2, w3, w4, w5, g1, g2, g3, Int.toNat_natCast, Nat.add_assoc, Nat.reduceAdd, hlo, hl, isInt, isPs, pvInt, psLen, psSz, psCells, ik, inB, Bool.false_eq_true, Bool.true_eq_false, false_implies, true_implies, true_and, and_true, Bool.and_true, Bool.and_eq_true, decide_eq_true_eq]
  exact ⟨hty, by omega, r1, r2⟩

end Go.Proofs.YtgbphddecpjlhaaGreatDoor.N
end

section
set_option linter.unusedSimpArgs false
set_option linter.unusedVariables false
namespace Go.Proofs.YtgbphddecpjlhaaGreatDoor.N
open Go Go.Am

def ldC (op r a b nn : Int) (tg : List Int) (ll le : List Ins) (e p : Int) (f : FuncId) (_ : List AV) (m : Mem) : Option (AV × Mem) := cond (Nat.beq f 12) (some (sB true, m)) (cond (Nat.beq f 8) (some (.tup [sI .i64 e, sI .i64 p], m)) none)
/- ldd: 777 steps -/
noncomputable def lddOrc (op : Int) (r : Int) (a : Int) (b : Int) (nn : Int) (tg : List Int) (ll : List Ins) (le : List Ins) (e : Int) (p : Int) : Orc := orcL (ldC op r a b nn tg ll le e p) noLed [] [(4, 3, 5), (4, 3, 11), (4, 0, 0), (4, 11, 5), (4, 11, 8), (4, 11, 11), (4, 11, 15), (4, 11, 19), (4, 11, 22), (4, 11, 26), (4, 11, 31), (4, 11, 40), (4, 11, 43), (4, 11, 46)] []
def lddSc : Sc := (.fork (.lit (.lit .fin)) (.fork (.lit .fin) (.fork .fin (.fork (.lit .fin) (.fork (.fork (.lit (.lit (.lit .fin))) (.fork (.lit (.lit .fin)) (.fork (.lit .fin) (.fork (.fork (.lit (.lit .fin)) (.fork (.lit .fin) (.fork .fin (.no .fin)))) (.lit (.no .fin)))))) (.lit .fin))))))
noncomputable def lddTree (op : Int) (r : Int) (a : Int) (b : Int) (nn : Int) (tg : List Int) (ll : List Ins) (le : List Ins) (e : Int) (p : Int) : Tree :=
  (.call ⟨12, [], [], AV.p (PV.sc (Value.bool true)), []⟩
   (.test (decide ((↑ll.length : Int) > 0))
    (.out (Out.ret (AV.p (PV.sc (Value.bool true))) []))
    (.test (decide ((↑le.length : Int) > 0))
     (.out (Out.ret (AV.p (PV.sc (Value.bool true))) []))
     (.test (decide ((↑tg.length : Int) > 0))
      (.out (Out.ret (AV.p (PV.sc (Value.bool true))) []))
      (.call ⟨8, [AV.agg [AV.os (Option.some 0) 3 2 [PV.sc (Value.int IntKind.i64 1), PV.sc (Value.int IntKind.i64 1), PV.sc (Value.int IntKind.i64 0), PV.sc (Value.int IntKind.i64 0), PV.sc (Value.int IntKind.i64 0), PV.sc (Value.int IntKind.i64 0)], AV.os Option.none 1 3 [PV.sc (Value.string (ByteArray.mk #[104, 111, 115, 116])), PV.sc (Value.string (ByteArray.mk #[102])), PV.sc (Value.int IntKind.i64 0)], AV.os (Option.some 1) 2 3 [PV.sc (Value.int IntKind.i64 1), PV.sc (Value.int IntKind.i64 0), PV.ps 0 0 [], PV.sc (Value.int IntKind.i64 2), PV.sc (Value.int IntKind.i64 3), PV.ps 5 8 [PV.sc (Value.int IntKind.i64 0), PV.sc (Value.int IntKind.i64 0), PV.sc (Value.int IntKind.u32 0), PV.sc (Value.int IntKind.u32 0), PV.sc (Value.int IntKind.i32 0), PV.ps 0 0 [], PV.ps 0 0 [], PV.ps 0 0 [], PV.sc (Value.int IntKind.i64 op), PV.sc (Value.int IntKind.i64 r), PV.sc (Value.int IntKind.u32 a), PV.sc (Value.int IntKind.u32 b), PV.sc (Value.int IntKind.i32 nn), PV.ps tg.length 1 (encT IntKind.u32 tg), PV.ps ll.length 8 (encL ll), PV.ps le.length 8 (encL le), PV.sc (Value.int IntKind.i64 0), PV.sc (Value.int IntKind.i64 0), PV.sc (Value.int IntKind.u32 0), PV.sc (Value.int IntKind.u32 0), PV.sc (Value.int IntKind.i32 0), PV.ps 0 0 [], PV.ps 0 0 [], PV.ps 0 0 [], PV.sc (Value.int IntKind.i64 26), PV.sc (Value.int IntKind.i64 0), PV.sc (Value.int IntKind.u32 0), PV.sc (Value.int IntKind.u32 0), PV.sc (Value.int IntKind.i32 0), PV.ps 0 0 [], PV.ps 0 0 [], PV.ps 0 0 [], PV.sc (Value.int IntKind.i64 26), PV.sc (Value.int IntKind.i64 0), PV.sc (Value.int IntKind.u32 0), PV.sc (Value.int IntKind.u32 0), PV.sc (Value.int IntKind.i32 0), PV.ps 0 0 [], PV.ps 0 0 [], PV.ps 0 0 []]], AV.os Option.none 1 3 [PV.sc (Value.int IntKind.u32 1), PV.sc (Value.int IntKind.u32 0), PV.sc (Value.bool false)], AV.os Option.none 1 3 [PV.sc (Value.int IntKind.u32 1), PV.sc (Value.int IntKind.u32 0), PV.sc (Value.bool false)], AV.os Option.none 2 2 [PV.sc (Value.bool true), PV.ps 1 8 [PV.sc (Value.int IntKind.i64 65), PV.sc (Value.int IntKind.i64 0), PV.sc (Value.int IntKind.u32 0), PV.sc (Value.int IntKind.u32 0), PV.sc (Value.int IntKind.i32 0), PV.ps 0 0 [], PV.ps 0 0 [], PV.ps 0 0 []], PV.sc (Value.bool false), PV.ps 1 8 [PV.sc (Value.int IntKind.i64 65), PV.sc (Value.int IntKind.i64 0), PV.sc (Value.int IntKind.u32 0), PV.sc (Value.int IntKind.u32 0), PV.sc (Value.int IntKind.i32 0), PV.ps 0 0 [], PV.ps 0 0 [], PV.ps 0 0 []]], AV.os Option.none 0 0 [], AV.p (PV.sc (Value.bool false)), AV.p (PV.sc (Value.int IntKind.u32 0)), AV.os Option.none 0 0 [], AV.os Option.none 0 0 []], AV.p (PV.sc (Value.int IntKind.i64 1))], [Blk.tok, Blk.tok], AV.tup [AV.p (PV.sc (Value.int IntKind.i64 e)), AV.p (PV.sc (Value.int IntKind.i64 p))], [Blk.tok, Blk.tok]⟩
       (.test (e == 0)
        (.out (Out.ret (AV.p (PV.sc (Value.bool true))) []))
        (.test (p == 2)
         (.test (e == 6)
          (.out (Out.ret (AV.p (PV.sc (Value.bool true))) []))
          (.test (e == 212)
           (.out (Out.ret (AV.p (PV.sc (Value.bool true))) []))
           (.test (e == 211)
            (.out (Out.ret (AV.p (PV.sc (Value.bool true))) []))
            (.test (e == 200)
             (.test (op == 2)
              (.out (Out.ret (AV.p (PV.sc (Value.bool true))) []))
              (.test (op == 3)
               (.out (Out.ret (AV.p (PV.sc (Value.bool true))) []))
               (.test (op == 4)
                (.out (Out.ret (AV.p (PV.sc (Value.bool true))) []))
                (.must (!(p == 0))
                 (.out (Out.ret (AV.p (PV.sc (Value.bool false))) []))))))
             (.must (!(p == 0))
              (.out (Out.ret (AV.p (PV.sc (Value.bool false))) [])))))))
         (.test (p == 0)
          (.test (e == 2)
           (.out (Out.ret (AV.p (PV.sc (Value.bool true))) []))
           (.out (Out.ret (AV.p (PV.sc (Value.bool (e == 141)))) [])))
          (.out (Out.ret (AV.p (PV.sc (Value.bool false))) []))))))))))
theorem ldd_tree (op : Int) (r : Int) (a : Int) (b : Int) (nn : Int) (tg : List Int) (ll : List Ins) (le : List Ins) (e : Int) (p : Int) : growF Tryz.prog env (lddOrc op r a b nn tg ll le e p) 1000000 4 ([aggI op r a b nn tg ll le]) ([]) lddSc = lddTree op r a b nn tg ll le e p := by kernel_rfl


theorem Ale.agg {l l' : List AV} (h : All2 Ale l l') : Ale (.agg l) (.agg l') := fun g w v hv => by
  cases hv with
  | agg _ cs hl hc =>
    have hv : VAs g w l cs.toList := All2.of_get hl hc
    clear hl hc
    rw [VA.aggs]
    generalize cs.toList = vs at hv
    induction l generalizing l' vs with
    | nil => cases l' <;> cases vs <;> first | trivial | exact h.elim | exact hv.elim
    | cons a l ih =>
      cases l' with
      | nil => exact h.elim
      | cons b l' => cases vs with
        | nil => exact hv.elim
        | cons x vs => exact ⟨h.1 g w x hv.1, ih h.2 vs hv.2⟩

/-- The laws' module, as the looker has it; and what the document asks of it. -/
def rX (tp tr lo : Nat) (l : List Ins) : Lx := ⟨rmD tp tr lo l, tp, tr, (tp : Int) + lo⟩
def rV (tp tr lo : Nat) : VEnv where
  ty a := if a = 0 then some (1, 1) else if a = 1 then some (0, 0) else if a = 2 then some (tp, tr) else none
  ind a := if a = 0 then some (1, 1) else if a = 1 then some (0, 0) else if a = 2 then some (tp, tr) else none
  glob := [true, false]
  mem := true
  own := tp + lo
  ret := tr

theorem rV_ok {tp tr lo : Nat} {l : List Ins} (h1 : tr ≤ 1) (h2 : tp ≤ 1000000) (h3 : lo ≤ 1000000) : VOk (rX tp tr lo l) (rV tp tr lo) where
  ret := rfl
  ret1 := h1
  own := rfl
  own1 := by show tp + lo ≤ 1000000000; omega
  ty a ha := by
    by_cases a0 : a = 0
    · subst a0
      exact ⟨Nat.le_refl 1, typeOf_some (T := 0) (P := 1) (Q := 1) (by omega) (of_decide_eq_true rfl) (of_decide_eq_true rfl) (of_decide_eq_true rfl) (.inl ⟨of_decide_eq_true rfl, rfl⟩) rfl rfl⟩
    by_cases a1 : a = 1
    · subst a1
      exact ⟨Nat.zero_le 1, typeOf_some (T := 1) (P := 0) (Q := 0) (by omega) (of_decide_eq_true rfl) (of_decide_eq_true rfl) (of_decide_eq_true rfl) (.inr ⟨of_decide_eq_true rfl, of_decide_eq_true rfl, rfl⟩) rfl rfl⟩
    by_cases a2 : a = 2
    · subst a2
      exact ⟨h1, typeOf_some (T := 2) (P := tp) (Q := tr) (by omega) (of_decide_eq_true rfl) (of_decide_eq_true rfl) (of_decide_eq_true rfl) (.inr ⟨of_decide_eq_true rfl, of_decide_eq_true rfl, rfl⟩) rfl rfl⟩
    · have e : (rV tp tr lo).ty a = none := by
        show (if (a : Int) = 0 then _ else if (a : Int) = 1 then _ else if (a : Int) = 2 then _ else none) = none
        rw [if_neg (by omega), if_neg (by omega), if_neg (by omega)]
      rw [e]
      exact typeOf_none ha (of_decide_eq_true rfl) (of_decide_eq_true rfl) (by show 1 + 2 ≤ a; omega)
  tyN := of_decide_eq_true rfl
  ind a := by
    by_cases ha : 0 < (rX tp tr lo l).M.taN ∧ a < (rX tp tr lo l).M.tyN
    · rw [if_pos ha]
      have ha : a < 3 := ha.2
      match a, ha with
      | 0, _ => exact ⟨1, 1, rfl, Nat.le_refl 1, rfl, rfl⟩
      | 1, _ => exact ⟨0, 0, rfl, Nat.zero_le 1, rfl, rfl⟩
      | 2, _ => exact ⟨tp, tr, rfl, h1, rfl, rfl⟩
    · rw [if_neg ha]
      have ha : ¬ a < 3 := fun q => ha ⟨(Nat.zero_lt_one : 0 < 1), q⟩
      show (if (a : Int) = 0 then _ else if (a : Int) = 1 then _ else if (a : Int) = 2 then _ else none) = none
      rw [if_neg (by omega), if_neg (by omega), if_neg (by omega)]
  glN := rfl
  glM := of_decide_eq_true rfl
  gl a b h := by
    match a, h with
    | 0, h => cases h; rfl
    | 1, h => cases h; rfl
    | a + 2, h => cases h
  me := rfl

theorem rlook {tp tr lo : Nat} {l : List Ins} (h1 : tr ≤ 1) (h2 : tp ≤ 1000000) (h3 : lo ≤ 1000000) (hf : Fit l 0 1) :
    Does Tryz.prog env 16 [.agg (rmD tp tr lo l).cells, sI .i64 1] [] (.tup [sI .i64 (bodyV (rV tp tr lo) l).1, sI .i64 ((bodyV (rV tp tr lo) l).2 : Nat)]) [] := by
  have hty := (rV_ok (l := l) h1 h2 h3).ty 2 (of_decide_eq_true rfl)
  exact look_does (X := rX tp tr lo l) (rV_ok h1 h2 h3) (n := 1) (lo := lo) (l := l) (of_decide_eq_true rfl) (of_decide_eq_true rfl) (of_decide_eq_true rfl) rfl rfl ⟨by show (0 : Int) ≤ tp; omega, by show (tp : Int) ≤ 1000000; omega⟩ ⟨by omega, by omega⟩ rfl hty.2 hf

/-- What module.Check tells of it, where the instructions' check tells this. -/
def mcF (ck : Int) : Int := if ck = 141 then 141 else if ck = 2 then 2 else 0

theorem conIns_eq : aL [.mk 65 0 0 0 0 [] [] []] = .p (.ps 1 8 con0) := rfl

theorem chkP (l : List Ins) (h : numL l ≤ 100000000000) : Does Tryz.prog env 95 [aL l] [] (sI .i64 (checkF mayI l)) [] := check_does mayI_does l h

theorem ckNil : checkF mayI [] = 0 := rfl
theorem ckCon : checkF mayI [.mk 65 0 0 0 0 [] [] []] = 0 := by decide +kernel

theorem mck_does {lo : Nat} {l : List Ins} (h3 : lo ≤ 50000) (h : numL l ≤ 100000000000) : Does Tryz.prog env 15 [.agg (rmD 0 0 lo l).cells] [] (sI .i64 (mcF (checkF mayI l))) [] := by
  have c0 := chkP [] (by decide)
  have c1 := chkP l h
  have c2 := chkP [.mk 65 0 0 0 0 [] [] []] (by decide)
  rw [ckNil] at c0
  rw [ckCon, conIns_eq] at c2
  refine does_of_tree names (mckD_tree lo (checkF mayI l) l) ?_
  have g1 : decide ((lo : Int) < 0) = false := by simp
  have g2 : decide ((lo : Int) > 50000) = false := by simp; omega
  simp only [mckDTree, Tree.ok, g1, g2, Bool.false_eq_true, false_implies, true_implies, true_and]
  refine ⟨c0, c1, fun h141 => ?_, fun h141 => ⟨c2, c2, c0, c1, fun h2 => ?_, fun h2 => ⟨c2, c2, ?_⟩⟩⟩
  · rw [mcF, if_pos (by simpa using h141)]
  · rw [mcF, if_neg (by simpa using h141), if_pos (by simpa using h2)]
  · rw [mcF, if_neg (by simpa using h141), if_neg (by simpa using h2)]

/-- What valid.Body tells. -/
def bodF (V : VEnv) (l : List Ins) : Int × Nat := if mcF (checkF mayI l) ≠ 0 then (mcF (checkF mayI l), 0) else bodyV V l

theorem mayI_res {x : Ins} (h : mayI x = true) : resI x = true := by
  obtain ⟨op, r, a, b, nn, tg, ll, le⟩ := x
  unfold mayI mayF at h
  simp only [Bool.and_eq_true, Bool.not_eq_true', decide_eq_false_iff_not] at h
  obtain ⟨_, h1, h2, _⟩ := h
  show decide (0 ≤ r ∧ r ≤ 1) = true
  rw [decide_eq_true_eq]
  omega

mutual
theorem okI_mono {p q : Ins → Bool} (h : ∀ x, p x = true → q x = true) : ∀ x : Ins, okI p x = true → okI q x = true
  | .mk op r a b n tags l e, hx => by
    simp only [okI, Bool.and_eq_true] at hx ⊢
    exact ⟨h _ hx.1, okL_mono h l hx.2.1, okL_mono h e hx.2.2⟩
theorem okL_mono {p q : Ins → Bool} (h : ∀ x, p x = true → q x = true) : ∀ l : List Ins, okL p l = true → okL q l = true
  | [], _ => rfl
  | x :: r, hx => by
    simp only [okL, Bool.and_eq_true] at hx ⊢
    exact ⟨okI_mono h x hx.1, okL_mono h r hx.2⟩
end

theorem fit_of {l : List Ins} (hw : wfL l) (h : mcF (checkF mayI l) = 0) : Fit l 0 1 := by
  by_cases h1 : okL mayI l = false
  · rw [show checkF mayI l = 2 by unfold checkF; rw [if_pos h1]] at h
    exact absurd h (by decide)
  by_cases h2 : 262144 < numL l ∨ 16384 < tagL l ∨ 900 < depL 1 l
  · rw [show checkF mayI l = 141 by unfold checkF; rw [if_neg h1, if_pos h2]] at h
    exact absurd h (by decide)
  · exact ⟨okL_mono (fun x => mayI_res) l (by simpa using h1), hw, by omega, by omega, by omega⟩

theorem body_does {lo : Nat} {l : List Ins} (h3 : lo ≤ 50000) (h : numL l ≤ 100000000000) (hw : wfL l) :
    Does Tryz.prog env 8 [.agg (rmD 0 0 lo l).cells, sI .i64 1] [] (.tup [sI .i64 (bodF (rV 0 0 lo) l).1, sI .i64 ((bodF (rV 0 0 lo) l).2 : Nat)]) [] := by
  have hm := mck_does (l := l) h3 h
  refine does_of_tree names (bod_tree (rmD 0 0 lo l) 1 (mcF (checkF mayI l)) (bodF (rV 0 0 lo) l).1 ((bodF (rV 0 0 lo) l).2 : Nat)) ?_
  simp only [bodTree, Tree.ok]
  refine ⟨hm, fun q => ?_, fun q => ?_⟩
  · have q : mcF (checkF mayI l) ≠ 0 := by simpa using q
    simp only [bodF, if_pos q]
    rfl
  · have q : mcF (checkF mayI l) = 0 := by simpa using q
    have hb : bodF (rV 0 0 lo) l = bodyV (rV 0 0 lo) l := by unfold bodF; rw [if_neg (by simpa using q)]
    rw [hb]
    first | exact ⟨rlook (by decide) (by decide) (by omega) (fit_of hw q), rfl⟩ | exact ⟨rlook (by decide) (by decide) (by omega) (fit_of hw q), trivial⟩

/-- The law's list. -/
def dIns : Ins := .mk 0 0 0 0 0 [] [] []
def pIns : Ins := .mk 26 0 0 0 0 [] [] []
def dList (x : Ins) : List Ins := [dIns, x, dIns, pIns, pIns]
def flat0 (op : Int) : List PV := [.sc (.int .i64 op), .sc (.int .i64 0), .sc (.int .u32 0), .sc (.int .u32 0), .sc (.int .i32 0), .ps 0 0 [], .ps 0 0 [], .ps 0 0 []]

theorem flat0_le (op : Int) : PleL (flat0 op) (encI (.mk op 0 0 0 0 [] [] [])) := ⟨.refl _, .refl _, .refl _, .refl _, .refl _, .nil, .nil, .nil, trivial⟩

theorem dList_le (x : Ins) : PleL (flat0 0 ++ (encI x ++ (flat0 0 ++ (flat0 26 ++ (flat0 26 ++ []))))) (encL (dList x)) :=
  (flat0_le 0).append ((PleL.refl _).append ((flat0_le 0).append ((flat0_le 26).append ((flat0_le 26).append trivial))))

theorem popV_dead {q k n : Nat} {f : Nat → VR} : popV q k n true f = f (n - k) := by unfold popV; rw [if_neg (by simp)]

/-- What may be wrong with an instruction behind an Unreachable. -/
theorem dead_one (V : VEnv) (op r a b nn : Int) (n c : Nat) (hr : 0 ≤ r ∧ r ≤ 1) :
    (∃ n1 d1, valI V [0] (.mk op r a b nn [] [] []) n true c = .ok n1 d1 c) ∨ (∃ e, valI V [0] (.mk op r a b nn [] [] []) n true c = .bad e c ∧ (e = 6 ∨ e = 212 ∨ e = 211 ∨ (e = 200 ∧ (op = 2 ∨ op = 3 ∨ op = 4)))) := by
  have hr2 : r = 0 ∨ r = 1 := by omega
  simp only [valI]
  by_cases o0 : op = 0
  · rw [if_pos o0]; exact .inl ⟨_, _, rfl⟩
  rw [if_neg o0]
  by_cases o2 : op = 2 ∨ op = 3
  · rw [if_pos o2]
    simp only [valL]
    rcases hr2 with rfl | rfl
    · exact .inl ⟨_, _, rfl⟩
    · exact .inr ⟨200, rfl, .inr (.inr (.inr ⟨rfl, by omega⟩))⟩
  rw [if_neg o2]
  by_cases o4 : op = 4
  · rw [if_pos o4, popV_dead]
    simp only [valL]
    rcases hr2 with rfl | rfl
    · exact .inl ⟨_, _, rfl⟩
    · exact .inr ⟨200, rfl, .inr (.inr (.inr ⟨rfl, by omega⟩))⟩
  rw [if_neg o4]
  unfold flatV
  split
  · split
    · exact .inr ⟨6, rfl, .inl rfl⟩
    · rw [popV_dead]; exact .inl ⟨_, _, rfl⟩
  split
  · split
    · exact .inr ⟨6, rfl, .inl rfl⟩
    · rw [popV_dead, popV_dead]; exact .inl ⟨_, _, rfl⟩
  split
  · unfold tabV
    simp only [List.all_nil, Bool.true_eq_false, if_false, if_true]
    split
    · rename_i e he
      split at he
      · cases he; exact .inr ⟨6, rfl, .inl rfl⟩
      · cases he
    · rw [popV_dead, popV_dead]; exact .inl ⟨_, _, rfl⟩
  split
  · rw [popV_dead]; exact .inl ⟨_, _, rfl⟩
  split
  · split
    · exact .inr ⟨6, rfl, .inl rfl⟩
    · rw [popV_dead]; exact .inl ⟨_, _, rfl⟩
  split
  · split
    · exact .inr ⟨6, rfl, .inl rfl⟩
    · rw [popV_dead, popV_dead]; exact .inl ⟨_, _, rfl⟩
  split
  · rename_i hne
    refine .inr ⟨nameV V op a, rfl, ?_⟩
    unfold nameV at hne ⊢
    split
    · split
      · simp_all
      · exact .inl rfl
    split
    · split
      · simp_all
      · exact .inr (.inl rfl)
      · exact .inl rfl
    split
    · split
      · simp_all
      · exact .inl rfl
    split
    · split
      · simp_all
      · exact .inl rfl
    split
    · split
      · split
        · exact .inr (.inr (.inl rfl))
        · simp_all
      · exact .inl rfl
    · simp_all
  · rw [popV_dead]; exact .inl ⟨_, _, rfl⟩

theorem wfI_flat (op : Int) (h : (Lit.int .i64 op).wf = true) : wfI (.mk op 0 0 0 0 [] [] []) :=
  ⟨h, rfl, rfl, rfl, rfl, ⟨Nat.zero_le _, fun _ h => by cases h⟩, ⟨Nat.zero_le _, trivial⟩, Nat.zero_le _, trivial⟩

theorem dList_wf {x : Ins} (hw : wfI x) : wfL (dList x) := ⟨wfI_flat 0 rfl, hw, wfI_flat 0 rfl, wfI_flat 26 rfl, wfI_flat 26 rfl, trivial⟩

theorem dead_law (op r a b nn : Int) (hw : wfI (.mk op r a b nn [] [] [])) {E : Int} {A : Nat} (h : bodF (rV 0 0 3) (dList (.mk op r a b nn [] [] [])) = (E, A)) :
    E = 0 ∨ (A = 2 ∧ (E = 6 ∨ E = 212 ∨ E = 211 ∨ (E = 200 ∧ (op = 2 ∨ op = 3 ∨ op = 4)))) ∨ (A = 0 ∧ (E = 2 ∨ E = 141)) := by
  unfold bodF at h
  by_cases hc : mcF (checkF mayI (dList (.mk op r a b nn [] [] []))) = 0
  · rw [if_neg (by simpa using hc)] at h
    have hfit := fit_of (l := dList (.mk op r a b nn [] [] [])) (dList_wf hw) hc
    have hres := hfit.res
    simp only [dList, okL, Bool.and_eq_true] at hres
    have hx := hres.2.1
    simp only [okI, Bool.and_eq_true] at hx
    have hr : 0 ≤ r ∧ r ≤ 1 := of_decide_eq_true hx.1
    unfold bodyV at h
    have e1 : valL (rV 0 0 3) [(rV 0 0 3).ret] (dList (.mk op r a b nn [] [] [])) 0 false 0 = (valI (rV 0 0 3) [0] (.mk op r a b nn [] [] []) 0 true 2).and fun _ _ c => .ok 0 true (c + 3) := by
      show valL (rV 0 0 3) [0] [dIns, .mk op r a b nn [] [] [], dIns, pIns, pIns] 0 false 0 = _
      rw [valL_cons]
      have d1 : ∀ n d c, valI (rV 0 0 3) [0] dIns n d c = .ok 0 true c := fun n d c => rfl
      have p1 : ∀ c, valI (rV 0 0 3) [0] pIns 0 true c = .ok 0 true c := fun c => rfl
      rw [d1]
      show valL (rV 0 0 3) [0] [.mk op r a b nn [] [] [], dIns, pIns, pIns] 0 true 1 = _
      rw [valL_cons]
      cases valI (rV 0 0 3) [0] (.mk op r a b nn [] [] []) 0 true (1 + 1) with
      | bad e q => rfl
      | ok n d c =>
        show valL (rV 0 0 3) [0] [dIns, pIns, pIns] n d c = .ok 0 true (c + 3)
        rw [valL_cons, d1]
        show valL (rV 0 0 3) [0] [pIns, pIns] 0 true (c + 1) = .ok 0 true (c + 3)
        rw [valL_cons, p1]
        show valL (rV 0 0 3) [0] [pIns] 0 true (c + 1 + 1) = .ok 0 true (c + 3)
        rw [valL_cons, p1]
        rfl
    rw [e1] at h
    rcases dead_one (rV 0 0 3) op r a b nn 0 2 hr with ⟨n1, d1, h1⟩ | ⟨e, h1, h2⟩
    · rw [h1] at h
      cases h
      exact .inl rfl
    · rw [h1] at h
      cases h
      exact .inr (.inl ⟨rfl, h2⟩)
  · rw [if_pos (by simpa using hc)] at h
    cases h
    refine .inr (.inr ⟨rfl, ?_⟩)
    unfold mcF at hc ⊢
    split
    · exact .inr rfl
    · split
      · exact .inl rfl
      · simp_all

/-- The law. -/
theorem ld_does (x : Ins) (hw : wfI x) : Does Tryz.prog env 4 [aggX x] [] (sB true) [] := by
  obtain ⟨op, r, a, b, nn, tg, ll, le⟩ := x
  have haw : Does Tryz.prog env 12 [] [] (sB true) [] := Go.Am.Does.env Awdoes fun _ _ q => q
  refine does_of_tree names (ldd_tree op r a b nn tg ll le (bodF (rV 0 0 3) (dList (.mk op r a b nn [] [] []))).1 ((bodF (rV 0 0 3) (dList (.mk op r a b nn [] [] []))).2 : Nat)) ?_
  simp only [lddTree, Tree.ok, implies_true, true_and]
  refine ⟨haw, fun h1 h2 h3 => ?_⟩
  have z1 : ll = [] := List.eq_nil_of_length_eq_zero (by simp only [decide_eq_false_iff_not] at h1; omega)
  have z2 : le = [] := List.eq_nil_of_length_eq_zero (by simp only [decide_eq_false_iff_not] at h2; omega)
  have z3 : tg = [] := List.eq_nil_of_length_eq_zero (by simp only [decide_eq_false_iff_not] at h3; omega)
  subst z1; subst z2; subst z3
  have hbd := body_does (lo := 3) (l := dList (.mk op r a b nn [] [] [])) (by decide) (by show 5 ≤ 100000000000; decide) (dList_wf hw)
  have hglob : PleL [.sc (.bool true), .ps 1 8 (flat0 65), .sc (.bool false), .ps 1 8 (flat0 65)] [.sc (.bool true), .ps 1 8 con0, .sc (.bool false), .ps 1 8 con0] :=
    ⟨.refl _, .ps ⟨.refl _, .refl _, .refl _, .refl _, .refl _, .nil, .nil, .nil, trivial⟩, .refl _, .ps ⟨.refl _, .refl _, .refl _, .refl _, .refl _, .nil, .nil, .nil, trivial⟩, trivial⟩
  refine ⟨Does.lent (m := [.tok, .tok]) hbd ?_, ?_⟩
  · refine ⟨Ale.agg ?_, Ale.p (.refl _), trivial⟩
    exact ⟨Ale.os (.refl _), Ale.os (.refl _), Ale.os (.ps ⟨.refl _, .refl _, .nil (k := 8), .refl _, .refl _, .ps (dList_le (.mk op r a b nn [] [] [])), trivial⟩), Ale.os (.refl _), Ale.os (.refl _), Ale.os (.ps hglob), Ale.os .nil, Ale.p (.refl _), Ale.p (.refl _), Ale.os .nil, Ale.os .nil, trivial⟩
  have hlaw := dead_law op r a b nn hw (E := (bodF (rV 0 0 3) (dList (.mk op r a b nn [] [] []))).1) (A := (bodF (rV 0 0 3) (dList (.mk op r a b nn [] [] []))).2) rfl
  generalize bodF (rV 0 0 3) (dList (.mk op r a b nn [] [] [])) = EA at hlaw
  obtain ⟨E, A⟩ := EA
  simp only at hlaw ⊢
  rcases hlaw with rfl | ⟨rfl, rfl | rfl | rfl | ⟨rfl, rfl | rfl | rfl⟩⟩ | ⟨rfl, rfl | rfl⟩ <;> simp

end Go.Proofs.YtgbphddecpjlhaaGreatDoor.N
end

section
namespace Go.Proofs.YtgbphddecpjlhaaGreatDoor.N
open Go Go.Am

def laidTab : List (String × DataW Unit) := Rows.validDeadRow.laid

theorem tabs_hold {W : World} (h : laidMetH Tryz.prog laidTab W) : TabsHold tabs W := by
  rw [MakeChecks.laidMetH_plain _ _ _ (by kernel_rfl)] at h
  exact tabsHold_cons (table_holds (n := 256) (t := 191) (e := 5) (k := .u8) (zs := spaceZ) (Lib.laidMet.reads h (n := "strings.asciiSpace") (d := Rows.laid_strings_asciiSpace) (.tail _ (.tail _ (.head _)))) (by kernel_rfl) (by kernel_rfl) (by kernel_rfl) (by kernel_rfl) (by kernel_rfl) (by kernel_rfl) (Nat.le_of_ble_eq_true (by kernel_rfl)))
    (tabsHold_cons (table_holds (n := 256) (t := 191) (e := 5) (k := .u8) (zs := firstZ) (Lib.laidMet.reads h (n := "unicode/utf8.first") (d := Rows.laid_unicode_utf8_first) (.tail _ (.tail _ (.tail _ (.head _))))) (by kernel_rfl) (by kernel_rfl) (by kernel_rfl) (by kernel_rfl) (by kernel_rfl) (by kernel_rfl) (Nat.le_of_ble_eq_true (by kernel_rfl)))
    (tabsHold_nil))

end Go.Proofs.YtgbphddecpjlhaaGreatDoor.N
end
