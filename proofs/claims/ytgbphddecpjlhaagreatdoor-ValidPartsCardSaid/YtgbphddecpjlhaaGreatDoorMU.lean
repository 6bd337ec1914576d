/-
  The looker's function, and module.TypeOf; module.Check of the laws' module.
  ValidDead: the law's module, and its function's body.
  Calls that only read: lists in the caller's blocks are told to them as values.
  How many instructions there are: what the laws' kit tells.
  The laws' module with a word told: module.Check, and the function's body.
  More labels, and a place that is not reached: what is right stays right. (Plain facts; no program in sight.)
  ValidParts: the law's call.
  What the row's condition tells: the library's tables, cell by cell.
-/
import Derived.Test.YtgbphddecpjlhaaGreatDoorMR
import Derived.Test.YtgbphddecpjlhaaGreatDoorMS
import Derived.Test.YtgbphddecpjlhaaGreatDoorMG
import Derived.Test.YtgbphddecpjlhaaGreatDoorML
import Derived.Test.YtgbphddecpjlhaaGreatDoorMH
import Derived.Test.YtgbphddecpjlhaaGreatDoorRows
import Derived.MakeChecks

section
set_option linter.unusedSimpArgs false
set_option linter.unusedVariables false
namespace Go.Proofs.YtgbphddecpjlhaaGreatDoor.N
open Go Go.Am

def loC (X : Lx) (n : Nat) (P Q lo : Int) (l : List Ins) (R1 R2 : Rw) (f : FuncId) (_ : List AV) (m : Mem) : Option (AV × Mem) := cond (Nat.beq f 31) (some (.tup [.agg [sI .i64 X.tP, sI .i64 X.tR], sB true], m)) (cond (Nat.beq f 33) (some (.tup [], memOut X R1)) (cond (Nat.beq f 34) (some (.tup [], memOut X R2)) none))
def loS (X : Lx) (n : Nat) (P Q lo : Int) (l : List Ins) (R1 R2 : Rw) : FuncId → Nat → Nat → Option (AV → AV) := shapeAt [(16, 7, 5, .agg [sI .i64 lo, aL l]), (16, 8, 8, sI .u64 X.own)]
def tyS (M : Md) (a : Nat) (T P Q : Int) : FuncId → Nat → Nat → Option (AV → AV) := shapeAt [(31, 5, 5, sI .i64 T), (31, 7, 5, sI .i64 T), (31, 10, 4, .agg [sI .i64 P, sI .i64 Q])]
def bs (l : List UInt8) : PV := .sc (.string ⟨l.toArray⟩)
def con0 : List PV := [.sc (.int .i64 65), .sc (.int .i64 0), .sc (.int .u32 0), .sc (.int .u32 0), .sc (.int .i32 0), .ps 0 1 [], .ps 0 8 [], .ps 0 8 []]
def rmD (tp tr lo : Int) (l : List Ins) : Md := ⟨3, [sP 1, sP 1, sP 0, sP 0, sP tp, sP tr], 1, [bs [104, 111, 115, 116], bs [102], sP 0], 2, [sP 1, sP 0, .ps 0 8 [], sP 2, sP lo, .ps l.length 8 (encL l)],
  1, [.sc (.int .u32 1), .sc (.int .u32 0), .sc (.bool false)], 1, [.sc (.int .u32 1), .sc (.int .u32 0), .sc (.bool false)], 2, [.sc (.bool true), .ps 1 8 con0, .sc (.bool false), .ps 1 8 con0], 0, [], false, 0, 0, [], 0, []⟩
def mcQ (lo ck : Int) (l : List Ins) (i : Nat) (f : FuncId) (_ : List AV) (m : Mem) : Option (AV × Mem) := cond (Nat.beq f 95) (match i with
  | 1 => some (sI .i64 ck, m)
  | 5 => some (sI .i64 ck, m)
  | _ => some (sI .i64 0, m)) none
def boC (M : Md) (n : Nat) (e e2 p2 : Int) (f : FuncId) (_ : List AV) (m : Mem) : Option (AV × Mem) := cond (Nat.beq f 15) (some (sI .i64 e, m)) (cond (Nat.beq f 16) (some (.tup [sI .i64 e2, sI .i64 p2], m)) none)
/- lok: 211 steps -/
noncomputable def lokOrc (X : Lx) (n : Nat) (P : Int) (Q : Int) (lo : Int) (l : List Ins) (R1 : Rw) (R2 : Rw) : Orc := orcS (loC X n P Q lo l R1 R2) noLed [] [(16, 0, 0), (32, 2, 3), (32, 0, 0)] [(16, 7, 3), (16, 7, 5)] (loS X n P Q lo l R1 R2)
def lokSc : Sc := (.fork .fin (.fork (.lit .fin) .fin))
noncomputable def lokTree (X : Lx) (n : Nat) (P : Int) (Q : Int) (lo : Int) (l : List Ins) (R1 : Rw) (R2 : Rw) : Tree :=
  (.test (decide ((↑n : Int) ≥ (↑X.M.fnN : Int)))
   (.out (Out.ret (AV.tup [AV.p (PV.sc (Value.int IntKind.i64 6)), AV.p (PV.sc (Value.int IntKind.i64 0))]) []))
   (.call ⟨31, [AV.agg X.M.cells, AV.p (PV.sc (Value.int IntKind.u32 (IntKind.u32.wrap (IntKind.i64.wrap ((↑X.M.imN : Int) + (↑n : Int))))))], [], AV.tup [AV.agg [AV.p (PV.sc (Value.int IntKind.i64 X.tP)), AV.p (PV.sc (Value.int IntKind.i64 X.tR))], AV.p (PV.sc (Value.bool true))], []⟩
    (.must (inB (↑n : Int) X.M.fnN && true && true)
     (.must (isInt IntKind.i64 (X.M.fnC.getD ((↑n : Int).toNat * 3 + 1) PV.bad) && (isPs (X.M.fnC.getD ((↑n : Int).toNat * 3 + 1 + 1) PV.bad) && true) && true)
      (.need (AV.agg [AV.p (PV.sc (Value.int IntKind.i64 (pvInt (X.M.fnC.getD ((↑n : Int).toNat * 3 + 1) PV.bad)))), AV.p (PV.ps (psLen (X.M.fnC.getD ((↑n : Int).toNat * 3 + 1 + 1) PV.bad)) (psSz (X.M.fnC.getD ((↑n : Int).toNat * 3 + 1 + 1) PV.bad)) (psCells (X.M.fnC.getD ((↑n : Int).toNat * 3 + 1 + 1) PV.bad)))] = AV.agg [sI IntKind.i64 lo, aL l])
       (.need (AV.p (PV.sc (Value.int IntKind.u64 (IntKind.u64.wrap (IntKind.u64.wrap X.tP + IntKind.u64.wrap lo)))) = sI IntKind.u64 X.own)
        (.test (decide (X.tR < 0))
         (.call ⟨33, [AV.mp 0 0, AV.p (PV.ps l.length 8 (encL l))], [Blk.ac [AV.p (PV.ps X.M.tyN 2 X.M.tyC), AV.p (PV.ps X.M.imN 3 X.M.imC), AV.p (PV.ps X.M.fnN 3 X.M.fnC), AV.p (PV.ps X.M.taN 3 X.M.taC), AV.p (PV.ps X.M.meN 3 X.M.meC), AV.p (PV.ps X.M.glN 2 X.M.glC), AV.p (PV.ps X.M.exN 3 X.M.exC), AV.p (PV.sc (Value.bool X.M.st)), AV.p (PV.sc (Value.int IntKind.u32 X.M.sn)), AV.p (PV.ps X.M.elN 2 X.M.elC), AV.p (PV.ps X.M.daN 2 X.M.daC), AV.p (PV.sc (Value.int IntKind.i64 X.tP)), AV.p (PV.sc (Value.int IntKind.i64 X.tR)), AV.p (PV.sc (Value.int IntKind.u64 X.own)), AV.p (PV.sc (Value.int IntKind.i64 0)), AV.os Option.none 0 0 [], AV.p (PV.sc (Value.int IntKind.i64 0)), AV.p (PV.sc (Value.int IntKind.i64 0)), AV.p (PV.sc (Value.int IntKind.i64 0))]], AV.tup [], [Blk.ac [AV.p (PV.ps X.M.tyN 2 X.M.tyC), AV.p (PV.ps X.M.imN 3 X.M.imC), AV.p (PV.ps X.M.fnN 3 X.M.fnC), AV.p (PV.ps X.M.taN 3 X.M.taC), AV.p (PV.ps X.M.meN 3 X.M.meC), AV.p (PV.ps X.M.glN 2 X.M.glC), AV.p (PV.ps X.M.exN 3 X.M.exC), AV.p (PV.sc (Value.bool X.M.st)), AV.p (PV.sc (Value.int IntKind.u32 X.M.sn)), AV.p (PV.ps X.M.elN 2 X.M.elC), AV.p (PV.ps X.M.daN 2 X.M.daC), AV.p (PV.sc (Value.int IntKind.i64 X.tP)), AV.p (PV.sc (Value.int IntKind.i64 X.tR)), AV.p (PV.sc (Value.int IntKind.u64 X.own)), AV.p (PV.sc (Value.int IntKind.i64 R1.h)), AV.ms 2 0 R1.k 4 Option.none, AV.p (PV.sc (Value.int IntKind.i64 R1.e)), AV.p (PV.sc (Value.int IntKind.i64 R1.p)), AV.p (PV.sc (Value.int IntKind.i64 R1.nx))], Blk.dead, Blk.ob (ObK.gr 135 true) (List.map AV.p R1.cs)]⟩
          (.call ⟨34, [AV.mp 0 0, AV.p (PV.sc (Value.int IntKind.i64 0))], [Blk.ac [AV.p (PV.ps X.M.tyN 2 X.M.tyC), AV.p (PV.ps X.M.imN 3 X.M.imC), AV.p (PV.ps X.M.fnN 3 X.M.fnC), AV.p (PV.ps X.M.taN 3 X.M.taC), AV.p (PV.ps X.M.meN 3 X.M.meC), AV.p (PV.ps X.M.glN 2 X.M.glC), AV.p (PV.ps X.M.exN 3 X.M.exC), AV.p (PV.sc (Value.bool X.M.st)), AV.p (PV.sc (Value.int IntKind.u32 X.M.sn)), AV.p (PV.ps X.M.elN 2 X.M.elC), AV.p (PV.ps X.M.daN 2 X.M.daC), AV.p (PV.sc (Value.int IntKind.i64 X.tP)), AV.p (PV.sc (Value.int IntKind.i64 X.tR)), AV.p (PV.sc (Value.int IntKind.u64 X.own)), AV.p (PV.sc (Value.int IntKind.i64 R1.h)), AV.ms 1 0 R1.k 4 Option.none, AV.p (PV.sc (Value.int IntKind.i64 R1.e)), AV.p (PV.sc (Value.int IntKind.i64 R1.p)), AV.p (PV.sc (Value.int IntKind.i64 R1.nx))], Blk.ob (ObK.gr 135 true) (List.map keepP (List.map keepP (List.map AV.p R1.cs)))], AV.tup [], [Blk.ac [AV.p (PV.ps X.M.tyN 2 X.M.tyC), AV.p (PV.ps X.M.imN 3 X.M.imC), AV.p (PV.ps X.M.fnN 3 X.M.fnC), AV.p (PV.ps X.M.taN 3 X.M.taC), AV.p (PV.ps X.M.meN 3 X.M.meC), AV.p (PV.ps X.M.glN 2 X.M.glC), AV.p (PV.ps X.M.exN 3 X.M.exC), AV.p (PV.sc (Value.bool X.M.st)), AV.p (PV.sc (Value.int IntKind.u32 X.M.sn)), AV.p (PV.ps X.M.elN 2 X.M.elC), AV.p (PV.ps X.M.daN 2 X.M.daC), AV.p (PV.sc (Value.int IntKind.i64 X.tP)), AV.p (PV.sc (Value.int IntKind.i64 X.tR)), AV.p (PV.sc (Value.int IntKind.u64 X.own)), AV.p (PV.sc (Value.int IntKind.i64 R2.h)), AV.ms 2 0 R2.k 4 Option.none, AV.p (PV.sc (Value.int IntKind.i64 R2.e)), AV.p (PV.sc (Value.int IntKind.i64 R2.p)), AV.p (PV.sc (Value.int IntKind.i64 R2.nx))], Blk.dead, Blk.ob (ObK.gr 135 true) (List.map AV.p R2.cs)]⟩
           (.out (Out.ret (AV.tup [AV.p (PV.sc (Value.int IntKind.i64 R2.e)), AV.p (PV.sc (Value.int IntKind.i64 R2.p))]) []))))
         (.test (decide (X.tR > 1))
          (.call ⟨33, [AV.mp 0 0, AV.p (PV.ps l.length 8 (encL l))], [Blk.ac [AV.p (PV.ps X.M.tyN 2 X.M.tyC), AV.p (PV.ps X.M.imN 3 X.M.imC), AV.p (PV.ps X.M.fnN 3 X.M.fnC), AV.p (PV.ps X.M.taN 3 X.M.taC), AV.p (PV.ps X.M.meN 3 X.M.meC), AV.p (PV.ps X.M.glN 2 X.M.glC), AV.p (PV.ps X.M.exN 3 X.M.exC), AV.p (PV.sc (Value.bool X.M.st)), AV.p (PV.sc (Value.int IntKind.u32 X.M.sn)), AV.p (PV.ps X.M.elN 2 X.M.elC), AV.p (PV.ps X.M.daN 2 X.M.daC), AV.p (PV.sc (Value.int IntKind.i64 X.tP)), AV.p (PV.sc (Value.int IntKind.i64 X.tR)), AV.p (PV.sc (Value.int IntKind.u64 X.own)), AV.p (PV.sc (Value.int IntKind.i64 0)), AV.os Option.none 0 0 [], AV.p (PV.sc (Value.int IntKind.i64 0)), AV.p (PV.sc (Value.int IntKind.i64 0)), AV.p (PV.sc (Value.int IntKind.i64 0))]], AV.tup [], [Blk.ac [AV.p (PV.ps X.M.tyN 2 X.M.tyC), AV.p (PV.ps X.M.imN 3 X.M.imC), AV.p (PV.ps X.M.fnN 3 X.M.fnC), AV.p (PV.ps X.M.taN 3 X.M.taC), AV.p (PV.ps X.M.meN 3 X.M.meC), AV.p (PV.ps X.M.glN 2 X.M.glC), AV.p (PV.ps X.M.exN 3 X.M.exC), AV.p (PV.sc (Value.bool X.M.st)), AV.p (PV.sc (Value.int IntKind.u32 X.M.sn)), AV.p (PV.ps X.M.elN 2 X.M.elC), AV.p (PV.ps X.M.daN 2 X.M.daC), AV.p (PV.sc (Value.int IntKind.i64 X.tP)), AV.p (PV.sc (Value.int IntKind.i64 X.tR)), AV.p (PV.sc (Value.int IntKind.u64 X.own)), AV.p (PV.sc (Value.int IntKind.i64 R1.h)), AV.ms 2 0 R1.k 4 Option.none, AV.p (PV.sc (Value.int IntKind.i64 R1.e)), AV.p (PV.sc (Value.int IntKind.i64 R1.p)), AV.p (PV.sc (Value.int IntKind.i64 R1.nx))], Blk.dead, Blk.ob (ObK.gr 135 true) (List.map AV.p R1.cs)]⟩
           (.call ⟨34, [AV.mp 0 0, AV.p (PV.sc (Value.int IntKind.i64 0))], [Blk.ac [AV.p (PV.ps X.M.tyN 2 X.M.tyC), AV.p (PV.ps X.M.imN 3 X.M.imC), AV.p (PV.ps X.M.fnN 3 X.M.fnC), AV.p (PV.ps X.M.taN 3 X.M.taC), AV.p (PV.ps X.M.meN 3 X.M.meC), AV.p (PV.ps X.M.glN 2 X.M.glC), AV.p (PV.ps X.M.exN 3 X.M.exC), AV.p (PV.sc (Value.bool X.M.st)), AV.p (PV.sc (Value.int IntKind.u32 X.M.sn)), AV.p (PV.ps X.M.elN 2 X.M.elC), AV.p (PV.ps X.M.daN 2 X.M.daC), AV.p (PV.sc (Value.int IntKind.i64 X.tP)), AV.p (PV.sc (Value.int IntKind.i64 X.tR)), AV.p (PV.sc (Value.int IntKind.u64 X.own)), AV.p (PV.sc (Value.int IntKind.i64 R1.h)), AV.ms 1 0 R1.k 4 Option.none, AV.p (PV.sc (Value.int IntKind.i64 R1.e)), AV.p (PV.sc (Value.int IntKind.i64 R1.p)), AV.p (PV.sc (Value.int IntKind.i64 R1.nx))], Blk.ob (ObK.gr 135 true) (List.map keepP (List.map keepP (List.map AV.p R1.cs)))], AV.tup [], [Blk.ac [AV.p (PV.ps X.M.tyN 2 X.M.tyC), AV.p (PV.ps X.M.imN 3 X.M.imC), AV.p (PV.ps X.M.fnN 3 X.M.fnC), AV.p (PV.ps X.M.taN 3 X.M.taC), AV.p (PV.ps X.M.meN 3 X.M.meC), AV.p (PV.ps X.M.glN 2 X.M.glC), AV.p (PV.ps X.M.exN 3 X.M.exC), AV.p (PV.sc (Value.bool X.M.st)), AV.p (PV.sc (Value.int IntKind.u32 X.M.sn)), AV.p (PV.ps X.M.elN 2 X.M.elC), AV.p (PV.ps X.M.daN 2 X.M.daC), AV.p (PV.sc (Value.int IntKind.i64 X.tP)), AV.p (PV.sc (Value.int IntKind.i64 X.tR)), AV.p (PV.sc (Value.int IntKind.u64 X.own)), AV.p (PV.sc (Value.int IntKind.i64 R2.h)), AV.ms 2 0 R2.k 4 Option.none, AV.p (PV.sc (Value.int IntKind.i64 R2.e)), AV.p (PV.sc (Value.int IntKind.i64 R2.p)), AV.p (PV.sc (Value.int IntKind.i64 R2.nx))], Blk.dead, Blk.ob (ObK.gr 135 true) (List.map AV.p R2.cs)]⟩
            (.out (Out.ret (AV.tup [AV.p (PV.sc (Value.int IntKind.i64 R2.e)), AV.p (PV.sc (Value.int IntKind.i64 R2.p))]) []))))
          (.call ⟨33, [AV.mp 0 0, AV.p (PV.ps l.length 8 (encL l))], [Blk.ac [AV.p (PV.ps X.M.tyN 2 X.M.tyC), AV.p (PV.ps X.M.imN 3 X.M.imC), AV.p (PV.ps X.M.fnN 3 X.M.fnC), AV.p (PV.ps X.M.taN 3 X.M.taC), AV.p (PV.ps X.M.meN 3 X.M.meC), AV.p (PV.ps X.M.glN 2 X.M.glC), AV.p (PV.ps X.M.exN 3 X.M.exC), AV.p (PV.sc (Value.bool X.M.st)), AV.p (PV.sc (Value.int IntKind.u32 X.M.sn)), AV.p (PV.ps X.M.elN 2 X.M.elC), AV.p (PV.ps X.M.daN 2 X.M.daC), AV.p (PV.sc (Value.int IntKind.i64 X.tP)), AV.p (PV.sc (Value.int IntKind.i64 X.tR)), AV.p (PV.sc (Value.int IntKind.u64 X.own)), AV.p (PV.sc (Value.int IntKind.i64 0)), AV.ms 1 0 1 4 Option.none, AV.p (PV.sc (Value.int IntKind.i64 0)), AV.p (PV.sc (Value.int IntKind.i64 0)), AV.p (PV.sc (Value.int IntKind.i64 0))], Blk.ob (ObK.gr 135 true) [AV.p (PV.sc (Value.int IntKind.i64 0)), AV.p (PV.sc (Value.int IntKind.i64 0)), AV.p (PV.sc (Value.int IntKind.i64 X.tR)), AV.p (PV.sc (Value.bool false))]], AV.tup [], [Blk.ac [AV.p (PV.ps X.M.tyN 2 X.M.tyC), AV.p (PV.ps X.M.imN 3 X.M.imC), AV.p (PV.ps X.M.fnN 3 X.M.fnC), AV.p (PV.ps X.M.taN 3 X.M.taC), AV.p (PV.ps X.M.meN 3 X.M.meC), AV.p (PV.ps X.M.glN 2 X.M.glC), AV.p (PV.ps X.M.exN 3 X.M.exC), AV.p (PV.sc (Value.bool X.M.st)), AV.p (PV.sc (Value.int IntKind.u32 X.M.sn)), AV.p (PV.ps X.M.elN 2 X.M.elC), AV.p (PV.ps X.M.daN 2 X.M.daC), AV.p (PV.sc (Value.int IntKind.i64 X.tP)), AV.p (PV.sc (Value.int IntKind.i64 X.tR)), AV.p (PV.sc (Value.int IntKind.u64 X.own)), AV.p (PV.sc (Value.int IntKind.i64 R1.h)), AV.ms 2 0 R1.k 4 Option.none, AV.p (PV.sc (Value.int IntKind.i64 R1.e)), AV.p (PV.sc (Value.int IntKind.i64 R1.p)), AV.p (PV.sc (Value.int IntKind.i64 R1.nx))], Blk.dead, Blk.ob (ObK.gr 135 true) (List.map AV.p R1.cs)]⟩
           (.call ⟨34, [AV.mp 0 0, AV.p (PV.sc (Value.int IntKind.i64 0))], [Blk.ac [AV.p (PV.ps X.M.tyN 2 X.M.tyC), AV.p (PV.ps X.M.imN 3 X.M.imC), AV.p (PV.ps X.M.fnN 3 X.M.fnC), AV.p (PV.ps X.M.taN 3 X.M.taC), AV.p (PV.ps X.M.meN 3 X.M.meC), AV.p (PV.ps X.M.glN 2 X.M.glC), AV.p (PV.ps X.M.exN 3 X.M.exC), AV.p (PV.sc (Value.bool X.M.st)), AV.p (PV.sc (Value.int IntKind.u32 X.M.sn)), AV.p (PV.ps X.M.elN 2 X.M.elC), AV.p (PV.ps X.M.daN 2 X.M.daC), AV.p (PV.sc (Value.int IntKind.i64 X.tP)), AV.p (PV.sc (Value.int IntKind.i64 X.tR)), AV.p (PV.sc (Value.int IntKind.u64 X.own)), AV.p (PV.sc (Value.int IntKind.i64 R1.h)), AV.ms 1 0 R1.k 4 Option.none, AV.p (PV.sc (Value.int IntKind.i64 R1.e)), AV.p (PV.sc (Value.int IntKind.i64 R1.p)), AV.p (PV.sc (Value.int IntKind.i64 R1.nx))], Blk.ob (ObK.gr 135 true) (List.map keepP (List.map keepP (List.map AV.p R1.cs)))], AV.tup [], [Blk.ac [AV.p (PV.ps X.M.tyN 2 X.M.tyC), AV.p (PV.ps X.M.imN 3 X.M.imC), AV.p (PV.ps X.M.fnN 3 X.M.fnC), AV.p (PV.ps X.M.taN 3 X.M.taC), AV.p (PV.ps X.M.meN 3 X.M.meC), AV.p (PV.ps X.M.glN 2 X.M.glC), AV.p (PV.ps X.M.exN 3 X.M.exC), AV.p (PV.sc (Value.bool X.M.st)), AV.p (PV.sc (Value.int IntKind.u32 X.M.sn)), AV.p (PV.ps X.M.elN 2 X.M.elC), AV.p (PV.ps X.M.daN 2 X.M.daC), AV.p (PV.sc (Value.int IntKind.i64 X.tP)), AV.p (PV.sc (Value.int IntKind.i64 X.tR)), AV.p (PV.sc (Value.int IntKind.u64 X.own)), AV.p (PV.sc (Value.int IntKind.i64 R2.h)), AV.ms 2 0 R2.k 4 Option.none, AV.p (PV.sc (Value.int IntKind.i64 R2.e)), AV.p (PV.sc (Value.int IntKind.i64 R2.p)), AV.p (PV.sc (Value.int IntKind.i64 R2.nx))], Blk.dead, Blk.ob (ObK.gr 135 true) (List.map AV.p R2.cs)]⟩
            (.out (Out.ret (AV.tup [AV.p (PV.sc (Value.int IntKind.i64 R2.e)), AV.p (PV.sc (Value.int IntKind.i64 R2.p))]) []))))))))))))
theorem lok_tree (X : Lx) (n : Nat) (P : Int) (Q : Int) (lo : Int) (l : List Ins) (R1 : Rw) (R2 : Rw) : growF Tryz.prog env (lokOrc X n P Q lo l R1 R2) 1000000 16 ([AV.agg X.M.cells, sI IntKind.i64 (↑n : Int)]) ([]) lokSc = lokTree X n P Q lo l R1 R2 := by kernel_rfl

/- tyo: 210 steps -/
noncomputable def tyoOrc (M : Md) (a : Nat) (T : Int) (P : Int) (Q : Int) : Orc := orcS noCall noLed [] [(31, 0, 0), (31, 8, 3), (31, 0, 2), (31, 0, 1)] [(31, 5, 3), (31, 5, 5), (31, 10, 3), (31, 10, 4), (31, 7, 3), (31, 7, 5)] (tyS M a T P Q)
def tyoSc : Sc := (.fork (.fork (.lit .fin) .fin) (.fork (.fork (.lit .fin) .fin) (.lit (.lit .fin))))
noncomputable def tyoTree (M : Md) (a : Nat) (T : Int) (P : Int) (Q : Int) : Tree :=
  (.test (decide (IntKind.i64.wrap (IntKind.i64.wrap (↑a : Int) - (↑M.imN : Int)) < 0))
   (.must (inB (IntKind.i64.wrap (↑a : Int)) M.imN && true && true)
    (.must (isInt IntKind.i64 (M.imC.getD ((IntKind.i64.wrap (↑a : Int)).toNat * 3 + 2) PV.bad) && true)
     (.need (AV.p (PV.sc (Value.int IntKind.i64 (pvInt (M.imC.getD ((IntKind.i64.wrap (↑a : Int)).toNat * 3 + 2) PV.bad)))) = sI IntKind.i64 T)
      (.test (decide (T < 0))
       (.out (Out.ret (AV.tup [AV.agg [AV.p (PV.sc (Value.int IntKind.i64 0)), AV.p (PV.sc (Value.int IntKind.i64 0))], AV.p (PV.sc (Value.bool false))]) []))
       (.test (decide (T ≥ (↑M.tyN : Int)))
        (.out (Out.ret (AV.tup [AV.agg [AV.p (PV.sc (Value.int IntKind.i64 0)), AV.p (PV.sc (Value.int IntKind.i64 0))], AV.p (PV.sc (Value.bool false))]) []))
        (.must (inB T M.tyN && true && true)
         (.must (isInt IntKind.i64 (M.tyC.getD (T.toNat * 2) PV.bad) && (isInt IntKind.i64 (M.tyC.getD (T.toNat * 2 + 1) PV.bad) && true) && true)
          (.need (AV.agg [AV.p (PV.sc (Value.int IntKind.i64 (pvInt (M.tyC.getD (T.toNat * 2) PV.bad)))), AV.p (PV.sc (Value.int IntKind.i64 (pvInt (M.tyC.getD (T.toNat * 2 + 1) PV.bad))))] = AV.agg [sI IntKind.i64 P, sI IntKind.i64 Q])
           (.out (Out.ret (AV.tup [AV.agg [AV.p (PV.sc (Value.int IntKind.i64 P)), AV.p (PV.sc (Value.int IntKind.i64 Q))], AV.p (PV.sc (Value.bool true))]) []))))))))))
   (.test (decide (IntKind.i64.wrap (IntKind.i64.wrap (↑a : Int) - (↑M.imN : Int)) < (↑M.fnN : Int)))
    (.must (inB (IntKind.i64.wrap (IntKind.i64.wrap (↑a : Int) - (↑M.imN : Int))) M.fnN && true && true)
     (.must (isInt IntKind.i64 (M.fnC.getD ((IntKind.i64.wrap (IntKind.i64.wrap (↑a : Int) - (↑M.imN : Int))).toNat * 3 + 0) PV.bad) && true)
      (.need (AV.p (PV.sc (Value.int IntKind.i64 (pvInt (M.fnC.getD ((IntKind.i64.wrap (IntKind.i64.wrap (↑a : Int) - (↑M.imN : Int))).toNat * 3 + 0) PV.bad)))) = sI IntKind.i64 T)
       (.test (decide (T < 0))
        (.out (Out.ret (AV.tup [AV.agg [AV.p (PV.sc (Value.int IntKind.i64 0)), AV.p (PV.sc (Value.int IntKind.i64 0))], AV.p (PV.sc (Value.bool false))]) []))
        (.test (decide (T ≥ (↑M.tyN : Int)))
         (.out (Out.ret (AV.tup [AV.agg [AV.p (PV.sc (Value.int IntKind.i64 0)), AV.p (PV.sc (Value.int IntKind.i64 0))], AV.p (PV.sc (Value.bool false))]) []))
         (.must (inB T M.tyN && true && true)
          (.must (isInt IntKind.i64 (M.tyC.getD (T.toNat * 2) PV.bad) && (isInt IntKind.i64 (M.tyC.getD (T.toNat * 2 + 1) PV.bad) && true) && true)
           (.need (AV.agg [AV.p (PV.sc (Value.int IntKind.i64 (pvInt (M.tyC.getD (T.toNat * 2) PV.bad)))), AV.p (PV.sc (Value.int IntKind.i64 (pvInt (M.tyC.getD (T.toNat * 2 + 1) PV.bad))))] = AV.agg [sI IntKind.i64 P, sI IntKind.i64 Q])
            (.out (Out.ret (AV.tup [AV.agg [AV.p (PV.sc (Value.int IntKind.i64 P)), AV.p (PV.sc (Value.int IntKind.i64 Q))], AV.p (PV.sc (Value.bool true))]) []))))))))))
    (.out (Out.ret (AV.tup [AV.agg [AV.p (PV.sc (Value.int IntKind.i64 0)), AV.p (PV.sc (Value.int IntKind.i64 0))], AV.p (PV.sc (Value.bool false))]) []))))
theorem tyo_tree (M : Md) (a : Nat) (T : Int) (P : Int) (Q : Int) : growF Tryz.prog env (tyoOrc M a T P Q) 1000000 31 ([AV.agg M.cells, sI IntKind.u32 (↑a : Int)]) ([]) tyoSc = tyoTree M a T P Q := by kernel_rfl

/- mckD: 3147 steps -/
noncomputable def mckDOrc : Orc := orcL noCall noLed [] [(63, 0, 2), (74, 2, 11), (103, 0, 2)] []
noncomputable def mckDSc (lo : Int) (ck : Int) (l : List Ins) : Sc := (.ans 95 (AV.p (PV.sc (Value.int IntKind.i64 0))) ([]) (.lit (.ans 95 (AV.p (PV.sc (Value.int IntKind.i64 ck))) ([]) (.fork .fin (.ans 95 (AV.p (PV.sc (Value.int IntKind.i64 0))) ([]) (.lit (.ans 95 (AV.p (PV.sc (Value.int IntKind.i64 0))) ([]) (.lit (.lit (.lit (.fork (.lit .fin) (.fork .fin (.ans 95 (AV.p (PV.sc (Value.int IntKind.i64 0))) ([]) (.lit (.ans 95 (AV.p (PV.sc (Value.int IntKind.i64 ck))) ([]) (.fork .fin (.ans 95 (AV.p (PV.sc (Value.int IntKind.i64 0))) ([]) (.lit (.ans 95 (AV.p (PV.sc (Value.int IntKind.i64 0))) ([]) (.lit .fin))))))))))))))))))))
noncomputable def mckDTree (lo : Int) (ck : Int) (l : List Ins) : Tree :=
  (.call ⟨95, [AV.p (PV.ps 0 8 [])], [], AV.p (PV.sc (Value.int IntKind.i64 0)), []⟩
   (.call ⟨95, [AV.p (PV.ps l.length 8 (encL l))], [], AV.p (PV.sc (Value.int IntKind.i64 ck)), []⟩
    (.test (ck == 141)
     (.out (Out.ret (AV.p (PV.sc (Value.int IntKind.i64 141))) []))
     (.call ⟨95, [AV.p (PV.ps 1 8 [PV.sc (Value.int IntKind.i64 65), PV.sc (Value.int IntKind.i64 0), PV.sc (Value.int IntKind.u32 0), PV.sc (Value.int IntKind.u32 0), PV.sc (Value.int IntKind.i32 0), PV.ps 0 1 [], PV.ps 0 8 [], PV.ps 0 8 []])], [], AV.p (PV.sc (Value.int IntKind.i64 0)), []⟩
      (.call ⟨95, [AV.p (PV.ps 1 8 [PV.sc (Value.int IntKind.i64 65), PV.sc (Value.int IntKind.i64 0), PV.sc (Value.int IntKind.u32 0), PV.sc (Value.int IntKind.u32 0), PV.sc (Value.int IntKind.i32 0), PV.ps 0 1 [], PV.ps 0 8 [], PV.ps 0 8 []])], [], AV.p (PV.sc (Value.int IntKind.i64 0)), []⟩
       (.test (decide (lo < 0))
        (.out (Out.ret (AV.p (PV.sc (Value.int IntKind.i64 2))) []))
        (.test (decide (lo > 50000))
         (.out (Out.ret (AV.p (PV.sc (Value.int IntKind.i64 2))) []))
         (.call ⟨95, [AV.p (PV.ps 0 8 [])], [], AV.p (PV.sc (Value.int IntKind.i64 0)), []⟩
          (.call ⟨95, [AV.p (PV.ps l.length 8 (encL l))], [], AV.p (PV.sc (Value.int IntKind.i64 ck)), []⟩
           (.test (ck == 2)
            (.out (Out.ret (AV.p (PV.sc (Value.int IntKind.i64 2))) []))
            (.call ⟨95, [AV.p (PV.ps 1 8 [PV.sc (Value.int IntKind.i64 65), PV.sc (Value.int IntKind.i64 0), PV.sc (Value.int IntKind.u32 0), PV.sc (Value.int IntKind.u32 0), PV.sc (Value.int IntKind.i32 0), PV.ps 0 1 [], PV.ps 0 8 [], PV.ps 0 8 []])], [], AV.p (PV.sc (Value.int IntKind.i64 0)), []⟩
             (.call ⟨95, [AV.p (PV.ps 1 8 [PV.sc (Value.int IntKind.i64 65), PV.sc (Value.int IntKind.i64 0), PV.sc (Value.int IntKind.u32 0), PV.sc (Value.int IntKind.u32 0), PV.sc (Value.int IntKind.i32 0), PV.ps 0 1 [], PV.ps 0 8 [], PV.ps 0 8 []])], [], AV.p (PV.sc (Value.int IntKind.i64 0)), []⟩
              (.out (Out.ret (AV.p (PV.sc (Value.int IntKind.i64 0))) []))))))))))))))
theorem mckD_tree (lo : Int) (ck : Int) (l : List Ins) : growF Tryz.prog env mckDOrc 1000000 15 ([AV.agg (rmD 0 0 lo l).cells]) ([]) (mckDSc lo ck l) = mckDTree lo ck l := by kernel_rfl

/- bod: 40 steps -/
noncomputable def bodOrc (M : Md) (n : Nat) (e : Int) (e2 : Int) (p2 : Int) : Orc := orcL (boC M n e e2 p2) noLed [] [(8, 0, 0)] []
def bodSc : Sc := .fin
noncomputable def bodTree (M : Md) (n : Nat) (e : Int) (e2 : Int) (p2 : Int) : Tree :=
  (.call ⟨15, [AV.agg [AV.p (PV.ps M.tyN 2 M.tyC), AV.p (PV.ps M.imN 3 M.imC), AV.p (PV.ps M.fnN 3 M.fnC), AV.p (PV.ps M.taN 3 M.taC), AV.p (PV.ps M.meN 3 M.meC), AV.p (PV.ps M.glN 2 M.glC), AV.p (PV.ps M.exN 3 M.exC), AV.p (PV.sc (Value.bool M.st)), AV.p (PV.sc (Value.int IntKind.u32 M.sn)), AV.p (PV.ps M.elN 2 M.elC), AV.p (PV.ps M.daN 2 M.daC)]], [], AV.p (PV.sc (Value.int IntKind.i64 e)), []⟩
   (.test (e != 0)
    (.out (Out.ret (AV.tup [AV.p (PV.sc (Value.int IntKind.i64 e)), AV.p (PV.sc (Value.int IntKind.i64 0))]) []))
    (.call ⟨16, [AV.agg [AV.p (PV.ps M.tyN 2 M.tyC), AV.p (PV.ps M.imN 3 M.imC), AV.p (PV.ps M.fnN 3 M.fnC), AV.p (PV.ps M.taN 3 M.taC), AV.p (PV.ps M.meN 3 M.meC), AV.p (PV.ps M.glN 2 M.glC), AV.p (PV.ps M.exN 3 M.exC), AV.p (PV.sc (Value.bool M.st)), AV.p (PV.sc (Value.int IntKind.u32 M.sn)), AV.p (PV.ps M.elN 2 M.elC), AV.p (PV.ps M.daN 2 M.daC)], AV.p (PV.sc (Value.int IntKind.i64 (↑n : Int)))], [], AV.tup [AV.p (PV.sc (Value.int IntKind.i64 e2)), AV.p (PV.sc (Value.int IntKind.i64 p2))], []⟩
     (.out (Out.ret (AV.tup [AV.p (PV.sc (Value.int IntKind.i64 e2)), AV.p (PV.sc (Value.int IntKind.i64 p2))]) [])))))
theorem bod_tree (M : Md) (n : Nat) (e : Int) (e2 : Int) (p2 : Int) : growF Tryz.prog env (bodOrc M n e e2 p2) 1000000 8 ([AV.agg M.cells, sI IntKind.i64 (↑n : Int)]) ([]) bodSc = bodTree M n e e2 p2 := by kernel_rfl


theorem typeOf_some {M : Md} {a : Nat} {T P Q : Int} (ha : a < 4294967296) (hi : M.imN ≤ 1000000000) (hf : M.fnN ≤ 1000000000) (hT : 0 ≤ T ∧ T < M.tyN)
    (hat : (a < M.imN ∧ M.imC.getD (a * 3 + 2) .bad = .sc (.int .i64 T)) ∨ (M.imN ≤ a ∧ a - M.imN < M.fnN ∧ M.fnC.getD ((a - M.imN) * 3 + 0) .bad = .sc (.int .i64 T)))
    (hP : M.tyC.getD (T.toNat * 2) .bad = .sc (.int .i64 P)) (hQ : M.tyC.getD (T.toNat * 2 + 1) .bad = .sc (.int .i64 Q)) :
    Does Tryz.prog env 31 [.agg M.cells, sI .u32 a] [] (.tup [.agg [sI .i64 P, sI .i64 Q], sB true]) [] := by
  refine does_of_tree names (tyo_tree M a T P Q) ?_
  have w1 : IntKind.i64.wrap (a : Int) = a := i64In (by omega) (by omega)
  have w2 : IntKind.i64.wrap ((a : Int) - M.imN) = a - M.imN := i64In (by omega) (by omega)
  have t1 : decide (T < 0) = false := by simp; omega
  have t2 : decide (T ≥ (M.tyN : Int)) = false := by simp; omega
  rcases hat with ⟨h1, h2⟩ | ⟨h1, h2, h3⟩
  · have g1 : decide ((a : Int) - M.imN < 0) = true := by simp; omega
    simp only [tyoTree, Tree.ok, w1, w2, g1, t1, t2, h2, hP, hQ, Int.toNat_natCast, isInt, pvInt, ik, inB, Bool.false_eq_true, Bool.true_eq_false, false_implies, true_implies, true_and, and_true, Bool.and_true, Bool.and_eq_true, decide_eq_true_eq]
    omega
  · have g1 : decide ((a : Int) - M.imN < 0) = false := by simp; omega
    have g2 : decide ((a : Int) - M.imN < M.fnN) = true := by simp; omega
    have e1 : ((a : Int) - M.imN).toNat = a - M.imN := by omega
    simp only [tyoTree, Tree.ok, w1, w2, g1, g2, t1, t2, e1, h3, hP, hQ, isInt, pvInt, ik, inB, Bool.false_eq_true, Bool.true_eq_false, false_implies, true_implies, true_and, and_true, Bool.and_true, Bool.and_eq_true, decide_eq_true_eq]
    omega

theorem typeOf_none {M : Md} {a : Nat} (ha : a < 4294967296) (hi : M.imN ≤ 1000000000) (hf : M.fnN ≤ 1000000000) (hat : M.imN + M.fnN ≤ a) :
    Does Tryz.prog env 31 [.agg M.cells, sI .u32 a] [] (.tup [.agg [sI .i64 0, sI .i64 0], sB false]) [] := by
  refine does_of_tree names (tyo_tree M a 0 0 0) ?_
  have w1 : IntKind.i64.wrap (a : Int) = a := i64In (by omega) (by omega)
  have w2 : IntKind.i64.wrap ((a : Int) - M.imN) = a - M.imN := i64In (by omega) (by omega)
  have g1 : decide ((a : Int) - M.imN < 0) = false := by simp; omega
  have g2 : decide ((a : Int) - M.imN < M.fnN) = false := by simp; omega
  simp only [tyoTree, Tree.ok, w1, w2, g1, g2, Bool.false_eq_true, false_implies, true_implies, and_true]

/-- A function's instructions, looked at. -/
theorem look_does {X : Lx} {V : VEnv} (hv : VOk X V) {n : Nat} {lo : Int} {l : List Ins} (hn : n < X.M.fnN) (hf : X.M.fnN ≤ 1000000000) (hi : X.M.imN ≤ 1000000000) (hlo : X.M.fnC.getD (n * 3 + 1) .bad = .sc (.int .i64 lo)) (hl : X.M.fnC.getD (n * 3 + 2) .bad = .ps l.length 8 (encL l))
    (hp : 0 ≤ X.tP ∧ X.tP ≤ 1000000) (hlo0 : 0 ≤ lo ∧ lo ≤ 1000000) (how : X.own = X.tP + lo) (hty : Does Tryz.prog env 31 [.agg X.M.cells, sI .u32 (X.M.imN + n : Nat)] [] (.tup [.agg [sI .i64 X.tP, sI .i64 X.tR], sB true]) [])
    (hfit : Fit l 0 1) : Does Tryz.prog env 16 [.agg X.M.cells, sI .i64 n] [] (.tup [sI .i64 (bodyV V l).1, sI .i64 ((bodyV V l).2 : Nat)]) [] := by
  have hret := hv.ret
  have hret1 := hv.ret1
  have g0 : Good ⟨0, 1, frC 0 0 X.tR false, 0, 0, 0⟩ [] ⟨0, 0, X.tR, false⟩ 0 0 := by
    refine ⟨⟨rfl, rfl, ⟨[], rfl⟩, ?_⟩, rfl, rfl, rfl, by simp⟩
    exact ⟨rfl, rfl, by simp only; omega, by simp only; omega, trivial, by simp, by simp, by simp⟩
  obtain ⟨R1, r1, a1⟩ := list_run hv l _ [] ⟨0, 0, X.tR, false⟩ 0 0 hfit g0
  have hlab : labs ([] ++ [(⟨0, 0, X.tR, false⟩ : Fr)]) = [V.ret] := by simp [labs, hret]
  rw [hlab] at a1
  have hres : X.tR.toNat = V.ret := by omega
  have key : ∃ R2, Run X 34 [sI .i64 (0 : Nat)] R1 R2 ∧ R2.e = (bodyV V l).1 ∧ R2.p = ((bodyV V l).2 : Nat) := by
    unfold bodyV
    dsimp only at a1
    cases hvl : valL V [V.ret] l 0 false 0 with
    | bad e p =>
      rw [hvl] at a1
      exact ⟨R1, leaE (by rw [a1.1]; exact a1.2.1), a1.1, a1.2.2⟩
    | ok m d c =>
      rw [hvl] at a1
      obtain ⟨R2, r2, h2⟩ := leave_end (X := X) a1 0
      refine ⟨R2, r2, ?_⟩
      simp only [hres] at h2
      have hp0 := a1.p0
      cases hev : endV V.ret m d 0 (.ok 0 false 0) with
      | bad e p => rw [hev] at h2; dsimp only; rw [hev]; exact h2
      | ok m' d' c' => rw [hev] at h2; dsimp only; rw [hev]; exact ⟨h2.1, by rw [h2.2, hp0]; rfl⟩
  obtain ⟨R2, r2, e2, p2⟩ := key
  rw [← e2, ← p2]
  refine does_of_tree names (lok_tree X n X.tP X.tR lo l R1 R2) ?_
  have w1 : IntKind.i64.wrap ((X.M.imN : Int) + n) = ((X.M.imN + n : Nat) : Int) := by rw [i64In (by omega) (by omega)]; omega
  have w2 : IntKind.u32.wrap ((X.M.imN + n : Nat) : Int) = ((X.M.imN + n : Nat) : Int) := u32In (by omega) (by omega)
  have w3 : IntKind.u64.wrap X.tP = X.tP := u64In (by omega) (by omega)
  have w4 : IntKind.u64.wrap lo = lo := u64In (by omega) (by omega)
  have w5 : IntKind.u64.wrap (X.tP + lo) = X.own := by rw [u64In (by omega) (by omega), how]
  have g1 : decide ((n : Int) ≥ (X.M.fnN : Int)) = false := by simp; omega
  have g2 : decide (X.tR < 0) = false := by simp; omega
  have g3 : decide (X.tR > 1) = false := by simp; omega
  simp only [lokTree, Tree.ok, keep_map, w1, w2, w3, w4, w5, g1, g2, g3, Int.toNat_natCast, Nat.add_assoc, Nat.reduceAdd, hlo, hl, isInt, isPs, pvInt, psLen, psSz, psCells, ik, inB, Bool.false_eq_true, Bool.true_eq_false, false_implies, true_implies, true_and, and_true, Bool.and_true, Bool.and_eq_true, decide_eq_true_eq]
  exact ⟨hty, by omega, r1, r2⟩

end Go.Proofs.YtgbphddecpjlhaaGreatDoor.N
end

section
set_option linter.unusedSimpArgs false
set_option linter.unusedVariables false
namespace Go.Proofs.YtgbphddecpjlhaaGreatDoor.N
open Go Go.Am

def ldC (op r a b nn : Int) (tg : List Int) (ll le : List Ins) (e p : Int) (f : FuncId) (_ : List AV) (m : Mem) : Option (AV × Mem) := cond (Nat.beq f 12) (some (sB true, m)) (cond (Nat.beq f 8) (some (.tup [sI .i64 e, sI .i64 p], m)) none)
/- ldd: 777 steps -/
noncomputable def lddOrc (op : Int) (r : Int) (a : Int) (b : Int) (nn : Int) (tg : List Int) (ll : List Ins) (le : List Ins) (e : Int) (p : Int) : Orc := orcL (ldC op r a b nn tg ll le e p) noLed [] [(4, 3, 5), (4, 3, 11), (4, 0, 0), (4, 11, 5), (4, 11, 8), (4, 11, 11), (4, 11, 15), (4, 11, 19), (4, 11, 22), (4, 11, 26), (4, 11, 31), (4, 11, 40), (4, 11, 43), (4, 11, 46)] []
def lddSc : Sc := (.fork (.lit (.lit .fin)) (.fork (.lit .fin) (.fork .fin (.fork (.lit .fin) (.fork (.fork (.lit (.lit (.lit .fin))) (.fork (.lit (.lit .fin)) (.fork (.lit .fin) (.fork (.fork (.lit (.lit .fin)) (.fork (.lit .fin) (.fork .fin (.no .fin)))) (.lit (.no .fin)))))) (.lit .fin))))))
noncomputable def lddTree (op : Int) (r : Int) (a : Int) (b : Int) (nn : Int) (tg : List Int) (ll : List Ins) (le : List Ins) (e : Int) (p : Int) : Tree :=
  (.call ⟨12, [], [], AV.p (PV.sc (Value.bool true)), []⟩
   (.test (decide ((↑ll.length : Int) > 0))
    (.out (Out.ret (AV.p (PV.sc (Value.bool true))) []))
    (.test (decide ((↑le.length : Int) > 0))
     (.out (Out.ret (AV.p (PV.sc (Value.bool true))) []))
     (.test (decide ((↑tg.length : Int) > 0))
      (.out (Out.ret (AV.p (PV.sc (Value.bool true))) []))
      (.call ⟨8, [AV.agg [AV.os (Option.some 0) 3 2 [PV.sc (Value.int IntKind.i64 1), PV.sc (Value.int IntKind.i64 1), PV.sc (Value.int IntKind.i64 0), PV.sc (Value.int IntKind.i64 0), PV.sc (Value.int IntKind.i64 0), PV.sc (Value.int IntKind.i64 0)], AV.os Option.none 1 3 [PV.sc (Value.string (ByteArray.mk #[104, 111, 115, 116])), PV.sc (Value.string (ByteArray.mk #[102])), PV.sc (Value.int IntKind.i64 0)], AV.os (Option.some 1) 2 3 [PV.sc (Value.int IntKind.i64 1), PV.sc (Value.int IntKind.i64 0), PV.ps 0 0 [], PV.sc (Value.int IntKind.i64 2), PV.sc (Value.int IntKind.i64 3), PV.ps 5 8 [PV.sc (Value.int IntKind.i64 0), PV.sc (Value.int IntKind.i64 0), PV.sc (Value.int IntKind.u32 0), PV.sc (Value.int IntKind.u32 0), PV.sc (Value.int IntKind.i32 0), PV.ps 0 0 [], PV.ps 0 0 [], PV.ps 0 0 [], PV.sc (Value.int IntKind.i64 op), PV.sc (Value.int IntKind.i64 r), PV.sc (Value.int IntKind.u32 a), PV.sc (Value.int IntKind.u32 b), PV.sc (Value.int IntKind.i32 nn), PV.ps tg.length 1 (encT IntKind.u32 tg), PV.ps ll.length 8 (encL ll), PV.ps le.length 8 (encL le), PV.sc (Value.int IntKind.i64 0), PV.sc (Value.int IntKind.i64 0), PV.sc (Value.int IntKind.u32 0), PV.sc (Value.int IntKind.u32 0), PV.sc (Value.int IntKind.i32 0), PV.ps 0 0 [], PV.ps 0 0 [], PV.ps 0 0 [], PV.sc (Value.int IntKind.i64 26), PV.sc (Value.int IntKind.i64 0), PV.sc (Value.int IntKind.u32 0), PV.sc (Value.int IntKind.u32 0), PV.sc (Value.int IntKind.i32 0), PV.ps 0 0 [], PV.ps 0 0 [], PV.ps 0 0 [], PV.sc (Value.int IntKind.i64 26), PV.sc (Value.int IntKind.i64 0), PV.sc (Value.int IntKind.u32 0), PV.sc (Value.int IntKind.u32 0), PV.sc (Value.int IntKind.i32 0), PV.ps 0 0 [], PV.ps 0 0 [], PV.ps 0 0 []]], AV.os Option.none 1 3 [PV.sc (Value.int IntKind.u32 1), PV.sc (Value.int IntKind.u32 0), PV.sc (Value.bool false)], AV.os Option.none 1 3 [PV.sc (Value.int IntKind.u32 1), PV.sc (Value.int IntKind.u32 0), PV.sc (Value.bool false)], AV.os Option.none 2 2 [PV.sc (Value.bool true), PV.ps 1 8 [PV.sc (Value.int IntKind.i64 65), PV.sc (Value.int IntKind.i64 0), PV.sc (Value.int IntKind.u32 0), PV.sc (Value.int IntKind.u32 0), PV.sc (Value.int IntKind.i32 0), PV.ps 0 0 [], PV.ps 0 0 [], PV.ps 0 0 []], PV.sc (Value.bool false), PV.ps 1 8 [PV.sc (Value.int IntKind.i64 65), PV.sc (Value.int IntKind.i64 0), PV.sc (Value.int IntKind.u32 0), PV.sc (Value.int IntKind.u32 0), PV.sc (Value.int IntKind.i32 0), PV.ps 0 0 [], PV.ps 0 0 [], PV.ps 0 0 []]], AV.os Option.none 0 0 [], AV.p (PV.sc (Value.bool false)), AV.p (PV.sc (Value.int IntKind.u32 0)), AV.os Option.none 0 0 [], AV.os Option.none 0 0 []], AV.p (PV.sc (Value.int IntKind.i64 1))], [Blk.tok, Blk.tok], AV.tup [AV.p (PV.sc (Value.int IntKind.i64 e)), AV.p (PV.sc (Value.int IntKind.i64 p))], [Blk.tok, Blk.tok]⟩
       (.test (e == 0)
        (.out (Out.ret (AV.p (PV.sc (Value.bool true))) []))
        (.test (p == 2)
         (.test (e == 6)
          (.out (Out.ret (AV.p (PV.sc (Value.bool true))) []))
          (.test (e == 212)
           (.out (Out.ret (AV.p (PV.sc (Value.bool true))) []))
           (.test (e == 211)
            (.out (Out.ret (AV.p (PV.sc (Value.bool true))) []))
            (.test (e == 200)
             (.test (op == 2)
              (.out (Out.ret (AV.p (PV.sc (Value.bool true))) []))
              (.test (op == 3)
               (.out (Out.ret (AV.p (PV.sc (Value.bool true))) []))
               (.test (op == 4)
                (.out (Out.ret (AV.p (PV.sc (Value.bool true))) []))
                (.must (!(p == 0))
                 (.out (Out.ret (AV.p (PV.sc (Value.bool false))) []))))))
             (.must (!(p == 0))
              (.out (Out.ret (AV.p (PV.sc (Value.bool false))) [])))))))
         (.test (p == 0)
          (.test (e == 2)
           (.out (Out.ret (AV.p (PV.sc (Value.bool true))) []))
           (.out (Out.ret (AV.p (PV.sc (Value.bool (e == 141)))) [])))
          (.out (Out.ret (AV.p (PV.sc (Value.bool false))) []))))))))))
theorem ldd_tree (op : Int) (r : Int) (a : Int) (b : Int) (nn : Int) (tg : List Int) (ll : List Ins) (le : List Ins) (e : Int) (p : Int) : growF Tryz.prog env (lddOrc op r a b nn tg ll le e p) 1000000 4 ([aggI op r a b nn tg ll le]) ([]) lddSc = lddTree op r a b nn tg ll le e p := by kernel_rfl


theorem Ale.agg {l l' : List AV} (h : All2 Ale l l') : Ale (.agg l) (.agg l') := fun g w v hv => by
  cases hv with
  | agg _ cs hl hc =>
    have hv : VAs g w l cs.toList := All2.of_get hl hc
    clear hl hc
    rw [VA.aggs]
    generalize cs.toList = vs at hv
    induction l generalizing l' vs with
    | nil => cases l' <;> cases vs <;> first | trivial | exact h.elim | exact hv.elim
    | cons a l ih =>
      cases l' with
      | nil => exact h.elim
      | cons b l' => cases vs with
        | nil => exact hv.elim
        | cons x vs => exact ⟨h.1 g w x hv.1, ih h.2 vs hv.2⟩

/-- The laws' module, as the looker has it; and what the document asks of it. -/
def rX (tp tr lo : Nat) (l : List Ins) : Lx := ⟨rmD tp tr lo l, tp, tr, (tp : Int) + lo⟩
def rV (tp tr lo : Nat) : VEnv where
  ty a := if a = 0 then some (1, 1) else if a = 1 then some (0, 0) else if a = 2 then some (tp, tr) else none
  ind a := if a = 0 then some (1, 1) else if a = 1 then some (0, 0) else if a = 2 then some (tp, tr) else none
  glob := [true, false]
  mem := true
  own := tp + lo
  ret := tr

theorem rV_ok {tp tr lo : Nat} {l : List Ins} (h1 : tr ≤ 1) (h2 : tp ≤ 1000000) (h3 : lo ≤ 1000000) : VOk (rX tp tr lo l) (rV tp tr lo) where
  ret := rfl
  ret1 := h1
  own := rfl
  own1 := by show tp + lo ≤ 1000000000; omega
  ty a ha := by
    by_cases a0 : a = 0
    · subst a0
      exact ⟨Nat.le_refl 1, typeOf_some (T := 0) (P := 1) (Q := 1) (by omega) (of_decide_eq_true rfl) (of_decide_eq_true rfl) (of_decide_eq_true rfl) (.inl ⟨of_decide_eq_true rfl, rfl⟩) rfl rfl⟩
    by_cases a1 : a = 1
    · subst a1
      exact ⟨Nat.zero_le 1, typeOf_some (T := 1) (P := 0) (Q := 0) (by omega) (of_decide_eq_true rfl) (of_decide_eq_true rfl) (of_decide_eq_true rfl) (.inr ⟨of_decide_eq_true rfl, of_decide_eq_true rfl, rfl⟩) rfl rfl⟩
    by_cases a2 : a = 2
    · subst a2
      exact ⟨h1, typeOf_some (T := 2) (P := tp) (Q := tr) (by omega) (of_decide_eq_true rfl) (of_decide_eq_true rfl) (of_decide_eq_true rfl) (.inr ⟨of_decide_eq_true rfl, of_decide_eq_true rfl, rfl⟩) rfl rfl⟩
    · have e : (rV tp tr lo).ty a = none := by
        show (if (a : Int) = 0 then _ else if (a : Int) = 1 then _ else if (a : Int) = 2 then _ else none) = none
        rw [if_neg (by omega), if_neg (by omega), if_neg (by omega)]
      rw [e]
      exact typeOf_none ha (of_decide_eq_true rfl) (of_decide_eq_true rfl) (by show 1 + 2 ≤ a; omega)
  tyN := of_decide_eq_true rfl
  ind a := by
    by_cases ha : 0 < (rX tp tr lo l).M.taN ∧ a < (rX tp tr lo l).M.tyN
    · rw [if_pos ha]
      have ha : a < 3 := ha.2
      match a, ha with
      | 0, _ => exact ⟨1, 1, rfl, Nat.le_refl 1, rfl, rfl⟩
      | 1, _ => exact ⟨0, 0, rfl, Nat.zero_le 1, rfl, rfl⟩
      | 2, _ => exact ⟨tp, tr, rfl, h1, rfl, rfl⟩
    · rw [if_neg ha]
      have ha : ¬ a < 3 := fun q => ha ⟨(Nat.zero_lt_one : 0 < 1), q⟩
      show (if (a : Int) = 0 then _ else if (a : Int) = 1 then _ else if (a : Int) = 2 then _ else none) = none
      rw [if_neg (by omega), if_neg (by omega), if_neg (by omega)]
  glN := rfl
  glM := of_decide_eq_true rfl
  gl a b h := by
    match a, h with
    | 0, h => cases h; rfl
    | 1, h => cases h; rfl
    | a + 2, h => cases h
  me := rfl

theorem rlook {tp tr lo : Nat} {l : List Ins} (h1 : tr ≤ 1) (h2 : tp ≤ 1000000) (h3 : lo ≤ 1000000) (hf : Fit l 0 1) :
    Does Tryz.prog env 16 [.agg (rmD tp tr lo l).cells, sI .i64 1] [] (.tup [sI .i64 (bodyV (rV tp tr lo) l).1, sI .i64 ((bodyV (rV tp tr lo) l).2 : Nat)]) [] := by
  have hty := (rV_ok (l := l) h1 h2 h3).ty 2 (of_decide_eq_true rfl)
  exact look_does (X := rX tp tr lo l) (rV_ok h1 h2 h3) (n := 1) (lo := lo) (l := l) (of_decide_eq_true rfl) (of_decide_eq_true rfl) (of_decide_eq_true rfl) rfl rfl ⟨by show (0 : Int) ≤ tp; omega, by show (tp : Int) ≤ 1000000; omega⟩ ⟨by omega, by omega⟩ rfl hty.2 hf

/-- What module.Check tells of it, where the instructions' check tells this. -/
def mcF (ck : Int) : Int := if ck = 141 then 141 else if ck = 2 then 2 else 0

theorem conIns_eq : aL [.mk 65 0 0 0 0 [] [] []] = .p (.ps 1 8 con0) := rfl

theorem chkP (l : List Ins) (h : numL l ≤ 100000000000) : Does Tryz.prog env 95 [aL l] [] (sI .i64 (checkF mayI l)) [] := check_does mayI_does l h

theorem ckNil : checkF mayI [] = 0 := rfl
theorem ckCon : checkF mayI [.mk 65 0 0 0 0 [] [] []] = 0 := by decide +kernel

theorem mck_does {lo : Nat} {l : List Ins} (h3 : lo ≤ 50000) (h : numL l ≤ 100000000000) : Does Tryz.prog env 15 [.agg (rmD 0 0 lo l).cells] [] (sI .i64 (mcF (checkF mayI l))) [] := by
  have c0 := chkP [] (by decide)
  have c1 := chkP l h
  have c2 := chkP [.mk 65 0 0 0 0 [] [] []] (by decide)
  rw [ckNil] at c0
  rw [ckCon, conIns_eq] at c2
  refine does_of_tree names (mckD_tree lo (checkF mayI l) l) ?_
  have g1 : decide ((lo : Int) < 0) = false := by simp
  have g2 : decide ((lo : Int) > 50000) = false := by simp; omega
  simp only [mckDTree, Tree.ok, g1, g2, Bool.false_eq_true, false_implies, true_implies, true_and]
  refine ⟨c0, c1, fun h141 => ?_, fun h141 => ⟨c2, c2, c0, c1, fun h2 => ?_, fun h2 => ⟨c2, c2, ?_⟩⟩⟩
  · rw [mcF, if_pos (by simpa using h141)]
  · rw [mcF, if_neg (by simpa using h141), if_pos (by simpa using h2)]
  · rw [mcF, if_neg (by simpa using h141), if_neg (by simpa using h2)]

/-- What valid.Body tells. -/
def bodF (V : VEnv) (l : List Ins) : Int × Nat := if mcF (checkF mayI l) ≠ 0 then (mcF (checkF mayI l), 0) else bodyV V l

theorem mayI_res {x : Ins} (h : mayI x = true) : resI x = true := by
  obtain ⟨op, r, a, b, nn, tg, ll, le⟩ := x
  unfold mayI mayF at h
  simp only [Bool.and_eq_true, Bool.not_eq_true', decide_eq_false_iff_not] at h
  obtain ⟨_, h1, h2, _⟩ := h
  show decide (0 ≤ r ∧ r ≤ 1) = true
  rw [decide_eq_true_eq]
  omega

mutual
theorem okI_mono {p q : Ins → Bool} (h : ∀ x, p x = true → q x = true) : ∀ x : Ins, okI p x = true → okI q x = true
  | .mk op r a b n tags l e, hx => by
    simp only [okI, Bool.and_eq_true] at hx ⊢
    exact ⟨h _ hx.1, okL_mono h l hx.2.1, okL_mono h e hx.2.2⟩
theorem okL_mono {p q : Ins → Bool} (h : ∀ x, p x = true → q x = true) : ∀ l : List Ins, okL p l = true → okL q l = true
  | [], _ => rfl
  | x :: r, hx => by
    simp only [okL, Bool.and_eq_true] at hx ⊢
    exact ⟨okI_mono h x hx.1, okL_mono h r hx.2⟩
end

theorem fit_of {l : List Ins} (hw : wfL l) (h : mcF (checkF mayI l) = 0) : Fit l 0 1 := by
  by_cases h1 : okL mayI l = false
  · rw [show checkF mayI l = 2 by unfold checkF; rw [if_pos h1]] at h
    exact absurd h (by decide)
  by_cases h2 : 262144 < numL l ∨ 16384 < tagL l ∨ 900 < depL 1 l
  · rw [show checkF mayI l = 141 by unfold checkF; rw [if_neg h1, if_pos h2]] at h
    exact absurd h (by decide)
  · exact ⟨okL_mono (fun x => mayI_res) l (by simpa using h1), hw, by omega, by omega, by omega⟩

theorem body_does {lo : Nat} {l : List Ins} (h3 : lo ≤ 50000) (h : numL l ≤ 100000000000) (hw : wfL l) :
    Does Tryz.prog env 8 [.agg (rmD 0 0 lo l).cells, sI .i64 1] [] (.tup [sI .i64 (bodF (rV 0 0 lo) l).1, sI .i64 ((bodF (rV 0 0 lo) l).2 : Nat)]) [] := by
  have hm := mck_does (l := l) h3 h
  refine does_of_tree names (bod_tree (rmD 0 0 lo l) 1 (mcF (checkF mayI l)) (bodF (rV 0 0 lo) l).1 ((bodF (rV 0 0 lo) l).2 : Nat)) ?_
  simp only [bodTree, Tree.ok]
  refine ⟨hm, fun q => ?_, fun q => ?_⟩
  · have q : mcF (checkF mayI l) ≠ 0 := by simpa using q
    simp only [bodF, if_pos q]
    rfl
  · have q : mcF (checkF mayI l) = 0 := by simpa using q
    have hb : bodF (rV 0 0 lo) l = bodyV (rV 0 0 lo) l := by unfold bodF; rw [if_neg (by simpa using q)]
    rw [hb]
    first | exact ⟨rlook (by decide) (by decide) (by omega) (fit_of hw q), rfl⟩ | exact ⟨rlook (by decide) (by decide) (by omega) (fit_of hw q), trivial⟩

/-- The law's list. -/
def dIns : Ins := .mk 0 0 0 0 0 [] [] []
def pIns : Ins := .mk 26 0 0 0 0 [] [] []
def dList (x : Ins) : List Ins := [dIns, x, dIns, pIns, pIns]
def flat0 (op : Int) : List PV := [.sc (.int .i64 op), .sc (.int .i64 0), .sc (.int .u32 0), .sc (.int .u32 0), .sc (.int .i32 0), .ps 0 0 [], .ps 0 0 [], .ps 0 0 []]

theorem flat0_le (op : Int) : PleL (flat0 op) (encI (.mk op 0 0 0 0 [] [] [])) := ⟨.refl _, .refl _, .refl _, .refl _, .refl _, .nil, .nil, .nil, trivial⟩

theorem dList_le (x : Ins) : PleL (flat0 0 ++ (encI x ++ (flat0 0 ++ (flat0 26 ++ (flat0 26 ++ []))))) (encL (dList x)) :=
  (flat0_le 0).append ((PleL.refl _).append ((flat0_le 0).append ((flat0_le 26).append ((flat0_le 26).append trivial))))

theorem popV_dead {q k n : Nat} {f : Nat → VR} : popV q k n true f = f (n - k) := by unfold popV; rw [if_neg (by simp)]

/-- What may be wrong with an instruction behind an Unreachable. -/
theorem dead_one (V : VEnv) (op r a b nn : Int) (n c : Nat) (hr : 0 ≤ r ∧ r ≤ 1) :
    (∃ n1 d1, valI V [0] (.mk op r a b nn [] [] []) n true c = .ok n1 d1 c) ∨ (∃ e, valI V [0] (.mk op r a b nn [] [] []) n true c = .bad e c ∧ (e = 6 ∨ e = 212 ∨ e = 211 ∨ (e = 200 ∧ (op = 2 ∨ op = 3 ∨ op = 4)))) := by
  have hr2 : r = 0 ∨ r = 1 := by omega
  simp only [valI]
  by_cases o0 : op = 0
  · rw [if_pos o0]; exact .inl ⟨_, _, rfl⟩
  rw [if_neg o0]
  by_cases o2 : op = 2 ∨ op = 3
  · rw [if_pos o2]
    simp only [valL]
    rcases hr2 with rfl | rfl
    · exact .inl ⟨_, _, rfl⟩
    · exact .inr ⟨200, rfl, .inr (.inr (.inr ⟨rfl, by omega⟩))⟩
  rw [if_neg o2]
  by_cases o4 : op = 4
  · rw [if_pos o4, popV_dead]
    simp only [valL]
    rcases hr2 with rfl | rfl
    · exact .inl ⟨_, _, rfl⟩
    · exact .inr ⟨200, rfl, .inr (.inr (.inr ⟨rfl, by omega⟩))⟩
  rw [if_neg o4]
  unfold flatV
  split
  · split
    · exact .inr ⟨6, rfl, .inl rfl⟩
    · rw [popV_dead]; exact .inl ⟨_, _, rfl⟩
  split
  · split
    · exact .inr ⟨6, rfl, .inl rfl⟩
    · rw [popV_dead, popV_dead]; exact .inl ⟨_, _, rfl⟩
  split
  · unfold tabV
    simp only [List.all_nil, Bool.true_eq_false, if_false, if_true]
    split
    · rename_i e he
      split at he
      · cases he; exact .inr ⟨6, rfl, .inl rfl⟩
      · cases he
    · rw [popV_dead, popV_dead]; exact .inl ⟨_, _, rfl⟩
  split
  · rw [popV_dead]; exact .inl ⟨_, _, rfl⟩
  split
  · split
    · exact .inr ⟨6, rfl, .inl rfl⟩
    · rw [popV_dead]; exact .inl ⟨_, _, rfl⟩
  split
  · split
    · exact .inr ⟨6, rfl, .inl rfl⟩
    · rw [popV_dead, popV_dead]; exact .inl ⟨_, _, rfl⟩
  split
  · rename_i hne
    refine .inr ⟨nameV V op a, rfl, ?_⟩
    unfold nameV at hne ⊢
    split
    · split
      · simp_all
      · exact .inl rfl
    split
    · split
      · simp_all
      · exact .inr (.inl rfl)
      · exact .inl rfl
    split
    · split
      · simp_all
      · exact .inl rfl
    split
    · split
      · simp_all
      · exact .inl rfl
    split
    · split
      · split
        · exact .inr (.inr (.inl rfl))
        · simp_all
      · exact .inl rfl
    · simp_all
  · rw [popV_dead]; exact .inl ⟨_, _, rfl⟩

theorem wfI_flat (op : Int) (h : (Lit.int .i64 op).wf = true) : wfI (.mk op 0 0 0 0 [] [] []) :=
  ⟨h, rfl, rfl, rfl, rfl, ⟨Nat.zero_le _, fun _ h => by cases h⟩, ⟨Nat.zero_le _, trivial⟩, Nat.zero_le _, trivial⟩

theorem dList_wf {x : Ins} (hw : wfI x) : wfL (dList x) := ⟨wfI_flat 0 rfl, hw, wfI_flat 0 rfl, wfI_flat 26 rfl, wfI_flat 26 rfl, trivial⟩

theorem dead_law (op r a b nn : Int) (hw : wfI (.mk op r a b nn [] [] [])) {E : Int} {A : Nat} (h : bodF (rV 0 0 3) (dList (.mk op r a b nn [] [] [])) = (E, A)) :
    E = 0 ∨ (A = 2 ∧ (E = 6 ∨ E = 212 ∨ E = 211 ∨ (E = 200 ∧ (op = 2 ∨ op = 3 ∨ op = 4)))) ∨ (A = 0 ∧ (E = 2 ∨ E = 141)) := by
  unfold bodF at h
  by_cases hc : mcF (checkF mayI (dList (.mk op r a b nn [] [] []))) = 0
  · rw [if_neg (by simpa using hc)] at h
    have hfit := fit_of (l := dList (.mk op r a b nn [] [] [])) (dList_wf hw) hc
    have hres := hfit.res
    simp only [dList, okL, Bool.and_eq_true] at hres
    have hx := hres.2.1
    simp only [okI, Bool.and_eq_true] at hx
    have hr : 0 ≤ r ∧ r ≤ 1 := of_decide_eq_true hx.1
    unfold bodyV at h
    have e1 : valL (rV 0 0 3) [(rV 0 0 3).ret] (dList (.mk op r a b nn [] [] [])) 0 false 0 = (valI (rV 0 0 3) [0] (.mk op r a b nn [] [] []) 0 true 2).and fun _ _ c => .ok 0 true (c + 3) := by
      show valL (rV 0 0 3) [0] [dIns, .mk op r a b nn [] [] [], dIns, pIns, pIns] 0 false 0 = _
      rw [valL_cons]
      have d1 : ∀ n d c, valI (rV 0 0 3) [0] dIns n d c = .ok 0 true c := fun n d c => rfl
      have p1 : ∀ c, valI (rV 0 0 3) [0] pIns 0 true c = .ok 0 true c := fun c => rfl
      rw [d1]
      show valL (rV 0 0 3) [0] [.mk op r a b nn [] [] [], dIns, pIns, pIns] 0 true 1 = _
      rw [valL_cons]
      cases valI (rV 0 0 3) [0] (.mk op r a b nn [] [] []) 0 true (1 + 1) with
      | bad e q => rfl
      | ok n d c =>
        show valL (rV 0 0 3) [0] [dIns, pIns, pIns] n d c = .ok 0 true (c + 3)
        rw [valL_cons, d1]
        show valL (rV 0 0 3) [0] [pIns, pIns] 0 true (c + 1) = .ok 0 true (c + 3)
        rw [valL_cons, p1]
        show valL (rV 0 0 3) [0] [pIns] 0 true (c + 1 + 1) = .ok 0 true (c + 3)
        rw [valL_cons, p1]
        rfl
    rw [e1] at h
    rcases dead_one (rV 0 0 3) op r a b nn 0 2 hr with ⟨n1, d1, h1⟩ | ⟨e, h1, h2⟩
    · rw [h1] at h
      cases h
      exact .inl rfl
    · rw [h1] at h
      cases h
      exact .inr (.inl ⟨rfl, h2⟩)
  · rw [if_pos (by simpa using hc)] at h
    cases h
    refine .inr (.inr ⟨rfl, ?_⟩)
    unfold mcF at hc ⊢
    split
    · exact .inr rfl
    · split
      · exact .inl rfl
      · simp_all

/-- The law. -/
theorem ld_does (x : Ins) (hw : wfI x) : Does Tryz.prog env 4 [aggX x] [] (sB true) [] := by
  obtain ⟨op, r, a, b, nn, tg, ll, le⟩ := x
  have haw : Does Tryz.prog env 12 [] [] (sB true) [] := Go.Am.Does.env Awdoes fun _ _ q => q
  refine does_of_tree names (ldd_tree op r a b nn tg ll le (bodF (rV 0 0 3) (dList (.mk op r a b nn [] [] []))).1 ((bodF (rV 0 0 3) (dList (.mk op r a b nn [] [] []))).2 : Nat)) ?_
  simp only [lddTree, Tree.ok, implies_true, true_and]
  refine ⟨haw, fun h1 h2 h3 => ?_⟩
  have z1 : ll = [] := List.eq_nil_of_length_eq_zero (by simp only [decide_eq_false_iff_not] at h1; omega)
  have z2 : le = [] := List.eq_nil_of_length_eq_zero (by simp only [decide_eq_false_iff_not] at h2; omega)
  have z3 : tg = [] := List.eq_nil_of_length_eq_zero (by simp only [decide_eq_false_iff_not] at h3; omega)
  subst z1; subst z2; subst z3
  have hbd := body_does (lo := 3) (l := dList (.mk op r a b nn [] [] [])) (by decide) (by show 5 ≤ 100000000000; decide) (dList_wf hw)
  have hglob : PleL [.sc (.bool true), .ps 1 8 (flat0 65), .sc (.bool false), .ps 1 8 (flat0 65)] [.sc (.bool true), .ps 1 8 con0, .sc (.bool false), .ps 1 8 con0] :=
    ⟨.refl _, .ps ⟨.refl _, .refl _, .refl _, .refl _, .refl _, .nil, .nil, .nil, trivial⟩, .refl _, .ps ⟨.refl _, .refl _, .refl _, .refl _, .refl _, .nil, .nil, .nil, trivial⟩, trivial⟩
  refine ⟨Does.lent (m := [.tok, .tok]) hbd ?_, ?_⟩
  · refine ⟨Ale.agg ?_, Ale.p (.refl _), trivial⟩
    exact ⟨Ale.os (.refl _), Ale.os (.refl _), Ale.os (.ps ⟨.refl _, .refl _, .nil (k := 8), .refl _, .refl _, .ps (dList_le (.mk op r a b nn [] [] [])), trivial⟩), Ale.os (.refl _), Ale.os (.refl _), Ale.os (.ps hglob), Ale.os .nil, Ale.p (.refl _), Ale.p (.refl _), Ale.os .nil, Ale.os .nil, trivial⟩
  have hlaw := dead_law op r a b nn hw (E := (bodF (rV 0 0 3) (dList (.mk op r a b nn [] [] []))).1) (A := (bodF (rV 0 0 3) (dList (.mk op r a b nn [] [] []))).2) rfl
  generalize bodF (rV 0 0 3) (dList (.mk op r a b nn [] [] [])) = EA at hlaw
  obtain ⟨E, A⟩ := EA
  simp only at hlaw ⊢
  rcases hlaw with rfl | ⟨rfl, rfl | rfl | rfl | ⟨rfl, rfl | rfl | rfl⟩⟩ | ⟨rfl, rfl | rfl⟩ <;> simp

end Go.Proofs.YtgbphddecpjlhaaGreatDoor.N
end

section
set_option linter.unusedVariables false
namespace Go.Am
open Go.RowKit

/-- All cells that there are. -/
def heapG (w : World) : Gh := bare fun c o => ∃ v, w.cell? ⟨c, o, none⟩ = some v

/-- What is told in the caller's memory is told to the call in its own words. -/
def Rd (m : Mem) (a b : AV) : Prop := ∀ (g : Gh) (w : World) (v : Value), Rel g m w → VA g w a v → VA (heapG w) w b v

section
variable {P : Program} {E : Env} {g : Gh} {m : Mem} {w : World}

theorem VP.all (h : Rel g m w) {x : PV} {v : Value} (hv : VP g w x v) : VP (heapG w) w x v := hv.mono fun c o p => ⟨h.there c o p, rfl⟩

theorem Rd.p {x y : PV} (h : Ple x y) : Rd m (.p x) (.p y) := fun g w v hr hv => by
  cases hv with
  | p _ _ hv => exact .p _ _ (h _ _ _ (hv.all hr))

theorem Rd.os {tok : Option Nat} {n z : Nat} {cs : List PV} {y : PV} (h : Ple (.ps n z cs) y) : Rd m (.os tok n z cs) (.p y) := fun g w v hr hv => by
  cases hv with
  | os _ _ _ _ a cap hv _ => exact .p _ _ (h _ _ _ (hv.all hr))

theorem Rd.list {l l' : List AV} (h : All2 (Rd m) l l') {vs : List Value} (hr : Rel g m w) (hv : VAs g w l vs) : VAs (heapG w) w l' vs := by
  induction l generalizing l' vs with
  | nil => cases l' <;> cases vs <;> first | trivial | exact h.elim | exact hv.elim
  | cons a l ih =>
    cases l' with
    | nil => exact h.elim
    | cons b l' => cases vs with
      | nil => exact hv.elim
      | cons x vs => exact ⟨h.1 g w x hr hv.1, ih h.2 hv.2⟩

theorem Rd.agg {l l' : List AV} (h : All2 (Rd m) l l') : Rd m (.agg l) (.agg l') := fun g w v hr hv => by
  cases hv with
  | agg _ cs hl hc => exact VA.aggs.2 (Rd.list h hr (All2.of_get hl hc))

/-- A list in a block of the caller's. -/
theorem Rd.ms {b n z : Nat} {t : TypeId} {q : Bool} {X Y : List PV} (hb : m[b]? = some (.ob (.gr t q) (X.map .p))) (hX : PleL X Y) (hn : Y.length = n * z) (hz : 1 ≤ z) : Rd m (.ms b 0 n z none) (.p (.ps n z Y)) := fun g w v hr hv => by
  cases hv with
  | mg _ _ _ _ cap c h hc hh =>
    obtain ⟨c', ob, vs, h1, h2, h3, h4, h5, h6⟩ := hr.obs b _ _ hb
    rw [h] at h1
    obtain rfl := Option.some.inj h1
    obtain ⟨cs, e, fr, rfl, rfl, _, k1, k2, k3⟩ := h4
    have l1 : X.length = Y.length := All2.len hX
    have l2 : X.length = vs.length := by have := All2.len h3; simpa using this
    have hcell : ∀ k, w.cell? ⟨c, k, none⟩ = cs[k]? := fun k => by simp [World.cell?, h2]
    have hk : ∀ k (hk : k < Y.length), ∃ u, cs[k]? = some u ∧ u.oneCell' = true ∧ VP (heapG w) w Y[k] u := by
      intro k hk
      have hkc : k < cs.size := by omega
      refine ⟨cs[k], Array.getElem?_eq_getElem hkc, k3 _ (by simp), ?_⟩
      have hv := All2.get h3 k (by simp; omega) (by omega)
      have e1 : vs[k]'(by omega) = cs[k] := by
        have : vs[k]? = (cs.toList.take vs.length)[k]? := by rw [← k1]
        rw [List.getElem?_take_of_lt (by omega), List.getElem?_eq_getElem (by omega)] at this
        simpa [hkc] using this
      rw [e1] at hv
      simp only [List.getElem_map] at hv
      cases hv with
      | p _ _ hv => exact All2.get hX k (by omega) hk _ _ _ (hv.all hr)
    refine .p _ _ (.ps n z Y c 0 cap (fun k => cs.getD k default) hn hc hz (fun k hk' => ?_) fun k hk' => ?_)
    · obtain ⟨u, u1, u2, u3⟩ := hk k hk'
      have e2 : cs.getD k default = u := by
        obtain ⟨q1, q2⟩ := Array.getElem?_eq_some_iff.1 u1
        simp [Array.getD, q1, q2]
      rw [e2, Nat.zero_add, hcell]
      exact ⟨⟨u, by rw [hcell]; exact u1⟩, u1, u2⟩
    · obtain ⟨u, u1, u2, u3⟩ := hk k hk'
      have e2 : cs.getD k default = u := by
        obtain ⟨q1, q2⟩ := Array.getElem?_eq_some_iff.1 u1
        simp [Array.getD, q1, q2]
      rw [e2]
      exact u3

/-- A heap that has what it had. -/
theorem Rel.later (h : Rel g m w) {w' : World} (hk : ∀ c, c < w.heap.size → w'.heap[c]? = w.heap[c]?) : Rel g m w' := by
  have hp : ∀ c o, g.pure c o → g.pure c o ∧ w'.cell? ⟨c, o, none⟩ = w.cell? ⟨c, o, none⟩ := fun c o p => ⟨p, World.cell?_of_block (hk c (h.pure_lt p))⟩
  have ext : Ext g w g w' := ⟨fun i c e => ⟨e, rfl, rfl⟩, hp⟩
  have at' : ∀ {c : Nat} {o : Obj}, w.heap[c]? = some o → w'.heap[c]? = some o := fun {c o} e => by
    have : c < w.heap.size := by
      rcases Nat.lt_or_ge c w.heap.size with q | q
      · exact q
      · simp [Array.getElem?_eq_none q] at e
    rw [hk c this]; exact e
  refine ⟨h.far, h.free, fun i b l hi hl => ?_, fun i c hi hc => ?_, h.inj, fun c o p => ?_, fun i k l hi => ?_⟩
  · obtain ⟨c, cs, e, n, k1, k2, k3, k4, k5⟩ := h.cells i b l hi hl
    exact ⟨c, cs, e, n, k1, at' k2, k3, k4.mono ext, k5⟩
  · obtain ⟨cs, e, n, k1, k2⟩ := h.tok i c hi hc
    exact ⟨cs, e, n, at' k1, k2⟩
  · obtain ⟨v, hv⟩ := h.there c o p
    exact ⟨v, (hp c o p).2.trans hv⟩
  · obtain ⟨c, ob, vs, k1, k2, k3, k4⟩ := h.obs i k l hi
    exact ⟨c, ob, vs, k1, at' k2, VAs.mono ext k3, k4⟩

/-- A call that only reads what the caller has. -/
theorem Does.reads {f : FuncId} {args args' : List AV} {v : AV} (h : Does P E f args' [] v []) (ha : All2 (Rd m) args args') (hv : ∀ g w g' w' x, VA g w v x → VA g' w' v x) : Does P E f args m v m := by
  obtain ⟨hf, h⟩ := h
  refine ⟨hf, fun g w cargs cs hr hva hg => ?_⟩
  obtain ⟨w', g1, cv, fr, h1, h2, h3, h4, h5, h6, h7, h8⟩ := h (heapG w) w cargs cs (Rel.bare fun _ _ p => p) (Rd.list ha hr hva) (hg.mono fun c o p => ⟨hr.there c o p, rfl⟩)
  have keep : ∀ c, c < w.heap.size → w'.heap[c]? = w.heap[c]? := fun c hc => h6.keep c hc (by rintro ⟨i, b, hi, _⟩; simp at hi)
  exact ⟨w', g, cv, fr, h1, h2, h3, hv _ _ _ _ _ h4, hr.later keep, ⟨h6.size, fun c hc _ => keep c hc, fun c o p => ⟨p, World.cell?_of_block (keep c (hr.pure_lt p))⟩, fun _ _ p => .inl p, fun _ p => .inl p, h6.os, h6.tape, h6.output⟩, fun k c _ hc => ⟨hc, rfl, rfl⟩, Nat.le_refl _⟩

/-- A pair of numbers is told the same everywhere. -/
theorem VA.ints {g g' : Gh} {w w' : World} {a b : Value} {x : Value} (h : VA g w (.tup [.p (.sc a), .p (.sc b)]) x) : VA g' w' (.tup [.p (.sc a), .p (.sc b)]) x := by
  cases h with
  | tup _ cs hl hc =>
    have hv : VAs g w [.p (.sc a), .p (.sc b)] cs.toList := All2.of_get hl hc
    refine VA.tups.2 ?_
    generalize cs.toList = vs at hv
    match vs, hv with
    | [u, t], hv =>
      obtain ⟨h1, h2, _⟩ := hv
      cases h1 with
      | p _ _ h1 => cases h1 with
        | sc => cases h2 with
          | p _ _ h2 => cases h2 with
            | sc => exact ⟨.p _ _ (.sc _), .p _ _ (.sc _), trivial⟩

end
end Go.Am
end

section
set_option linter.unusedSimpArgs false
set_option linter.unusedVariables false
namespace Go.Proofs.YtgbphddecpjlhaaGreatDoor.N
open Go Go.Am
def insCall (_ : List Ins) (_ _ _ : Int) (R : List AV → Int) (f : FuncId) (args : List AV) (m : Mem) : Option (AV × Mem) := cond (Nat.beq f 6) (some (sI .i64 (R args), m)) none

/- ins: 15 steps -/
noncomputable def icnOrc : Orc := orcL noCall noLed [(6, 0)] [] []
def icnSc : Sc := .fin
noncomputable def icnTree (l : List Ins) (most : Int) : Tree :=
  (.at (bodyCfg Tryz.prog env 6 0 [AV.p (PV.ps l.length 8 (encL l)), AV.p (PV.sc (Value.int IntKind.i64 most)), AV.p (PV.sc (Value.int IntKind.i64 0)), AV.p (PV.sc (Value.int IntKind.i64 0))] ([]) 0 58))
theorem icn_tree (l : List Ins) (most : Int) : growF Tryz.prog env icnOrc 1000000 6 ([aL l, sI IntKind.i64 most]) ([]) icnSc = icnTree l most := by kernel_rfl

/- insl: 133 steps -/
noncomputable def icnlOrc (l : List Ins) (most : Int) (n : Int) (i : Int) (R : List AV → Int) : Orc := orcL (insCall l most n i R) noLed [(6, 0)] [(6, 4, 5), (6, 0, 1), (6, 0, 2), (6, 0, 3)] [(6, 6, 4), (6, 6, 6), (6, 8, 3), (6, 8, 5), (6, 10, 3), (6, 10, 5)]
def icnlSc : Sc := (.fork (.fork (.fork .fin (.no .fin)) .fin) (.lit .fin))
noncomputable def icnlTree (l : List Ins) (most : Int) (n : Int) (i : Int) (R : List AV → Int) : Tree :=
  (.test (decide (i < (↑l.length : Int)))
   (.test (decide (n ≤ most))
    (.must (inB i l.length && true && true)
     (.must (isPs ((encL l).getD (i.toNat * 8 + 5) PV.bad) && true)
      (.test (decide (IntKind.i64.wrap (IntKind.i64.wrap (n + 1) + bif true then Min.min (↑(psLen ((encL l).getD (i.toNat * 8 + 5) PV.bad)) : Int) most else Max.max (↑(psLen ((encL l).getD (i.toNat * 8 + 5) PV.bad)) : Int) most) ≤ most))
       (.must (inB i l.length && true && true)
        (.must (isPs ((encL l).getD (i.toNat * 8 + 6) PV.bad) && true)
         (.call ⟨6, [AV.p (PV.ps (psLen ((encL l).getD (i.toNat * 8 + 6) PV.bad)) (psSz ((encL l).getD (i.toNat * 8 + 6) PV.bad)) (psCells ((encL l).getD (i.toNat * 8 + 6) PV.bad))), AV.p (PV.sc (Value.int IntKind.i64 (IntKind.i64.wrap (most - IntKind.i64.wrap (IntKind.i64.wrap (n + 1) + bif true then Min.min (↑(psLen ((encL l).getD (i.toNat * 8 + 5) PV.bad)) : Int) most else Max.max (↑(psLen ((encL l).getD (i.toNat * 8 + 5) PV.bad)) : Int) most)))))], [], AV.p (PV.sc (Value.int IntKind.i64 (R [AV.p (PV.ps (psLen ((encL l).getD (i.toNat * 8 + 6) PV.bad)) (psSz ((encL l).getD (i.toNat * 8 + 6) PV.bad)) (psCells ((encL l).getD (i.toNat * 8 + 6) PV.bad))), AV.p (PV.sc (Value.int IntKind.i64 (IntKind.i64.wrap (most - IntKind.i64.wrap (IntKind.i64.wrap (n + 1) + bif true then Min.min (↑(psLen ((encL l).getD (i.toNat * 8 + 5) PV.bad)) : Int) most else Max.max (↑(psLen ((encL l).getD (i.toNat * 8 + 5) PV.bad)) : Int) most)))))]))), []⟩
          (.test (decide (IntKind.i64.wrap (IntKind.i64.wrap (IntKind.i64.wrap (n + 1) + bif true then Min.min (↑(psLen ((encL l).getD (i.toNat * 8 + 5) PV.bad)) : Int) most else Max.max (↑(psLen ((encL l).getD (i.toNat * 8 + 5) PV.bad)) : Int) most) + R [AV.p (PV.ps (psLen ((encL l).getD (i.toNat * 8 + 6) PV.bad)) (psSz ((encL l).getD (i.toNat * 8 + 6) PV.bad)) (psCells ((encL l).getD (i.toNat * 8 + 6) PV.bad))), AV.p (PV.sc (Value.int IntKind.i64 (IntKind.i64.wrap (most - IntKind.i64.wrap (IntKind.i64.wrap (n + 1) + bif true then Min.min (↑(psLen ((encL l).getD (i.toNat * 8 + 5) PV.bad)) : Int) most else Max.max (↑(psLen ((encL l).getD (i.toNat * 8 + 5) PV.bad)) : Int) most)))))]) ≤ most))
           (.must (inB i l.length && true && true)
            (.must (isPs ((encL l).getD (i.toNat * 8 + 7) PV.bad) && true)
             (.call ⟨6, [AV.p (PV.ps (psLen ((encL l).getD (i.toNat * 8 + 7) PV.bad)) (psSz ((encL l).getD (i.toNat * 8 + 7) PV.bad)) (psCells ((encL l).getD (i.toNat * 8 + 7) PV.bad))), AV.p (PV.sc (Value.int IntKind.i64 (IntKind.i64.wrap (most - IntKind.i64.wrap (IntKind.i64.wrap (IntKind.i64.wrap (n + 1) + bif true then Min.min (↑(psLen ((encL l).getD (i.toNat * 8 + 5) PV.bad)) : Int) most else Max.max (↑(psLen ((encL l).getD (i.toNat * 8 + 5) PV.bad)) : Int) most) + R [AV.p (PV.ps (psLen ((encL l).getD (i.toNat * 8 + 6) PV.bad)) (psSz ((encL l).getD (i.toNat * 8 + 6) PV.bad)) (psCells ((encL l).getD (i.toNat * 8 + 6) PV.bad))), AV.p (PV.sc (Value.int IntKind.i64 (IntKind.i64.wrap (most - IntKind.i64.wrap (IntKind.i64.wrap (n + 1) + bif true then Min.min (↑(psLen ((encL l).getD (i.toNat * 8 + 5) PV.bad)) : Int) most else Max.max (↑(psLen ((encL l).getD (i.toNat * 8 + 5) PV.bad)) : Int) most)))))])))))], [], AV.p (PV.sc (Value.int IntKind.i64 (R [AV.p (PV.ps (psLen ((encL l).getD (i.toNat * 8 + 7) PV.bad)) (psSz ((encL l).getD (i.toNat * 8 + 7) PV.bad)) (psCells ((encL l).getD (i.toNat * 8 + 7) PV.bad))), AV.p (PV.sc (Value.int IntKind.i64 (IntKind.i64.wrap (most - IntKind.i64.wrap (IntKind.i64.wrap (IntKind.i64.wrap (n + 1) + bif true then Min.min (↑(psLen ((encL l).getD (i.toNat * 8 + 5) PV.bad)) : Int) most else Max.max (↑(psLen ((encL l).getD (i.toNat * 8 + 5) PV.bad)) : Int) most) + R [AV.p (PV.ps (psLen ((encL l).getD (i.toNat * 8 + 6) PV.bad)) (psSz ((encL l).getD (i.toNat * 8 + 6) PV.bad)) (psCells ((encL l).getD (i.toNat * 8 + 6) PV.bad))), AV.p (PV.sc (Value.int IntKind.i64 (IntKind.i64.wrap (most - IntKind.i64.wrap (IntKind.i64.wrap (n + 1) + bif true then Min.min (↑(psLen ((encL l).getD (i.toNat * 8 + 5) PV.bad)) : Int) most else Max.max (↑(psLen ((encL l).getD (i.toNat * 8 + 5) PV.bad)) : Int) most)))))])))))]))), []⟩
              (.at (bodyCfg Tryz.prog env 6 0 [AV.p (PV.ps l.length 8 (encL l)), AV.p (PV.sc (Value.int IntKind.i64 most)), AV.p (PV.sc (Value.int IntKind.i64 (IntKind.i64.wrap (IntKind.i64.wrap (IntKind.i64.wrap (IntKind.i64.wrap (n + 1) + bif true then Min.min (↑(psLen ((encL l).getD (i.toNat * 8 + 5) PV.bad)) : Int) most else Max.max (↑(psLen ((encL l).getD (i.toNat * 8 + 5) PV.bad)) : Int) most) + R [AV.p (PV.ps (psLen ((encL l).getD (i.toNat * 8 + 6) PV.bad)) (psSz ((encL l).getD (i.toNat * 8 + 6) PV.bad)) (psCells ((encL l).getD (i.toNat * 8 + 6) PV.bad))), AV.p (PV.sc (Value.int IntKind.i64 (IntKind.i64.wrap (most - IntKind.i64.wrap (IntKind.i64.wrap (n + 1) + bif true then Min.min (↑(psLen ((encL l).getD (i.toNat * 8 + 5) PV.bad)) : Int) most else Max.max (↑(psLen ((encL l).getD (i.toNat * 8 + 5) PV.bad)) : Int) most)))))]) + R [AV.p (PV.ps (psLen ((encL l).getD (i.toNat * 8 + 7) PV.bad)) (psSz ((encL l).getD (i.toNat * 8 + 7) PV.bad)) (psCells ((encL l).getD (i.toNat * 8 + 7) PV.bad))), AV.p (PV.sc (Value.int IntKind.i64 (IntKind.i64.wrap (most - IntKind.i64.wrap (IntKind.i64.wrap (IntKind.i64.wrap (n + 1) + bif true then Min.min (↑(psLen ((encL l).getD (i.toNat * 8 + 5) PV.bad)) : Int) most else Max.max (↑(psLen ((encL l).getD (i.toNat * 8 + 5) PV.bad)) : Int) most) + R [AV.p (PV.ps (psLen ((encL l).getD (i.toNat * 8 + 6) PV.bad)) (psSz ((encL l).getD (i.toNat * 8 + 6) PV.bad)) (psCells ((encL l).getD (i.toNat * 8 + 6) PV.bad))), AV.p (PV.sc (Value.int IntKind.i64 (IntKind.i64.wrap (most - IntKind.i64.wrap (IntKind.i64.wrap (n + 1) + bif true then Min.min (↑(psLen ((encL l).getD (i.toNat * 8 + 5) PV.bad)) : Int) most else Max.max (↑(psLen ((encL l).getD (i.toNat * 8 + 5) PV.bad)) : Int) most)))))])))))])))), AV.p (PV.sc (Value.int IntKind.i64 (IntKind.i64.wrap (i + 1))))] ([]) 0 58)))))
           (.at (bodyCfg Tryz.prog env 6 0 [AV.p (PV.ps l.length 8 (encL l)), AV.p (PV.sc (Value.int IntKind.i64 most)), AV.p (PV.sc (Value.int IntKind.i64 (IntKind.i64.wrap (IntKind.i64.wrap (IntKind.i64.wrap (n + 1) + bif true then Min.min (↑(psLen ((encL l).getD (i.toNat * 8 + 5) PV.bad)) : Int) most else Max.max (↑(psLen ((encL l).getD (i.toNat * 8 + 5) PV.bad)) : Int) most) + R [AV.p (PV.ps (psLen ((encL l).getD (i.toNat * 8 + 6) PV.bad)) (psSz ((encL l).getD (i.toNat * 8 + 6) PV.bad)) (psCells ((encL l).getD (i.toNat * 8 + 6) PV.bad))), AV.p (PV.sc (Value.int IntKind.i64 (IntKind.i64.wrap (most - IntKind.i64.wrap (IntKind.i64.wrap (n + 1) + bif true then Min.min (↑(psLen ((encL l).getD (i.toNat * 8 + 5) PV.bad)) : Int) most else Max.max (↑(psLen ((encL l).getD (i.toNat * 8 + 5) PV.bad)) : Int) most)))))])))), AV.p (PV.sc (Value.int IntKind.i64 (IntKind.i64.wrap (i + 1))))] ([]) 0 58))))))
       (.must (!(decide (IntKind.i64.wrap (IntKind.i64.wrap (n + 1) + bif true then Min.min (↑(psLen ((encL l).getD (i.toNat * 8 + 5) PV.bad)) : Int) most else Max.max (↑(psLen ((encL l).getD (i.toNat * 8 + 5) PV.bad)) : Int) most) ≤ most)))
        (.at (bodyCfg Tryz.prog env 6 0 [AV.p (PV.ps l.length 8 (encL l)), AV.p (PV.sc (Value.int IntKind.i64 most)), AV.p (PV.sc (Value.int IntKind.i64 (IntKind.i64.wrap (IntKind.i64.wrap (n + 1) + bif true then Min.min (↑(psLen ((encL l).getD (i.toNat * 8 + 5) PV.bad)) : Int) most else Max.max (↑(psLen ((encL l).getD (i.toNat * 8 + 5) PV.bad)) : Int) most)))), AV.p (PV.sc (Value.int IntKind.i64 (IntKind.i64.wrap (i + 1))))] ([]) 0 58))))))
    (.out (Out.ret (AV.p (PV.sc (Value.int IntKind.i64 n))) [])))
   (.out (Out.ret (AV.p (PV.sc (Value.int IntKind.i64 n))) [])))
theorem icnl_tree (l : List Ins) (most : Int) (n : Int) (i : Int) (R : List AV → Int) : grow Tryz.prog env (icnlOrc l most n i R) 1000000 true (bodyCfg Tryz.prog env 6 0 ([aL l, sI IntKind.i64 most, sI IntKind.i64 n, sI IntKind.i64 i]) ([]) 0 58) icnlSc atEnd = icnlTree l most n i R := by kernel_rfl


theorem instrs_loop (R : List AV → Int) (hR : ∀ l most, R [aL l, sI .i64 most] = insF l most 0) (l : List Ins) (most : Int) (h0 : 0 ≤ most) (hm : most ≤ 1000000000000) (hl : l.length ≤ maxLen)
    (IH : ∀ x ∈ l, ∀ m' : Int, 0 ≤ m' → m' ≤ most → Does Tryz.prog env 6 [aL x.l, sI .i64 m'] [] (sI .i64 (insF x.l m' 0)) [] ∧ Does Tryz.prog env 6 [aL x.e, sI .i64 m'] [] (sI .i64 (insF x.e m' 0)) []) :
    ∀ (r k : Nat) (n : Int), k + r = l.length → 0 ≤ n → n ≤ 2 * most + 1 → Am.Good Tryz.prog env (bodyCfg Tryz.prog env 6 0 [aL l, sI .i64 most, sI .i64 n, sI .i64 k] [] 0 58) (.ret (sI .i64 (insF (l.drop k) most n)) []) := by
  intro r
  induction r with
  | zero =>
    intro k n hk hn0 hn
    refine good_of_tree names (icnl_tree l most n k R) ?_
    have h1 : l.drop k = [] := List.drop_eq_nil_of_le (by omega)
    have h2 : ¬ ((k : Int) < l.length) := by omega
    simp [icnlTree, Tree.ok, h1, h2, insF]
  | succ r ih =>
    intro k n hk hn0 hn
    refine good_of_tree names (icnl_tree l most n k R) ?_
    have hkl : k < l.length := by omega
    have hgx : l[k]? = some l[k] := List.getElem?_eq_getElem hkl
    have hmem : l[k] ∈ l := List.getElem_mem hkl
    have hd : l.drop k = l[k] :: l.drop (k + 1) := List.drop_eq_getElem_cons hkl
    rw [hd]
    generalize l[k] = x at *
    obtain ⟨op, rs, a, b, nn, tags, ll, le⟩ := x
    have hc := encL_getD hgx
    have c5 : (encL l).getD (k * 8 + 5) .bad = .ps tags.length 1 (encT .u32 tags) := hc 5 (by omega)
    have c6 : (encL l).getD (k * 8 + 6) .bad = .ps ll.length 8 (encL ll) := hc 6 (by omega)
    have c7 : (encL l).getD (k * 8 + 7) .bad = .ps le.length 8 (encL le) := hc 7 (by omega)
    have hML : maxLen = 9223372036854775807 := rfl
    have hw : IntKind.i64.wrap ((k : Int) + 1) = ((k + 1 : Nat) : Int) := by rw [i64In (by omega) (by omega)]; rfl
    have hw1 : IntKind.i64.wrap (n + 1) = n + 1 := i64In (by omega) (by omega)
    have hkI : (k : Int) < (l.length : Int) := by omega
    simp only [icnlTree, Tree.ok, c5, c6, c7, psLen, psSz, psCells, isPs, Int.toNat_natCast, inB, cond_true, hw, hw1]
    refine ⟨fun _ => ⟨fun hnm => ⟨by simp [hkI], rfl, ?_⟩, fun hnm => ?_⟩, fun h => absurd hkI (by simpa using h)⟩
    · have hnm : n ≤ most := by simpa using hnm
      have hIH := IH _ hmem
      simp only [insF, if_pos hnm, insX, Ins.l, Ins.e] at hIH ⊢
      generalize hn1 : n + 1 + min (tags.length : Int) most = n1
      have hr1 : 0 ≤ n1 ∧ n1 ≤ 2 * most + 1 := by omega
      have hw2 : IntKind.i64.wrap n1 = n1 := i64In (by omega) (by omega)
      simp only [hw2]
      have hw3 : IntKind.i64.wrap (most - n1) = most - n1 := i64In (by omega) (by omega)
      simp only [hw3, hR]
      refine ⟨fun h1 => ?_, fun h1 => ?_⟩
      · have h1 : n1 ≤ most := by simpa using h1
        rw [if_pos h1]
        have hb := insF_range ll (most - n1) 0 (by omega) (by omega) (by omega)
        have hw4 : IntKind.i64.wrap (n1 + insF ll (most - n1) 0) = n1 + insF ll (most - n1) 0 := i64In (by omega) (by omega)
        refine ⟨by simp [hkI], rfl, (hIH (most - n1) (by omega) (by omega)).1, ?_⟩
        simp only [hw4]
        generalize hn2 : n1 + insF ll (most - n1) 0 = n2
        have hr2 : 0 ≤ n2 ∧ n2 ≤ 2 * most + 1 := by omega
        have hw5 : IntKind.i64.wrap (most - n2) = most - n2 := i64In (by omega) (by omega)
        simp only [hw5]
        refine ⟨fun h2 => ?_, fun h2 => ?_⟩
        · have h2 : n2 ≤ most := by simpa using h2
          rw [if_pos h2]
          have hb2 := insF_range le (most - n2) 0 (by omega) (by omega) (by omega)
          have hw6 : IntKind.i64.wrap (n2 + insF le (most - n2) 0) = n2 + insF le (most - n2) 0 := i64In (by omega) (by omega)
          refine ⟨by simp [hkI], rfl, (hIH (most - n2) (by omega) (by omega)).2, ?_⟩
          simp only [hw6]
          exact ih (k + 1) _ (by omega) (by omega) (by omega)
        · have h2 : ¬ n2 ≤ most := by simpa using h2
          rw [if_neg h2]
          exact ih (k + 1) n2 (by omega) (by omega) (by omega)
      · have h1 : ¬ n1 ≤ most := by simpa using h1
        rw [if_neg h1, if_neg h1]
        refine ⟨by simpa using h1, ?_⟩
        exact ih (k + 1) n1 (by omega) (by omega) (by omega)
    · have hnm : ¬ n ≤ most := by simpa using hnm
      simp only [insF, if_neg hnm]

theorem aL_inj {l m : List Ins} (h : aL l = aL m) : l = m := by
  simp only [AV.p.injEq, PV.ps.injEq] at h
  exact encL_inj h.2.2

open Classical in
noncomputable def insR (args : List AV) : Int := if h : ∃ l most, args = [aL l, sI .i64 most] then insF h.choose h.choose_spec.choose 0 else 0

theorem insR_eq (l : List Ins) (most : Int) : insR [aL l, sI .i64 most] = insF l most 0 := by
  have h : ∃ l' most', [aL l, sI .i64 most] = [aL l', sI .i64 most'] := ⟨l, most, rfl⟩
  have e := h.choose_spec.choose_spec
  unfold insR
  rw [dif_pos h]
  have e1 := aL_inj (List.cons.inj e).1
  have e2 : most = h.choose_spec.choose := by
    have := (List.cons.inj (List.cons.inj e).2).1
    simpa only [AV.p.injEq, PV.sc.injEq, Value.int.injEq, true_and] using this
  have e : (h.choose, h.choose_spec.choose) = (l, most) := by rw [Prod.mk.injEq]; exact ⟨e1.symm, e2.symm⟩
  exact congrArg (fun q : List Ins × Int => insF q.1 q.2 0) e

theorem instrs_does : ∀ (N : Nat) (l : List Ins) (most : Int), cntL l ≤ N → l.length ≤ maxLen → wfL l → 0 ≤ most → most ≤ 1000000000000 → Does Tryz.prog env 6 [aL l, sI .i64 most] [] (sI .i64 (insF l most 0)) []
  | N, l, most, hN, hl, hw, h0, hm => by
    have IH : ∀ x ∈ l, ∀ m' : Int, 0 ≤ m' → m' ≤ most → Does Tryz.prog env 6 [aL x.l, sI .i64 m'] [] (sI .i64 (insF x.l m' 0)) [] ∧ Does Tryz.prog env 6 [aL x.e, sI .i64 m'] [] (sI .i64 (insF x.e m' 0)) [] := by
      intro x hx m' h0' hm'
      have hc := cntL_mem hx
      have hwx := Go.Am.wfL_mem hw hx
      obtain ⟨op, rs, a, b, nn, tags, ll, le⟩ := x
      simp only [cntI] at hc
      simp only [wfI] at hwx
      match N, hN with
      | 0, hN => omega
      | N + 1, hN => exact ⟨instrs_does N ll m' (by omega) hwx.2.2.2.2.2.2.1.1 hwx.2.2.2.2.2.2.1.2 h0' (by omega), instrs_does N le m' (by omega) hwx.2.2.2.2.2.2.2.1 hwx.2.2.2.2.2.2.2.2 h0' (by omega)⟩
    refine does_of_tree names (icn_tree l most) ?_
    have h := instrs_loop insR insR_eq l most h0 hm hl IH l.length 0 0 (by omega) (by omega) (by omega)
    rw [List.drop_zero] at h
    exact h


end Go.Proofs.YtgbphddecpjlhaaGreatDoor.N
end

section
set_option linter.unusedSimpArgs false
set_option linter.unusedVariables false
namespace Go.Proofs.YtgbphddecpjlhaaGreatDoor.N
open Go Go.Am

/- mckE: 3147 steps -/
noncomputable def mckEOrc : Orc := orcL noCall noLed [] [(63, 0, 2), (74, 2, 11), (103, 0, 2)] []
noncomputable def mckESc (lo : Int) (ck : Int) (l : List Ins) : Sc := (.ans 95 (AV.p (PV.sc (Value.int IntKind.i64 0))) ([]) (.lit (.ans 95 (AV.p (PV.sc (Value.int IntKind.i64 ck))) ([]) (.fork .fin (.ans 95 (AV.p (PV.sc (Value.int IntKind.i64 0))) ([]) (.lit (.ans 95 (AV.p (PV.sc (Value.int IntKind.i64 0))) ([]) (.lit (.lit (.lit (.fork (.lit .fin) (.fork .fin (.ans 95 (AV.p (PV.sc (Value.int IntKind.i64 0))) ([]) (.lit (.ans 95 (AV.p (PV.sc (Value.int IntKind.i64 ck))) ([]) (.fork .fin (.ans 95 (AV.p (PV.sc (Value.int IntKind.i64 0))) ([]) (.lit (.ans 95 (AV.p (PV.sc (Value.int IntKind.i64 0))) ([]) (.lit .fin))))))))))))))))))))
noncomputable def mckETree (lo : Int) (ck : Int) (l : List Ins) : Tree :=
  (.call ⟨95, [AV.p (PV.ps 0 8 [])], [], AV.p (PV.sc (Value.int IntKind.i64 0)), []⟩
   (.call ⟨95, [AV.p (PV.ps l.length 8 (encL l))], [], AV.p (PV.sc (Value.int IntKind.i64 ck)), []⟩
    (.test (ck == 141)
     (.out (Out.ret (AV.p (PV.sc (Value.int IntKind.i64 141))) []))
     (.call ⟨95, [AV.p (PV.ps 1 8 [PV.sc (Value.int IntKind.i64 65), PV.sc (Value.int IntKind.i64 0), PV.sc (Value.int IntKind.u32 0), PV.sc (Value.int IntKind.u32 0), PV.sc (Value.int IntKind.i32 0), PV.ps 0 1 [], PV.ps 0 8 [], PV.ps 0 8 []])], [], AV.p (PV.sc (Value.int IntKind.i64 0)), []⟩
      (.call ⟨95, [AV.p (PV.ps 1 8 [PV.sc (Value.int IntKind.i64 65), PV.sc (Value.int IntKind.i64 0), PV.sc (Value.int IntKind.u32 0), PV.sc (Value.int IntKind.u32 0), PV.sc (Value.int IntKind.i32 0), PV.ps 0 1 [], PV.ps 0 8 [], PV.ps 0 8 []])], [], AV.p (PV.sc (Value.int IntKind.i64 0)), []⟩
       (.test (decide (lo < 0))
        (.out (Out.ret (AV.p (PV.sc (Value.int IntKind.i64 2))) []))
        (.test (decide (lo > 50000))
         (.out (Out.ret (AV.p (PV.sc (Value.int IntKind.i64 2))) []))
         (.call ⟨95, [AV.p (PV.ps 0 8 [])], [], AV.p (PV.sc (Value.int IntKind.i64 0)), []⟩
          (.call ⟨95, [AV.p (PV.ps l.length 8 (encL l))], [], AV.p (PV.sc (Value.int IntKind.i64 ck)), []⟩
           (.test (ck == 2)
            (.out (Out.ret (AV.p (PV.sc (Value.int IntKind.i64 2))) []))
            (.call ⟨95, [AV.p (PV.ps 1 8 [PV.sc (Value.int IntKind.i64 65), PV.sc (Value.int IntKind.i64 0), PV.sc (Value.int IntKind.u32 0), PV.sc (Value.int IntKind.u32 0), PV.sc (Value.int IntKind.i32 0), PV.ps 0 1 [], PV.ps 0 8 [], PV.ps 0 8 []])], [], AV.p (PV.sc (Value.int IntKind.i64 0)), []⟩
             (.call ⟨95, [AV.p (PV.ps 1 8 [PV.sc (Value.int IntKind.i64 65), PV.sc (Value.int IntKind.i64 0), PV.sc (Value.int IntKind.u32 0), PV.sc (Value.int IntKind.u32 0), PV.sc (Value.int IntKind.i32 0), PV.ps 0 1 [], PV.ps 0 8 [], PV.ps 0 8 []])], [], AV.p (PV.sc (Value.int IntKind.i64 0)), []⟩
              (.out (Out.ret (AV.p (PV.sc (Value.int IntKind.i64 0))) []))))))))))))))
theorem mckE_tree (lo : Int) (ck : Int) (l : List Ins) : growF Tryz.prog env mckEOrc 1000000 15 ([AV.agg (rmD 0 1 lo l).cells]) ([]) (mckESc lo ck l) = mckETree lo ck l := by kernel_rfl


theorem mckE_does {lo : Nat} {l : List Ins} (h3 : lo ≤ 50000) (h : numL l ≤ 100000000000) : Does Tryz.prog env 15 [.agg (rmD 0 1 lo l).cells] [] (sI .i64 (mcF (checkF mayI l))) [] := by
  have c0 := chkP [] (by decide)
  have c1 := chkP l h
  have c2 := chkP [.mk 65 0 0 0 0 [] [] []] (by decide)
  rw [ckNil] at c0
  rw [ckCon, conIns_eq] at c2
  refine does_of_tree names (mckE_tree lo (checkF mayI l) l) ?_
  have g1 : decide ((lo : Int) < 0) = false := by simp
  have g2 : decide ((lo : Int) > 50000) = false := by simp; omega
  simp only [mckETree, Tree.ok, g1, g2, Bool.false_eq_true, false_implies, true_implies, true_and]
  refine ⟨c0, c1, fun h141 => ?_, fun h141 => ⟨c2, c2, c0, c1, fun h2 => ?_, fun h2 => ⟨c2, c2, ?_⟩⟩⟩
  · rw [mcF, if_pos (by simpa using h141)]
  · rw [mcF, if_neg (by simpa using h141), if_pos (by simpa using h2)]
  · rw [mcF, if_neg (by simpa using h141), if_neg (by simpa using h2)]

theorem bodyT_does {tr lo : Nat} {l : List Ins} (ht : tr ≤ 1) (h3 : lo ≤ 50000) (h : numL l ≤ 100000000000) (hw : wfL l) :
    Does Tryz.prog env 8 [.agg (rmD 0 tr lo l).cells, sI .i64 1] [] (.tup [sI .i64 (bodF (rV 0 tr lo) l).1, sI .i64 ((bodF (rV 0 tr lo) l).2 : Nat)]) [] := by
  have hm : Does Tryz.prog env 15 [.agg (rmD 0 tr lo l).cells] [] (sI .i64 (mcF (checkF mayI l))) [] := by
    have ht : tr = 0 ∨ tr = 1 := by omega
    rcases ht with rfl | rfl
    · exact mck_does h3 h
    · exact mckE_does h3 h
  refine does_of_tree names (bod_tree (rmD 0 tr lo l) 1 (mcF (checkF mayI l)) (bodF (rV 0 tr lo) l).1 ((bodF (rV 0 tr lo) l).2 : Nat)) ?_
  simp only [bodTree, Tree.ok]
  refine ⟨hm, fun q => ?_, fun q => ?_⟩
  · have q : mcF (checkF mayI l) ≠ 0 := by simpa using q
    simp only [bodF, if_pos q]
    rfl
  · have q : mcF (checkF mayI l) = 0 := by simpa using q
    have hb : bodF (rV 0 tr lo) l = bodyV (rV 0 tr lo) l := by unfold bodF; rw [if_neg (by simpa using q)]
    rw [hb]
    exact ⟨rlook ht (by decide) (by omega) (fit_of hw q), trivial⟩

end Go.Proofs.YtgbphddecpjlhaaGreatDoor.N
end

section
set_option linter.unusedSimpArgs false
set_option linter.unusedVariables false
namespace Go.Am

/-- The same labels, and more. -/
def LabLe (ls ls' : List Nat) : Prop := ∃ q, ls' = ls ++ q

theorem LabLe.get {ls ls' : List Nat} (h : LabLe ls ls') {i k : Nat} (hi : ls[i]? = some k) : ls'[i]? = some k := by
  obtain ⟨q, rfl⟩ := h
  obtain ⟨h1, h2⟩ := List.getElem?_eq_some_iff.1 hi
  rw [List.getElem?_append_left h1, hi]

theorem LabLe.len {ls ls' : List Nat} (h : LabLe ls ls') : ls.length ≤ ls'.length := by obtain ⟨q, rfl⟩ := h; simp
theorem LabLe.cons {ls ls' : List Nat} (h : LabLe ls ls') (k : Nat) : LabLe (k :: ls) (k :: ls') := by obtain ⟨q, rfl⟩ := h; exact ⟨q, rfl⟩

/-- The same words; or no place that is reached, and no more words. -/
def Weak (n : Nat) (d : Bool) (n' : Nat) (d' : Bool) : Prop := (n' = n ∧ d' = d) ∨ (d' = true ∧ n' ≤ n)

theorem Weak.refl (n : Nat) (d : Bool) : Weak n d n d := .inl ⟨rfl, rfl⟩

/-- What is right is right there, too. -/
def Mono (a b : VR) : Prop := ∀ n d c, a = .ok n d c → ∃ n' d' c', b = .ok n' d' c' ∧ Weak n d n' d'

theorem Mono.bad {e : Int} {p : Nat} {b : VR} : Mono (.bad e p) b := fun n d c h => by cases h

theorem Mono.ok {n n' c c' : Nat} {d d' : Bool} (h : Weak n d n' d') : Mono (.ok n d c) (.ok n' d' c') := fun n1 d1 c1 e => by
  cases e
  exact ⟨n', d', c', rfl, h⟩

theorem Mono.pop {p p' k n n' : Nat} {d d' : Bool} {f f' : Nat → VR} (h : Weak n d n' d') (hf : ∀ m m', Weak m d m' d' → Mono (f m) (f' m')) : Mono (popV p k n d f) (popV p' k n' d' f') := by
  unfold popV
  by_cases h1 : n < k ∧ d = false
  · rw [if_pos h1]; exact .bad
  · rw [if_neg h1]
    have h2 : ¬ (n' < k ∧ d' = false) := by
      rcases h with ⟨rfl, rfl⟩ | ⟨rfl, h⟩
      · exact h1
      · simp
    rw [if_neg h2]
    refine hf _ _ ?_
    rcases h with ⟨rfl, rfl⟩ | ⟨rfl, h⟩
    · exact .refl _ _
    · exact .inr ⟨rfl, by omega⟩

theorem Mono.endV {r n n' p p' : Nat} {d d' : Bool} {f f' : VR} (h : Weak n d n' d') (hf : Mono f f') : Mono (endV r n d p f) (endV r n' d' p' f') := by
  unfold Am.endV
  refine Mono.pop h fun m m' hm => ?_
  by_cases h1 : 0 < m
  · rw [if_pos h1]; exact .bad
  · rw [if_neg h1, if_neg (by rcases hm with ⟨rfl, _⟩ | ⟨_, q⟩ <;> omega)]
    exact hf

theorem Weak.add {n n' : Nat} {d d' : Bool} (h : Weak n d n' d') (k : Nat) : Weak (n + k) d (n' + k) d' := by
  rcases h with ⟨rfl, rfl⟩ | ⟨rfl, h⟩
  · exact .refl _ _
  · exact .inr ⟨rfl, by omega⟩

theorem tabV_mono {ls ls' : List Nat} (h : LabLe ls ls') {tags : List Int} {a : Int} {k : Nat} (ht : ∀ t ∈ tags, 0 ≤ t) (e : tabV ls tags a = .inr k) : tabV ls' tags a = .inr k := by
  unfold tabV at e ⊢
  split at e
  · cases e
  rename_i h1
  have h1 : tags.all (fun t => decide (t < ls.length)) = true := by simpa using h1
  have h2 : tags.all (fun t => decide (t < ls'.length)) = true := by
    rw [List.all_eq_true] at h1 ⊢
    intro t hm
    have := h1 t hm
    have := h.len
    simp only [decide_eq_true_eq] at *
    omega
  rw [if_neg (by rw [h2]; simp)]
  split at e
  · cases e
  rename_i k' hk
  rw [h.get hk]
  dsimp only
  split at e
  · rename_i h3
    rw [if_pos]
    · exact e
    · rw [List.all_eq_true] at h3 ⊢
      intro t hm
      have h3 := h3 t hm
      have h4 := List.all_eq_true.1 h1 t hm
      simp only [decide_eq_true_eq] at h4
      have hlt : t.toNat < ls.length := by have := ht t hm; omega
      have e1 : ls'.getD t.toNat 0 = ls.getD t.toNat 0 := by
        rw [List.getD_eq_getElem?_getD, List.getD_eq_getElem?_getD, List.getElem?_eq_getElem hlt, h.get (List.getElem?_eq_getElem hlt)]
      rw [e1]; exact h3
  · cases e

theorem flatV_mono {V : VEnv} {ls ls' : List Nat} (h : LabLe ls ls') {op a : Int} {tags : List Int} {n n' c c' : Nat} {d d' : Bool} (ht : ∀ t ∈ tags, 0 ≤ t) (hw : Weak n d n' d') : Mono (flatV V ls op a tags n d c) (flatV V ls' op a tags n' d' c') := by
  unfold flatV
  by_cases o : op = 12
  · rw [if_pos o, if_pos o]
    cases hk : ls[a.toNat]? with
    | none => exact .bad
    | some k => rw [h.get hk]; exact .pop hw fun _ _ _ => .ok (.refl _ _)
  rw [if_neg o, if_neg o]; clear o
  by_cases o : op = 13
  · rw [if_pos o, if_pos o]
    cases hk : ls[a.toNat]? with
    | none => exact .bad
    | some k => rw [h.get hk]; exact .pop hw fun _ _ q => .pop q fun _ _ q => .ok (q.add _)
  rw [if_neg o, if_neg o]; clear o
  by_cases o : op = 14
  · rw [if_pos o, if_pos o]
    cases hk : tabV ls tags a with
    | inl e => exact .bad
    | inr k => rw [tabV_mono h ht hk]; exact .pop hw fun _ _ q => .pop q fun _ _ q => .ok (.refl _ _)
  rw [if_neg o, if_neg o]; clear o
  by_cases o : op = 15
  · rw [if_pos o, if_pos o]; exact .pop hw fun _ _ _ => .ok (.refl _ _)
  rw [if_neg o, if_neg o]; clear o
  by_cases o : op = 16
  · rw [if_pos o, if_pos o]
    cases V.ty a with
    | none => exact .bad
    | some pr => exact .pop hw fun _ _ q => .ok (q.add _)
  rw [if_neg o, if_neg o]; clear o
  by_cases o : op = 17
  · rw [if_pos o, if_pos o]
    cases V.ind a with
    | none => exact .bad
    | some pr => exact .pop hw fun _ _ q => .pop q fun _ _ q => .ok (q.add _)
  rw [if_neg o, if_neg o]; clear o
  by_cases o : nameV V op a ≠ 0
  · rw [if_pos o, if_pos o]; exact .bad
  rw [if_neg o, if_neg o]
  exact .pop hw fun _ _ q => .ok (q.add _)

theorem tags_pos {op r a b nn : Int} {tags : List Int} {l e : List Ins} (h : wfI (.mk op r a b nn tags l e)) : ∀ t ∈ tags, 0 ≤ t := fun t ht => by
  have := h.2.2.2.2.2.1.2 t ht
  have h0 : IntKind.u32.min = 0 := rfl
  simp [Lit.wf] at this
  omega

mutual
theorem valI_mono {V : VEnv} : ∀ (x : Ins) {ls ls' : List Nat} (h : LabLe ls ls') (hx : wfI x) {n n' : Nat} {d d' : Bool} (c c' : Nat) (hw : Weak n d n' d'), Mono (valI V ls x n d c) (valI V ls' x n' d' c')
  | .mk op r a b nn tags l e, ls, ls', h, hx, n, n', d, d', c, c', hw => by
    have hl := hx.2.2.2.2.2.2.1.2
    have he := hx.2.2.2.2.2.2.2.2
    simp only [valI]
    by_cases o : op = 0
    · rw [if_pos o, if_pos o]; exact .ok (.refl _ _)
    rw [if_neg o, if_neg o]; clear o
    by_cases o : op = 2 ∨ op = 3
    · rw [if_pos o, if_pos o]
      have ih := valL_mono (V := V) l (h.cons (if op = 3 then 0 else r.toNat)) hl c c' (Weak.refl 0 false)
      cases hk : valL V ((if op = 3 then 0 else r.toNat) :: ls) l 0 false c with
      | bad e p => exact .bad
      | ok n1 d1 c1 =>
        obtain ⟨n2, d2, c2, e2, w2⟩ := ih _ _ _ hk
        rw [e2]
        exact .endV w2 (.ok (hw.add _))
    rw [if_neg o, if_neg o]; clear o
    by_cases o : op = 4
    · rw [if_pos o, if_pos o]
      refine .pop hw fun m m' hm => ?_
      have ih := valL_mono (V := V) l (h.cons r.toNat) hl c c' (Weak.refl 0 false)
      cases hk : valL V (r.toNat :: ls) l 0 false c with
      | bad e p => exact .bad
      | ok n1 d1 c1 =>
        obtain ⟨n2, d2, c2, e2, w2⟩ := ih _ _ _ hk
        rw [e2]
        refine .endV w2 ?_
        have ih := valL_mono (V := V) e (h.cons r.toNat) he c1 c2 (Weak.refl 0 false)
        cases hk : valL V (r.toNat :: ls) e 0 false c1 with
        | bad e p => exact .bad
        | ok n3 d3 c3 =>
          obtain ⟨n4, d4, c4, e4, w4⟩ := ih _ _ _ hk
          rw [e4]
          exact .endV w4 (.ok (hm.add _))
    rw [if_neg o, if_neg o]
    exact flatV_mono h (tags_pos hx) hw
theorem valL_mono {V : VEnv} : ∀ (l : List Ins) {ls ls' : List Nat} (h : LabLe ls ls') (hx : wfL l) {n n' : Nat} {d d' : Bool} (c c' : Nat) (hw : Weak n d n' d'), Mono (valL V ls l n d c) (valL V ls' l n' d' c')
  | [], ls, ls', h, hx, n, n', d, d', c, c', hw => by
    simp only [valL]
    exact .ok hw
  | x :: r, ls, ls', h, hx, n, n', d, d', c, c', hw => by
    simp only [valL]
    have ih := valI_mono (V := V) x h hx.1 (c + 1) (c' + 1) hw
    cases hk : valI V ls x n d (c + 1) with
    | bad e p => exact .bad
    | ok n1 d1 c1 =>
      obtain ⟨n2, d2, c2, e2, w2⟩ := ih _ _ _ hk
      rw [e2]
      exact valL_mono r h hx.2 c1 c2 w2
end

theorem valL_append {V : VEnv} {ls : List Nat} : ∀ (l k : List Ins) (n : Nat) (d : Bool) (c : Nat), valL V ls (l ++ k) n d c = (match valL V ls l n d c with
    | .bad e p => .bad e p
    | .ok n1 d1 c1 => valL V ls k n1 d1 c1)
  | [], k, n, d, c => by simp only [List.nil_append, valL]
  | x :: r, k, n, d, c => by
    simp only [List.cons_append, valL]
    cases valI V ls x n d (c + 1) with
    | bad e p => rfl
    | ok n1 d1 c1 => exact valL_append r k n1 d1 c1

theorem nameV_pos {V : VEnv} {op a : Int} : nameV V op a = 0 ∨ nameV V op a ≠ 0 := by omega

/-- How a body is told to be right. -/
theorem bodyV_ok {V : VEnv} {l : List Ins} {n c : Nat} {d : Bool} (h : valL V [V.ret] l 0 false 0 = .ok n d c) (h1 : ¬ (n < V.ret ∧ d = false)) (h2 : n ≤ V.ret) : (bodyV V l).1 = 0 := by
  unfold bodyV endV popV
  rw [h]
  dsimp only
  rw [if_neg h1, if_neg (by omega)]

theorem okR {e : Int} (he : e ≠ 0) : e ≠ 0 := he

theorem tabV_ne {ls : List Nat} {tags : List Int} {a e : Int} (h : tabV ls tags a = .inl e) : e ≠ 0 := by
  unfold tabV at h
  split at h
  · cases h; decide
  split at h
  · cases h; decide
  split at h
  · cases h
  · cases h; decide

/-- What is wrong is never told by nought. -/
def NB (a : VR) : Prop := ∀ e p, a = .bad e p → e ≠ 0
theorem NB.ok {n c : Nat} {d : Bool} : NB (.ok n d c) := fun _ _ h => by cases h
theorem NB.bad {e : Int} {p : Nat} (h : e ≠ 0) : NB (.bad e p) := fun _ _ q => by cases q; exact h
theorem NB.pop {p k n : Nat} {d : Bool} {f : Nat → VR} (h : ∀ m, NB (f m)) : NB (popV p k n d f) := by
  unfold popV
  split
  · exact .bad (by decide)
  · exact h _
theorem NB.endV {r n p : Nat} {d : Bool} {f : VR} (h : NB f) : NB (endV r n d p f) := by
  unfold Am.endV
  refine .pop fun m => ?_
  split
  · exact .bad (by decide)
  · exact h
theorem NB.flat {V : VEnv} {ls : List Nat} {op a : Int} {tags : List Int} {n c : Nat} {d : Bool} : NB (flatV V ls op a tags n d c) := by
  unfold flatV
  split
  · split
    · exact .bad (by decide)
    · exact .pop fun _ => .ok
  split
  · split
    · exact .bad (by decide)
    · exact .pop fun _ => .pop fun _ => .ok
  split
  · split
    · rename_i e he; exact .bad (tabV_ne he)
    · exact .pop fun _ => .pop fun _ => .ok
  split
  · exact .pop fun _ => .ok
  split
  · split
    · exact .bad (by decide)
    · exact .pop fun _ => .ok
  split
  · split
    · exact .bad (by decide)
    · exact .pop fun _ => .pop fun _ => .ok
  split
  · rename_i h; exact .bad h
  · exact .pop fun _ => .ok

mutual
theorem NB.ins {V : VEnv} : ∀ (x : Ins) (ls : List Nat) (n : Nat) (d : Bool) (c : Nat), NB (valI V ls x n d c)
  | .mk op r a b nn tags l e, ls, n, d, c => by
    simp only [valI]
    by_cases o : op = 0
    · rw [if_pos o]; exact .ok
    rw [if_neg o]; clear o
    by_cases o : op = 2 ∨ op = 3
    · rw [if_pos o]
      have ih := NB.list (V := V) l ((if op = 3 then 0 else r.toNat) :: ls) 0 false c
      cases hk : valL V ((if op = 3 then 0 else r.toNat) :: ls) l 0 false c with
      | bad e p => rw [hk] at ih; exact ih
      | ok n1 d1 c1 => exact .endV .ok
    rw [if_neg o]; clear o
    by_cases o : op = 4
    · rw [if_pos o]
      refine .pop fun m => ?_
      have ih := NB.list (V := V) l (r.toNat :: ls) 0 false c
      cases hk : valL V (r.toNat :: ls) l 0 false c with
      | bad e p => rw [hk] at ih; exact ih
      | ok n1 d1 c1 =>
        refine .endV ?_
        have ih := NB.list (V := V) e (r.toNat :: ls) 0 false c1
        cases hk : valL V (r.toNat :: ls) e 0 false c1 with
        | bad e p => rw [hk] at ih; exact ih
        | ok n3 d3 c3 => exact .endV .ok
    rw [if_neg o]
    exact .flat
theorem NB.list {V : VEnv} : ∀ (l : List Ins) (ls : List Nat) (n : Nat) (d : Bool) (c : Nat), NB (valL V ls l n d c)
  | [], ls, n, d, c => by simp only [valL]; exact .ok
  | x :: r, ls, n, d, c => by
    simp only [valL]
    have ih := NB.ins (V := V) x ls n d (c + 1)
    cases hk : valI V ls x n d (c + 1) with
    | bad e p => rw [hk] at ih; exact ih
    | ok n1 d1 c1 => exact NB.list r ls n1 d1 c1
end

theorem bodyV_inv {V : VEnv} {l : List Ins} (h : (bodyV V l).1 = 0) : ∃ n d c, valL V [V.ret] l 0 false 0 = .ok n d c ∧ ¬ (n < V.ret ∧ d = false) ∧ n ≤ V.ret := by
  unfold bodyV endV popV at h
  have nb := NB.list (V := V) l [V.ret] 0 false 0
  cases hk : valL V [V.ret] l 0 false 0 with
  | bad e p => rw [hk] at h; exact absurd h (nb e p hk)
  | ok n d c =>
    rw [hk] at h
    dsimp only at h
    by_cases h1 : n < V.ret ∧ d = false
    · rw [if_pos h1] at h; cases h
    · rw [if_neg h1] at h
      by_cases h2 : 0 < n - V.ret
      · rw [if_pos h2] at h; cases h
      · exact ⟨n, d, c, rfl, h1, by omega⟩

/-- A block of a list that is right, in a function's place. -/
theorem body_block {V : VEnv} {l : List Ins} {a b nn : Int} {tg : List Int} {le : List Ins} (hw : wfL l) (h : (bodyV V l).1 = 0) : (bodyV V [.mk 2 V.ret a b nn tg l le]).1 = 0 := by
  obtain ⟨n, d, c, h1, h2, h3⟩ := bodyV_inv h
  obtain ⟨n', d', c', e, w⟩ := valL_mono (V := V) l (ls := [V.ret]) (ls' := [V.ret, V.ret]) ⟨[V.ret], rfl⟩ hw 0 1 (Weak.refl 0 false) _ _ _ h1
  have hk : valL V [V.ret] [.mk 2 V.ret a b nn tg l le] 0 false 0 = .ok V.ret false c' := by
    simp only [valL, valI]
    rw [if_neg (by decide), if_pos (by decide), if_neg (by decide)]
    have e : valL V [V.ret, V.ret] l 0 false (0 + 1) = .ok n' d' c' := e
    rw [Int.toNat_natCast, e]
    dsimp only
    unfold endV popV
    rw [if_neg (show ¬ (n' < V.ret ∧ d' = false) by
      rcases w with ⟨rfl, rfl⟩ | ⟨rfl, w⟩
      · exact h2
      · simp)]
    dsimp only
    rw [if_neg (show ¬ 0 < n' - V.ret by rcases w with ⟨rfl, rfl⟩ | ⟨rfl, w⟩ <;> omega), Nat.zero_add]
  exact bodyV_ok hk (by simp) (Nat.le_refl _)

/-- One list behind another one, where neither leaves anything. -/
theorem body_append {V : VEnv} {l k : List Ins} (h0 : V.ret = 0) (hw : wfL k) (hl : (bodyV V l).1 = 0) (hk : (bodyV V k).1 = 0) : (bodyV V (l ++ k)).1 = 0 := by
  obtain ⟨n, d, c, h1, h2, h3⟩ := bodyV_inv hl
  obtain ⟨m, e, c2, k1, k2, k3⟩ := bodyV_inv hk
  obtain ⟨m', e', c', e1, w⟩ := valL_mono (V := V) k (ls := [V.ret]) (ls' := [V.ret]) ⟨[], by simp⟩ hw 0 c (n := 0) (d := false) (n' := n) (d' := d) (by
    cases d with
    | false => exact .inl ⟨by omega, rfl⟩
    | true => exact .inr ⟨rfl, by omega⟩) _ _ _ k1
  have e2 : valL V [V.ret] (l ++ k) 0 false 0 = .ok m' e' c' := by rw [valL_append, h1]; exact e1
  exact bodyV_ok e2 (by omega) (by rcases w with ⟨rfl, rfl⟩ | ⟨rfl, w⟩ <;> omega)

end Go.Am
end

section
set_option linter.unusedSimpArgs false
set_option linter.unusedVariables false
namespace Go.Proofs.YtgbphddecpjlhaaGreatDoor.N
open Go Go.Am

/-- The library's tables; the module's lists that the law writes to, too. -/
def envP : Env where
  glob := tabAt tabs
  wr f d := wrs f d || (Nat.beq f 7 && (Nat.beq d 6 || Nat.beq d 10))
  keep := keepAt keeps

theorem Does.toP {f : FuncId} {args : List AV} {m m' : Mem} {v : AV} (h : Does Tryz.prog env f args m v m') : Does Tryz.prog envP f args m v m' := h.env fun _ _ q => q

/- pck: 47 steps -/
noncomputable def pckOrc : Orc := orcL noCall noLed [] [(14, 0, 1)] []
def pckSc : Sc := .fin
noncomputable def pckTree (r : Int) : Tree :=
  (.test (decide (r.tmod 2 < 0))
   (.out (Out.ret (AV.p (PV.sc (Value.int IntKind.i64 (IntKind.i64.wrap (r.tmod 2 + 2))))) []))
   (.out (Out.ret (AV.p (PV.sc (Value.int IntKind.i64 (r.tmod 2)))) [])))
theorem pck_tree (r : Int) : growF Tryz.prog env pckOrc 1000000 14 ([sI IntKind.i64 r, sI IntKind.i64 2]) ([]) pckSc = pckTree r := by kernel_rfl


/- vpl: 510 steps -/
noncomputable def vplOrc : Orc := orcL noCall noLed [] [(5, 3, 4), (5, 3, 9), (5, 3, 14), (5, 3, 18), (5, 0, 0), (5, 12, 3), (5, 0, 1), (5, 21, 5), (5, 21, 9)] [(5, 0, 2)]
noncomputable def vplSc (l : List Ins) (k : List Ins) (r : Int) (lo : Int) (nl : Int) (nk : Int) (dp : Int) (tr : Int) (e1 : Int) (e2 : Int) (e3 : Int) (e4 : Int) (e5 : Int) (p1 : Int) (p2 : Int) (p3 : Int) (p4 : Int) (p5 : Int) : Sc := (.ans 12 (AV.p (PV.sc (Value.bool true))) ([]) (.ans 6 (AV.p (PV.sc (Value.int IntKind.i64 nl))) ([]) (.fork (.lit (.lit (.lit (.lit .fin)))) (.ans 6 (AV.p (PV.sc (Value.int IntKind.i64 nk))) ([]) (.fork (.lit (.lit (.lit .fin))) (.ans 13 (AV.p (PV.sc (Value.int IntKind.i64 dp))) ([]) (.fork (.lit (.lit .fin)) (.fork (.lit .fin) (.fork .fin (.ans 14 (AV.p (PV.sc (Value.int IntKind.i64 tr))) ([]) (.ans 8 (AV.tup [AV.p (PV.sc (Value.int IntKind.i64 e1)), AV.p (PV.sc (Value.int IntKind.i64 p1))]) ([Blk.ob (ObK.gr 26 true) [AV.p (PV.sc (Value.int IntKind.i64 1)), AV.p (PV.sc (Value.int IntKind.i64 1)), AV.p (PV.sc (Value.int IntKind.i64 0)), AV.p (PV.sc (Value.int IntKind.i64 0)), AV.p (PV.sc (Value.int IntKind.i64 0)), AV.p (PV.sc (Value.int IntKind.i64 tr))], Blk.ob (ObK.gr 41 true) [AV.p (PV.sc (Value.int IntKind.i64 1)), AV.p (PV.sc (Value.int IntKind.i64 0)), AV.p (PV.ps 0 0 []), AV.p (PV.sc (Value.int IntKind.i64 2)), AV.p (PV.sc (Value.int IntKind.i64 lo)), AV.p (PV.ps l.length 8 (encL l))]]) (.ans 8 (AV.tup [AV.p (PV.sc (Value.int IntKind.i64 e2)), AV.p (PV.sc (Value.int IntKind.i64 p2))]) ([Blk.ob (ObK.gr 26 true) [AV.p (PV.sc (Value.int IntKind.i64 1)), AV.p (PV.sc (Value.int IntKind.i64 1)), AV.p (PV.sc (Value.int IntKind.i64 0)), AV.p (PV.sc (Value.int IntKind.i64 0)), AV.p (PV.sc (Value.int IntKind.i64 0)), AV.p (PV.sc (Value.int IntKind.i64 tr))], Blk.ob (ObK.gr 41 true) [AV.p (PV.sc (Value.int IntKind.i64 1)), AV.p (PV.sc (Value.int IntKind.i64 0)), AV.p (PV.ps 0 0 []), AV.p (PV.sc (Value.int IntKind.i64 2)), AV.p (PV.sc (Value.int IntKind.i64 lo)), AV.p (PV.ps 1 8 [PV.sc (Value.int IntKind.i64 2), PV.sc (Value.int IntKind.i64 tr), PV.sc (Value.int IntKind.u32 0), PV.sc (Value.int IntKind.u32 0), PV.sc (Value.int IntKind.i32 0), PV.ps 0 0 [], PV.ps l.length 8 (encL l), PV.ps 0 0 []])]]) (.fork (.fork .fin (.ans 8 (AV.tup [AV.p (PV.sc (Value.int IntKind.i64 e3)), AV.p (PV.sc (Value.int IntKind.i64 p3))]) ([Blk.ob (ObK.gr 26 true) [AV.p (PV.sc (Value.int IntKind.i64 1)), AV.p (PV.sc (Value.int IntKind.i64 1)), AV.p (PV.sc (Value.int IntKind.i64 0)), AV.p (PV.sc (Value.int IntKind.i64 0)), AV.p (PV.sc (Value.int IntKind.i64 0)), AV.p (PV.sc (Value.int IntKind.i64 0))], Blk.ob (ObK.gr 41 true) [AV.p (PV.sc (Value.int IntKind.i64 1)), AV.p (PV.sc (Value.int IntKind.i64 0)), AV.p (PV.ps 0 0 []), AV.p (PV.sc (Value.int IntKind.i64 2)), AV.p (PV.sc (Value.int IntKind.i64 lo)), AV.p (PV.ps l.length 8 (encL l))]]) (.ans 8 (AV.tup [AV.p (PV.sc (Value.int IntKind.i64 e4)), AV.p (PV.sc (Value.int IntKind.i64 p4))]) ([Blk.ob (ObK.gr 26 true) [AV.p (PV.sc (Value.int IntKind.i64 1)), AV.p (PV.sc (Value.int IntKind.i64 1)), AV.p (PV.sc (Value.int IntKind.i64 0)), AV.p (PV.sc (Value.int IntKind.i64 0)), AV.p (PV.sc (Value.int IntKind.i64 0)), AV.p (PV.sc (Value.int IntKind.i64 0))], Blk.ob (ObK.gr 41 true) [AV.p (PV.sc (Value.int IntKind.i64 1)), AV.p (PV.sc (Value.int IntKind.i64 0)), AV.p (PV.ps 0 0 []), AV.p (PV.sc (Value.int IntKind.i64 2)), AV.p (PV.sc (Value.int IntKind.i64 lo)), AV.p (PV.ps k.length 8 (encL k))]]) (.ans 8 (AV.tup [AV.p (PV.sc (Value.int IntKind.i64 e5)), AV.p (PV.sc (Value.int IntKind.i64 p5))]) ([Blk.ob (ObK.gr 26 true) [AV.p (PV.sc (Value.int IntKind.i64 1)), AV.p (PV.sc (Value.int IntKind.i64 1)), AV.p (PV.sc (Value.int IntKind.i64 0)), AV.p (PV.sc (Value.int IntKind.i64 0)), AV.p (PV.sc (Value.int IntKind.i64 0)), AV.p (PV.sc (Value.int IntKind.i64 0))], Blk.ob (ObK.gr 41 true) [AV.p (PV.sc (Value.int IntKind.i64 1)), AV.p (PV.sc (Value.int IntKind.i64 0)), AV.p (PV.ps 0 0 []), AV.p (PV.sc (Value.int IntKind.i64 2)), AV.p (PV.sc (Value.int IntKind.i64 lo)), AV.p (PV.ps (0 + l.length + k.length) 8 ([] ++ encL l ++ encL k))]]) (.fork (.lit .fin) .fin))))) (.lit (.ans 8 (AV.tup [AV.p (PV.sc (Value.int IntKind.i64 e3)), AV.p (PV.sc (Value.int IntKind.i64 p3))]) ([Blk.ob (ObK.gr 26 true) [AV.p (PV.sc (Value.int IntKind.i64 1)), AV.p (PV.sc (Value.int IntKind.i64 1)), AV.p (PV.sc (Value.int IntKind.i64 0)), AV.p (PV.sc (Value.int IntKind.i64 0)), AV.p (PV.sc (Value.int IntKind.i64 0)), AV.p (PV.sc (Value.int IntKind.i64 0))], Blk.ob (ObK.gr 41 true) [AV.p (PV.sc (Value.int IntKind.i64 1)), AV.p (PV.sc (Value.int IntKind.i64 0)), AV.p (PV.ps 0 0 []), AV.p (PV.sc (Value.int IntKind.i64 2)), AV.p (PV.sc (Value.int IntKind.i64 lo)), AV.p (PV.ps l.length 8 (encL l))]]) (.ans 8 (AV.tup [AV.p (PV.sc (Value.int IntKind.i64 e4)), AV.p (PV.sc (Value.int IntKind.i64 p4))]) ([Blk.ob (ObK.gr 26 true) [AV.p (PV.sc (Value.int IntKind.i64 1)), AV.p (PV.sc (Value.int IntKind.i64 1)), AV.p (PV.sc (Value.int IntKind.i64 0)), AV.p (PV.sc (Value.int IntKind.i64 0)), AV.p (PV.sc (Value.int IntKind.i64 0)), AV.p (PV.sc (Value.int IntKind.i64 0))], Blk.ob (ObK.gr 41 true) [AV.p (PV.sc (Value.int IntKind.i64 1)), AV.p (PV.sc (Value.int IntKind.i64 0)), AV.p (PV.ps 0 0 []), AV.p (PV.sc (Value.int IntKind.i64 2)), AV.p (PV.sc (Value.int IntKind.i64 lo)), AV.p (PV.ps k.length 8 (encL k))]]) (.ans 8 (AV.tup [AV.p (PV.sc (Value.int IntKind.i64 e5)), AV.p (PV.sc (Value.int IntKind.i64 p5))]) ([Blk.ob (ObK.gr 26 true) [AV.p (PV.sc (Value.int IntKind.i64 1)), AV.p (PV.sc (Value.int IntKind.i64 1)), AV.p (PV.sc (Value.int IntKind.i64 0)), AV.p (PV.sc (Value.int IntKind.i64 0)), AV.p (PV.sc (Value.int IntKind.i64 0)), AV.p (PV.sc (Value.int IntKind.i64 0))], Blk.ob (ObK.gr 41 true) [AV.p (PV.sc (Value.int IntKind.i64 1)), AV.p (PV.sc (Value.int IntKind.i64 0)), AV.p (PV.ps 0 0 []), AV.p (PV.sc (Value.int IntKind.i64 2)), AV.p (PV.sc (Value.int IntKind.i64 lo)), AV.p (PV.ps (0 + l.length + k.length) 8 ([] ++ encL l ++ encL k))]]) (.fork (.lit .fin) .fin))))))))))))))))))
noncomputable def vplTree (l : List Ins) (k : List Ins) (r : Int) (lo : Int) (nl : Int) (nk : Int) (dp : Int) (tr : Int) (e1 : Int) (e2 : Int) (e3 : Int) (e4 : Int) (e5 : Int) (p1 : Int) (p2 : Int) (p3 : Int) (p4 : Int) (p5 : Int) : Tree :=
  (.call ⟨12, [], [], AV.p (PV.sc (Value.bool true)), []⟩
   (.call ⟨6, [AV.p (PV.ps l.length 8 (encL l)), AV.p (PV.sc (Value.int IntKind.i64 2000))], [], AV.p (PV.sc (Value.int IntKind.i64 nl)), []⟩
    (.test (decide (nl > 2000))
     (.out (Out.ret (AV.p (PV.sc (Value.bool true))) []))
     (.call ⟨6, [AV.p (PV.ps k.length 8 (encL k)), AV.p (PV.sc (Value.int IntKind.i64 2000))], [], AV.p (PV.sc (Value.int IntKind.i64 nk)), []⟩
      (.test (decide (nk > 2000))
       (.out (Out.ret (AV.p (PV.sc (Value.bool true))) []))
       (.call ⟨13, [AV.p (PV.ps l.length 8 (encL l))], [], AV.p (PV.sc (Value.int IntKind.i64 dp)), []⟩
        (.test (decide (dp > 300))
         (.out (Out.ret (AV.p (PV.sc (Value.bool true))) []))
         (.test (decide (lo < 0))
          (.out (Out.ret (AV.p (PV.sc (Value.bool true))) []))
          (.test (decide (lo > 1000))
           (.out (Out.ret (AV.p (PV.sc (Value.bool true))) []))
           (.call ⟨14, [AV.p (PV.sc (Value.int IntKind.i64 r)), AV.p (PV.sc (Value.int IntKind.i64 2))], [], AV.p (PV.sc (Value.int IntKind.i64 tr)), []⟩
            (.call ⟨8, [AV.agg [AV.ms 0 0 3 2 Option.none, AV.os Option.none 1 3 [PV.sc (Value.string (ByteArray.mk #[104, 111, 115, 116])), PV.sc (Value.string (ByteArray.mk #[102])), PV.sc (Value.int IntKind.i64 0)], AV.ms 1 0 2 3 Option.none, AV.os Option.none 1 3 [PV.sc (Value.int IntKind.u32 1), PV.sc (Value.int IntKind.u32 0), PV.sc (Value.bool false)], AV.os Option.none 1 3 [PV.sc (Value.int IntKind.u32 1), PV.sc (Value.int IntKind.u32 0), PV.sc (Value.bool false)], AV.os Option.none 2 2 [PV.sc (Value.bool true), PV.ps 1 8 [PV.sc (Value.int IntKind.i64 65), PV.sc (Value.int IntKind.i64 0), PV.sc (Value.int IntKind.u32 0), PV.sc (Value.int IntKind.u32 0), PV.sc (Value.int IntKind.i32 0), PV.ps 0 0 [], PV.ps 0 0 [], PV.ps 0 0 []], PV.sc (Value.bool false), PV.ps 1 8 [PV.sc (Value.int IntKind.i64 65), PV.sc (Value.int IntKind.i64 0), PV.sc (Value.int IntKind.u32 0), PV.sc (Value.int IntKind.u32 0), PV.sc (Value.int IntKind.i32 0), PV.ps 0 0 [], PV.ps 0 0 [], PV.ps 0 0 []]], AV.os Option.none 0 0 [], AV.p (PV.sc (Value.bool false)), AV.p (PV.sc (Value.int IntKind.u32 0)), AV.os Option.none 0 0 [], AV.os Option.none 0 0 []], AV.p (PV.sc (Value.int IntKind.i64 1))], [Blk.ob (ObK.gr 26 true) [AV.p (PV.sc (Value.int IntKind.i64 1)), AV.p (PV.sc (Value.int IntKind.i64 1)), AV.p (PV.sc (Value.int IntKind.i64 0)), AV.p (PV.sc (Value.int IntKind.i64 0)), AV.p (PV.sc (Value.int IntKind.i64 0)), AV.p (PV.sc (Value.int IntKind.i64 tr))], Blk.ob (ObK.gr 41 true) [AV.p (PV.sc (Value.int IntKind.i64 1)), AV.p (PV.sc (Value.int IntKind.i64 0)), AV.p (PV.ps 0 0 []), AV.p (PV.sc (Value.int IntKind.i64 2)), AV.p (PV.sc (Value.int IntKind.i64 lo)), AV.p (PV.ps l.length 8 (encL l))]], AV.tup [AV.p (PV.sc (Value.int IntKind.i64 e1)), AV.p (PV.sc (Value.int IntKind.i64 p1))], [Blk.ob (ObK.gr 26 true) [AV.p (PV.sc (Value.int IntKind.i64 1)), AV.p (PV.sc (Value.int IntKind.i64 1)), AV.p (PV.sc (Value.int IntKind.i64 0)), AV.p (PV.sc (Value.int IntKind.i64 0)), AV.p (PV.sc (Value.int IntKind.i64 0)), AV.p (PV.sc (Value.int IntKind.i64 tr))], Blk.ob (ObK.gr 41 true) [AV.p (PV.sc (Value.int IntKind.i64 1)), AV.p (PV.sc (Value.int IntKind.i64 0)), AV.p (PV.ps 0 0 []), AV.p (PV.sc (Value.int IntKind.i64 2)), AV.p (PV.sc (Value.int IntKind.i64 lo)), AV.p (PV.ps l.length 8 (encL l))]]⟩
             (.call ⟨8, [AV.agg [AV.ms 0 0 3 2 Option.none, AV.os Option.none 1 3 [PV.sc (Value.string (ByteArray.mk #[104, 111, 115, 116])), PV.sc (Value.string (ByteArray.mk #[102])), PV.sc (Value.int IntKind.i64 0)], AV.ms 1 0 2 3 Option.none, AV.os Option.none 1 3 [PV.sc (Value.int IntKind.u32 1), PV.sc (Value.int IntKind.u32 0), PV.sc (Value.bool false)], AV.os Option.none 1 3 [PV.sc (Value.int IntKind.u32 1), PV.sc (Value.int IntKind.u32 0), PV.sc (Value.bool false)], AV.os Option.none 2 2 [PV.sc (Value.bool true), PV.ps 1 8 [PV.sc (Value.int IntKind.i64 65), PV.sc (Value.int IntKind.i64 0), PV.sc (Value.int IntKind.u32 0), PV.sc (Value.int IntKind.u32 0), PV.sc (Value.int IntKind.i32 0), PV.ps 0 0 [], PV.ps 0 0 [], PV.ps 0 0 []], PV.sc (Value.bool false), PV.ps 1 8 [PV.sc (Value.int IntKind.i64 65), PV.sc (Value.int IntKind.i64 0), PV.sc (Value.int IntKind.u32 0), PV.sc (Value.int IntKind.u32 0), PV.sc (Value.int IntKind.i32 0), PV.ps 0 0 [], PV.ps 0 0 [], PV.ps 0 0 []]], AV.os Option.none 0 0 [], AV.p (PV.sc (Value.bool false)), AV.p (PV.sc (Value.int IntKind.u32 0)), AV.os Option.none 0 0 [], AV.os Option.none 0 0 []], AV.p (PV.sc (Value.int IntKind.i64 1))], [Blk.ob (ObK.gr 26 true) [AV.p (PV.sc (Value.int IntKind.i64 1)), AV.p (PV.sc (Value.int IntKind.i64 1)), AV.p (PV.sc (Value.int IntKind.i64 0)), AV.p (PV.sc (Value.int IntKind.i64 0)), AV.p (PV.sc (Value.int IntKind.i64 0)), AV.p (PV.sc (Value.int IntKind.i64 tr))], Blk.ob (ObK.gr 41 true) [AV.p (PV.sc (Value.int IntKind.i64 1)), AV.p (PV.sc (Value.int IntKind.i64 0)), AV.p (PV.ps 0 0 []), AV.p (PV.sc (Value.int IntKind.i64 2)), AV.p (PV.sc (Value.int IntKind.i64 lo)), AV.p (PV.ps 1 8 [PV.sc (Value.int IntKind.i64 2), PV.sc (Value.int IntKind.i64 tr), PV.sc (Value.int IntKind.u32 0), PV.sc (Value.int IntKind.u32 0), PV.sc (Value.int IntKind.i32 0), PV.ps 0 0 [], PV.ps l.length 8 (encL l), PV.ps 0 0 []])]], AV.tup [AV.p (PV.sc (Value.int IntKind.i64 e2)), AV.p (PV.sc (Value.int IntKind.i64 p2))], [Blk.ob (ObK.gr 26 true) [AV.p (PV.sc (Value.int IntKind.i64 1)), AV.p (PV.sc (Value.int IntKind.i64 1)), AV.p (PV.sc (Value.int IntKind.i64 0)), AV.p (PV.sc (Value.int IntKind.i64 0)), AV.p (PV.sc (Value.int IntKind.i64 0)), AV.p (PV.sc (Value.int IntKind.i64 tr))], Blk.ob (ObK.gr 41 true) [AV.p (PV.sc (Value.int IntKind.i64 1)), AV.p (PV.sc (Value.int IntKind.i64 0)), AV.p (PV.ps 0 0 []), AV.p (PV.sc (Value.int IntKind.i64 2)), AV.p (PV.sc (Value.int IntKind.i64 lo)), AV.p (PV.ps 1 8 [PV.sc (Value.int IntKind.i64 2), PV.sc (Value.int IntKind.i64 tr), PV.sc (Value.int IntKind.u32 0), PV.sc (Value.int IntKind.u32 0), PV.sc (Value.int IntKind.i32 0), PV.ps 0 0 [], PV.ps l.length 8 (encL l), PV.ps 0 0 []])]]⟩
              (.test (e1 == 0)
               (.test (e2 != 0)
                (.must true
                 (.out (Out.ret (AV.p (PV.sc (Value.bool false))) [])))
                (.call ⟨8, [AV.agg [AV.ms 0 0 3 2 Option.none, AV.os Option.none 1 3 [PV.sc (Value.string (ByteArray.mk #[104, 111, 115, 116])), PV.sc (Value.string (ByteArray.mk #[102])), PV.sc (Value.int IntKind.i64 0)], AV.ms 1 0 2 3 Option.none, AV.os Option.none 1 3 [PV.sc (Value.int IntKind.u32 1), PV.sc (Value.int IntKind.u32 0), PV.sc (Value.bool false)], AV.os Option.none 1 3 [PV.sc (Value.int IntKind.u32 1), PV.sc (Value.int IntKind.u32 0), PV.sc (Value.bool false)], AV.os Option.none 2 2 [PV.sc (Value.bool true), PV.ps 1 8 [PV.sc (Value.int IntKind.i64 65), PV.sc (Value.int IntKind.i64 0), PV.sc (Value.int IntKind.u32 0), PV.sc (Value.int IntKind.u32 0), PV.sc (Value.int IntKind.i32 0), PV.ps 0 0 [], PV.ps 0 0 [], PV.ps 0 0 []], PV.sc (Value.bool false), PV.ps 1 8 [PV.sc (Value.int IntKind.i64 65), PV.sc (Value.int IntKind.i64 0), PV.sc (Value.int IntKind.u32 0), PV.sc (Value.int IntKind.u32 0), PV.sc (Value.int IntKind.i32 0), PV.ps 0 0 [], PV.ps 0 0 [], PV.ps 0 0 []]], AV.os Option.none 0 0 [], AV.p (PV.sc (Value.bool false)), AV.p (PV.sc (Value.int IntKind.u32 0)), AV.os Option.none 0 0 [], AV.os Option.none 0 0 []], AV.p (PV.sc (Value.int IntKind.i64 1))], [Blk.ob (ObK.gr 26 true) [AV.p (PV.sc (Value.int IntKind.i64 1)), AV.p (PV.sc (Value.int IntKind.i64 1)), AV.p (PV.sc (Value.int IntKind.i64 0)), AV.p (PV.sc (Value.int IntKind.i64 0)), AV.p (PV.sc (Value.int IntKind.i64 0)), AV.p (PV.sc (Value.int IntKind.i64 0))], Blk.ob (ObK.gr 41 true) [AV.p (PV.sc (Value.int IntKind.i64 1)), AV.p (PV.sc (Value.int IntKind.i64 0)), AV.p (PV.ps 0 0 []), AV.p (PV.sc (Value.int IntKind.i64 2)), AV.p (PV.sc (Value.int IntKind.i64 lo)), AV.p (PV.ps l.length 8 (encL l))]], AV.tup [AV.p (PV.sc (Value.int IntKind.i64 e3)), AV.p (PV.sc (Value.int IntKind.i64 p3))], [Blk.ob (ObK.gr 26 true) [AV.p (PV.sc (Value.int IntKind.i64 1)), AV.p (PV.sc (Value.int IntKind.i64 1)), AV.p (PV.sc (Value.int IntKind.i64 0)), AV.p (PV.sc (Value.int IntKind.i64 0)), AV.p (PV.sc (Value.int IntKind.i64 0)), AV.p (PV.sc (Value.int IntKind.i64 0))], Blk.ob (ObK.gr 41 true) [AV.p (PV.sc (Value.int IntKind.i64 1)), AV.p (PV.sc (Value.int IntKind.i64 0)), AV.p (PV.ps 0 0 []), AV.p (PV.sc (Value.int IntKind.i64 2)), AV.p (PV.sc (Value.int IntKind.i64 lo)), AV.p (PV.ps l.length 8 (encL l))]]⟩
                 (.call ⟨8, [AV.agg [AV.ms 0 0 3 2 Option.none, AV.os Option.none 1 3 [PV.sc (Value.string (ByteArray.mk #[104, 111, 115, 116])), PV.sc (Value.string (ByteArray.mk #[102])), PV.sc (Value.int IntKind.i64 0)], AV.ms 1 0 2 3 Option.none, AV.os Option.none 1 3 [PV.sc (Value.int IntKind.u32 1), PV.sc (Value.int IntKind.u32 0), PV.sc (Value.bool false)], AV.os Option.none 1 3 [PV.sc (Value.int IntKind.u32 1), PV.sc (Value.int IntKind.u32 0), PV.sc (Value.bool false)], AV.os Option.none 2 2 [PV.sc (Value.bool true), PV.ps 1 8 [PV.sc (Value.int IntKind.i64 65), PV.sc (Value.int IntKind.i64 0), PV.sc (Value.int IntKind.u32 0), PV.sc (Value.int IntKind.u32 0), PV.sc (Value.int IntKind.i32 0), PV.ps 0 0 [], PV.ps 0 0 [], PV.ps 0 0 []], PV.sc (Value.bool false), PV.ps 1 8 [PV.sc (Value.int IntKind.i64 65), PV.sc (Value.int IntKind.i64 0), PV.sc (Value.int IntKind.u32 0), PV.sc (Value.int IntKind.u32 0), PV.sc (Value.int IntKind.i32 0), PV.ps 0 0 [], PV.ps 0 0 [], PV.ps 0 0 []]], AV.os Option.none 0 0 [], AV.p (PV.sc (Value.bool false)), AV.p (PV.sc (Value.int IntKind.u32 0)), AV.os Option.none 0 0 [], AV.os Option.none 0 0 []], AV.p (PV.sc (Value.int IntKind.i64 1))], [Blk.ob (ObK.gr 26 true) [AV.p (PV.sc (Value.int IntKind.i64 1)), AV.p (PV.sc (Value.int IntKind.i64 1)), AV.p (PV.sc (Value.int IntKind.i64 0)), AV.p (PV.sc (Value.int IntKind.i64 0)), AV.p (PV.sc (Value.int IntKind.i64 0)), AV.p (PV.sc (Value.int IntKind.i64 0))], Blk.ob (ObK.gr 41 true) [AV.p (PV.sc (Value.int IntKind.i64 1)), AV.p (PV.sc (Value.int IntKind.i64 0)), AV.p (PV.ps 0 0 []), AV.p (PV.sc (Value.int IntKind.i64 2)), AV.p (PV.sc (Value.int IntKind.i64 lo)), AV.p (PV.ps k.length 8 (encL k))]], AV.tup [AV.p (PV.sc (Value.int IntKind.i64 e4)), AV.p (PV.sc (Value.int IntKind.i64 p4))], [Blk.ob (ObK.gr 26 true) [AV.p (PV.sc (Value.int IntKind.i64 1)), AV.p (PV.sc (Value.int IntKind.i64 1)), AV.p (PV.sc (Value.int IntKind.i64 0)), AV.p (PV.sc (Value.int IntKind.i64 0)), AV.p (PV.sc (Value.int IntKind.i64 0)), AV.p (PV.sc (Value.int IntKind.i64 0))], Blk.ob (ObK.gr 41 true) [AV.p (PV.sc (Value.int IntKind.i64 1)), AV.p (PV.sc (Value.int IntKind.i64 0)), AV.p (PV.ps 0 0 []), AV.p (PV.sc (Value.int IntKind.i64 2)), AV.p (PV.sc (Value.int IntKind.i64 lo)), AV.p (PV.ps k.length 8 (encL k))]]⟩
                  (.must (((0 + l.length) * 104).ble lim && (0 + l.length).ble lim && true && (((0 + l.length + k.length) * 104).ble lim && (0 + l.length + k.length).ble lim && true && true) && true)
                   (.call ⟨8, [AV.agg [AV.ms 0 0 3 2 Option.none, AV.os Option.none 1 3 [PV.sc (Value.string (ByteArray.mk #[104, 111, 115, 116])), PV.sc (Value.string (ByteArray.mk #[102])), PV.sc (Value.int IntKind.i64 0)], AV.ms 1 0 2 3 Option.none, AV.os Option.none 1 3 [PV.sc (Value.int IntKind.u32 1), PV.sc (Value.int IntKind.u32 0), PV.sc (Value.bool false)], AV.os Option.none 1 3 [PV.sc (Value.int IntKind.u32 1), PV.sc (Value.int IntKind.u32 0), PV.sc (Value.bool false)], AV.os Option.none 2 2 [PV.sc (Value.bool true), PV.ps 1 8 [PV.sc (Value.int IntKind.i64 65), PV.sc (Value.int IntKind.i64 0), PV.sc (Value.int IntKind.u32 0), PV.sc (Value.int IntKind.u32 0), PV.sc (Value.int IntKind.i32 0), PV.ps 0 0 [], PV.ps 0 0 [], PV.ps 0 0 []], PV.sc (Value.bool false), PV.ps 1 8 [PV.sc (Value.int IntKind.i64 65), PV.sc (Value.int IntKind.i64 0), PV.sc (Value.int IntKind.u32 0), PV.sc (Value.int IntKind.u32 0), PV.sc (Value.int IntKind.i32 0), PV.ps 0 0 [], PV.ps 0 0 [], PV.ps 0 0 []]], AV.os Option.none 0 0 [], AV.p (PV.sc (Value.bool false)), AV.p (PV.sc (Value.int IntKind.u32 0)), AV.os Option.none 0 0 [], AV.os Option.none 0 0 []], AV.p (PV.sc (Value.int IntKind.i64 1))], [Blk.ob (ObK.gr 26 true) [AV.p (PV.sc (Value.int IntKind.i64 1)), AV.p (PV.sc (Value.int IntKind.i64 1)), AV.p (PV.sc (Value.int IntKind.i64 0)), AV.p (PV.sc (Value.int IntKind.i64 0)), AV.p (PV.sc (Value.int IntKind.i64 0)), AV.p (PV.sc (Value.int IntKind.i64 0))], Blk.ob (ObK.gr 41 true) [AV.p (PV.sc (Value.int IntKind.i64 1)), AV.p (PV.sc (Value.int IntKind.i64 0)), AV.p (PV.ps 0 0 []), AV.p (PV.sc (Value.int IntKind.i64 2)), AV.p (PV.sc (Value.int IntKind.i64 lo)), AV.p (PV.ps (0 + l.length + k.length) 8 ([] ++ encL l ++ encL k))]], AV.tup [AV.p (PV.sc (Value.int IntKind.i64 e5)), AV.p (PV.sc (Value.int IntKind.i64 p5))], [Blk.ob (ObK.gr 26 true) [AV.p (PV.sc (Value.int IntKind.i64 1)), AV.p (PV.sc (Value.int IntKind.i64 1)), AV.p (PV.sc (Value.int IntKind.i64 0)), AV.p (PV.sc (Value.int IntKind.i64 0)), AV.p (PV.sc (Value.int IntKind.i64 0)), AV.p (PV.sc (Value.int IntKind.i64 0))], Blk.ob (ObK.gr 41 true) [AV.p (PV.sc (Value.int IntKind.i64 1)), AV.p (PV.sc (Value.int IntKind.i64 0)), AV.p (PV.ps 0 0 []), AV.p (PV.sc (Value.int IntKind.i64 2)), AV.p (PV.sc (Value.int IntKind.i64 lo)), AV.p (PV.ps (0 + l.length + k.length) 8 ([] ++ encL l ++ encL k))]]⟩
                    (.test (e3 != 0)
                     (.must true
                      (.out (Out.ret (AV.p (PV.sc (Value.bool true))) [])))
                     (.test (e4 != 0)
                      (.must true
                       (.out (Out.ret (AV.p (PV.sc (Value.bool true))) [])))
                      (.must true
                       (.out (Out.ret (AV.p (PV.sc (Value.bool (e5 == 0)))) []))))))))))
               (.call ⟨8, [AV.agg [AV.ms 0 0 3 2 Option.none, AV.os Option.none 1 3 [PV.sc (Value.string (ByteArray.mk #[104, 111, 115, 116])), PV.sc (Value.string (ByteArray.mk #[102])), PV.sc (Value.int IntKind.i64 0)], AV.ms 1 0 2 3 Option.none, AV.os Option.none 1 3 [PV.sc (Value.int IntKind.u32 1), PV.sc (Value.int IntKind.u32 0), PV.sc (Value.bool false)], AV.os Option.none 1 3 [PV.sc (Value.int IntKind.u32 1), PV.sc (Value.int IntKind.u32 0), PV.sc (Value.bool false)], AV.os Option.none 2 2 [PV.sc (Value.bool true), PV.ps 1 8 [PV.sc (Value.int IntKind.i64 65), PV.sc (Value.int IntKind.i64 0), PV.sc (Value.int IntKind.u32 0), PV.sc (Value.int IntKind.u32 0), PV.sc (Value.int IntKind.i32 0), PV.ps 0 0 [], PV.ps 0 0 [], PV.ps 0 0 []], PV.sc (Value.bool false), PV.ps 1 8 [PV.sc (Value.int IntKind.i64 65), PV.sc (Value.int IntKind.i64 0), PV.sc (Value.int IntKind.u32 0), PV.sc (Value.int IntKind.u32 0), PV.sc (Value.int IntKind.i32 0), PV.ps 0 0 [], PV.ps 0 0 [], PV.ps 0 0 []]], AV.os Option.none 0 0 [], AV.p (PV.sc (Value.bool false)), AV.p (PV.sc (Value.int IntKind.u32 0)), AV.os Option.none 0 0 [], AV.os Option.none 0 0 []], AV.p (PV.sc (Value.int IntKind.i64 1))], [Blk.ob (ObK.gr 26 true) [AV.p (PV.sc (Value.int IntKind.i64 1)), AV.p (PV.sc (Value.int IntKind.i64 1)), AV.p (PV.sc (Value.int IntKind.i64 0)), AV.p (PV.sc (Value.int IntKind.i64 0)), AV.p (PV.sc (Value.int IntKind.i64 0)), AV.p (PV.sc (Value.int IntKind.i64 0))], Blk.ob (ObK.gr 41 true) [AV.p (PV.sc (Value.int IntKind.i64 1)), AV.p (PV.sc (Value.int IntKind.i64 0)), AV.p (PV.ps 0 0 []), AV.p (PV.sc (Value.int IntKind.i64 2)), AV.p (PV.sc (Value.int IntKind.i64 lo)), AV.p (PV.ps l.length 8 (encL l))]], AV.tup [AV.p (PV.sc (Value.int IntKind.i64 e3)), AV.p (PV.sc (Value.int IntKind.i64 p3))], [Blk.ob (ObK.gr 26 true) [AV.p (PV.sc (Value.int IntKind.i64 1)), AV.p (PV.sc (Value.int IntKind.i64 1)), AV.p (PV.sc (Value.int IntKind.i64 0)), AV.p (PV.sc (Value.int IntKind.i64 0)), AV.p (PV.sc (Value.int IntKind.i64 0)), AV.p (PV.sc (Value.int IntKind.i64 0))], Blk.ob (ObK.gr 41 true) [AV.p (PV.sc (Value.int IntKind.i64 1)), AV.p (PV.sc (Value.int IntKind.i64 0)), AV.p (PV.ps 0 0 []), AV.p (PV.sc (Value.int IntKind.i64 2)), AV.p (PV.sc (Value.int IntKind.i64 lo)), AV.p (PV.ps l.length 8 (encL l))]]⟩
                (.call ⟨8, [AV.agg [AV.ms 0 0 3 2 Option.none, AV.os Option.none 1 3 [PV.sc (Value.string (ByteArray.mk #[104, 111, 115, 116])), PV.sc (Value.string (ByteArray.mk #[102])), PV.sc (Value.int IntKind.i64 0)], AV.ms 1 0 2 3 Option.none, AV.os Option.none 1 3 [PV.sc (Value.int IntKind.u32 1), PV.sc (Value.int IntKind.u32 0), PV.sc (Value.bool false)], AV.os Option.none 1 3 [PV.sc (Value.int IntKind.u32 1), PV.sc (Value.int IntKind.u32 0), PV.sc (Value.bool false)], AV.os Option.none 2 2 [PV.sc (Value.bool true), PV.ps 1 8 [PV.sc (Value.int IntKind.i64 65), PV.sc (Value.int IntKind.i64 0), PV.sc (Value.int IntKind.u32 0), PV.sc (Value.int IntKind.u32 0), PV.sc (Value.int IntKind.i32 0), PV.ps 0 0 [], PV.ps 0 0 [], PV.ps 0 0 []], PV.sc (Value.bool false), PV.ps 1 8 [PV.sc (Value.int IntKind.i64 65), PV.sc (Value.int IntKind.i64 0), PV.sc (Value.int IntKind.u32 0), PV.sc (Value.int IntKind.u32 0), PV.sc (Value.int IntKind.i32 0), PV.ps 0 0 [], PV.ps 0 0 [], PV.ps 0 0 []]], AV.os Option.none 0 0 [], AV.p (PV.sc (Value.bool false)), AV.p (PV.sc (Value.int IntKind.u32 0)), AV.os Option.none 0 0 [], AV.os Option.none 0 0 []], AV.p (PV.sc (Value.int IntKind.i64 1))], [Blk.ob (ObK.gr 26 true) [AV.p (PV.sc (Value.int IntKind.i64 1)), AV.p (PV.sc (Value.int IntKind.i64 1)), AV.p (PV.sc (Value.int IntKind.i64 0)), AV.p (PV.sc (Value.int IntKind.i64 0)), AV.p (PV.sc (Value.int IntKind.i64 0)), AV.p (PV.sc (Value.int IntKind.i64 0))], Blk.ob (ObK.gr 41 true) [AV.p (PV.sc (Value.int IntKind.i64 1)), AV.p (PV.sc (Value.int IntKind.i64 0)), AV.p (PV.ps 0 0 []), AV.p (PV.sc (Value.int IntKind.i64 2)), AV.p (PV.sc (Value.int IntKind.i64 lo)), AV.p (PV.ps k.length 8 (encL k))]], AV.tup [AV.p (PV.sc (Value.int IntKind.i64 e4)), AV.p (PV.sc (Value.int IntKind.i64 p4))], [Blk.ob (ObK.gr 26 true) [AV.p (PV.sc (Value.int IntKind.i64 1)), AV.p (PV.sc (Value.int IntKind.i64 1)), AV.p (PV.sc (Value.int IntKind.i64 0)), AV.p (PV.sc (Value.int IntKind.i64 0)), AV.p (PV.sc (Value.int IntKind.i64 0)), AV.p (PV.sc (Value.int IntKind.i64 0))], Blk.ob (ObK.gr 41 true) [AV.p (PV.sc (Value.int IntKind.i64 1)), AV.p (PV.sc (Value.int IntKind.i64 0)), AV.p (PV.ps 0 0 []), AV.p (PV.sc (Value.int IntKind.i64 2)), AV.p (PV.sc (Value.int IntKind.i64 lo)), AV.p (PV.ps k.length 8 (encL k))]]⟩
                 (.must (((0 + l.length) * 104).ble lim && (0 + l.length).ble lim && true && (((0 + l.length + k.length) * 104).ble lim && (0 + l.length + k.length).ble lim && true && true) && true)
                  (.call ⟨8, [AV.agg [AV.ms 0 0 3 2 Option.none, AV.os Option.none 1 3 [PV.sc (Value.string (ByteArray.mk #[104, 111, 115, 116])), PV.sc (Value.string (ByteArray.mk #[102])), PV.sc (Value.int IntKind.i64 0)], AV.ms 1 0 2 3 Option.none, AV.os Option.none 1 3 [PV.sc (Value.int IntKind.u32 1), PV.sc (Value.int IntKind.u32 0), PV.sc (Value.bool false)], AV.os Option.none 1 3 [PV.sc (Value.int IntKind.u32 1), PV.sc (Value.int IntKind.u32 0), PV.sc (Value.bool false)], AV.os Option.none 2 2 [PV.sc (Value.bool true), PV.ps 1 8 [PV.sc (Value.int IntKind.i64 65), PV.sc (Value.int IntKind.i64 0), PV.sc (Value.int IntKind.u32 0), PV.sc (Value.int IntKind.u32 0), PV.sc (Value.int IntKind.i32 0), PV.ps 0 0 [], PV.ps 0 0 [], PV.ps 0 0 []], PV.sc (Value.bool false), PV.ps 1 8 [PV.sc (Value.int IntKind.i64 65), PV.sc (Value.int IntKind.i64 0), PV.sc (Value.int IntKind.u32 0), PV.sc (Value.int IntKind.u32 0), PV.sc (Value.int IntKind.i32 0), PV.ps 0 0 [], PV.ps 0 0 [], PV.ps 0 0 []]], AV.os Option.none 0 0 [], AV.p (PV.sc (Value.bool false)), AV.p (PV.sc (Value.int IntKind.u32 0)), AV.os Option.none 0 0 [], AV.os Option.none 0 0 []], AV.p (PV.sc (Value.int IntKind.i64 1))], [Blk.ob (ObK.gr 26 true) [AV.p (PV.sc (Value.int IntKind.i64 1)), AV.p (PV.sc (Value.int IntKind.i64 1)), AV.p (PV.sc (Value.int IntKind.i64 0)), AV.p (PV.sc (Value.int IntKind.i64 0)), AV.p (PV.sc (Value.int IntKind.i64 0)), AV.p (PV.sc (Value.int IntKind.i64 0))], Blk.ob (ObK.gr 41 true) [AV.p (PV.sc (Value.int IntKind.i64 1)), AV.p (PV.sc (Value.int IntKind.i64 0)), AV.p (PV.ps 0 0 []), AV.p (PV.sc (Value.int IntKind.i64 2)), AV.p (PV.sc (Value.int IntKind.i64 lo)), AV.p (PV.ps (0 + l.length + k.length) 8 ([] ++ encL l ++ encL k))]], AV.tup [AV.p (PV.sc (Value.int IntKind.i64 e5)), AV.p (PV.sc (Value.int IntKind.i64 p5))], [Blk.ob (ObK.gr 26 true) [AV.p (PV.sc (Value.int IntKind.i64 1)), AV.p (PV.sc (Value.int IntKind.i64 1)), AV.p (PV.sc (Value.int IntKind.i64 0)), AV.p (PV.sc (Value.int IntKind.i64 0)), AV.p (PV.sc (Value.int IntKind.i64 0)), AV.p (PV.sc (Value.int IntKind.i64 0))], Blk.ob (ObK.gr 41 true) [AV.p (PV.sc (Value.int IntKind.i64 1)), AV.p (PV.sc (Value.int IntKind.i64 0)), AV.p (PV.ps 0 0 []), AV.p (PV.sc (Value.int IntKind.i64 2)), AV.p (PV.sc (Value.int IntKind.i64 lo)), AV.p (PV.ps (0 + l.length + k.length) 8 ([] ++ encL l ++ encL k))]]⟩
                   (.test (e3 != 0)
                    (.must true
                     (.out (Out.ret (AV.p (PV.sc (Value.bool true))) [])))
                    (.test (e4 != 0)
                     (.must true
                      (.out (Out.ret (AV.p (PV.sc (Value.bool true))) [])))
                     (.must true
                      (.out (Out.ret (AV.p (PV.sc (Value.bool (e5 == 0)))) []))))))))))))))))))))))
theorem vpl_tree (l : List Ins) (k : List Ins) (r : Int) (lo : Int) (nl : Int) (nk : Int) (dp : Int) (tr : Int) (e1 : Int) (e2 : Int) (e3 : Int) (e4 : Int) (e5 : Int) (p1 : Int) (p2 : Int) (p3 : Int) (p4 : Int) (p5 : Int) : growF Tryz.prog envP vplOrc 1000000 5 ([aL l, aL k, sI IntKind.i64 r, sI IntKind.i64 lo]) ([]) (vplSc l k r lo nl nk dp tr e1 e2 e3 e4 e5 p1 p2 p3 p4 p5) = vplTree l k r lo nl nk dp tr e1 e2 e3 e4 e5 p1 p2 p3 p4 p5 := by kernel_rfl


theorem pick_does (r : Int) : ∃ tr : Nat, tr ≤ 1 ∧ Does Tryz.prog env 14 [sI .i64 r, sI .i64 2] [] (sI .i64 tr) [] := by
  have hr : r.tmod 2 = -1 ∨ r.tmod 2 = 0 ∨ r.tmod 2 = 1 := by
    rcases Int.le_total 0 r with h | h
    · rw [Int.tmod_eq_emod_of_nonneg h]; omega
    · have h2 : (-r).tmod 2 = -(r.tmod 2) := Int.neg_tmod ..
      rw [Int.tmod_eq_emod_of_nonneg (by omega)] at h2
      omega
  rcases hr with h | h | h
  · refine ⟨1, Nat.le_refl _, does_of_tree names (pck_tree r) ?_⟩
    simp only [pckTree, Tree.ok, h]
    exact ⟨fun _ => by rfl, fun q => absurd q (by decide)⟩
  · refine ⟨0, Nat.zero_le _, does_of_tree names (pck_tree r) ?_⟩
    simp only [pckTree, Tree.ok, h]
    exact ⟨fun q => absurd q (by decide), fun _ => by rfl⟩
  · refine ⟨1, Nat.le_refl _, does_of_tree names (pck_tree r) ?_⟩
    simp only [pckTree, Tree.ok, h]
    exact ⟨fun q => absurd q (by decide), fun _ => by rfl⟩

/-- The module as the law hands it on, and the memory about it. -/
def mV : AV := .agg [.ms 0 0 3 2 none, .os none 1 3 [.sc (.string (ByteArray.mk #[104, 111, 115, 116])), .sc (.string (ByteArray.mk #[102])), .sc (.int .i64 0)], .ms 1 0 2 3 none,
  .os none 1 3 [.sc (.int .u32 1), .sc (.int .u32 0), .sc (.bool false)], .os none 1 3 [.sc (.int .u32 1), .sc (.int .u32 0), .sc (.bool false)],
  .os none 2 2 [.sc (.bool true), .ps 1 8 (flat0 65), .sc (.bool false), .ps 1 8 (flat0 65)], .os none 0 0 [], .p (.sc (.bool false)), .p (.sc (.int .u32 0)), .os none 0 0 [], .os none 0 0 []]
def mT (tr : Int) : List PV := [.sc (.int .i64 1), .sc (.int .i64 1), .sc (.int .i64 0), .sc (.int .i64 0), .sc (.int .i64 0), .sc (.int .i64 tr)]
def mF (lo : Int) (n : Nat) (X : List PV) : List PV := [.sc (.int .i64 1), .sc (.int .i64 0), .ps 0 0 [], .sc (.int .i64 2), .sc (.int .i64 lo), .ps n 8 X]
def mM (tr lo : Int) (n : Nat) (X : List PV) : Mem := [.ob (.gr 26 true) ((mT tr).map .p), .ob (.gr 41 true) ((mF lo n X).map .p)]

theorem mV_reads {tr lo : Int} {n : Nat} {X : List PV} {L : List Ins} (hn : n = L.length) (hX : PleL X (encL L)) : Rd (mM tr lo n X) mV (.agg (rmD 0 tr lo L).cells) := by
  subst hn
  have hglob : PleL [.sc (.bool true), .ps 1 8 (flat0 65), .sc (.bool false), .ps 1 8 (flat0 65)] [.sc (.bool true), .ps 1 8 con0, .sc (.bool false), .ps 1 8 con0] :=
    ⟨.refl _, .ps ⟨.refl _, .refl _, .refl _, .refl _, .refl _, .nil, .nil, .nil, trivial⟩, .refl _, .ps ⟨.refl _, .refl _, .refl _, .refl _, .refl _, .nil, .nil, .nil, trivial⟩, trivial⟩
  refine Rd.agg ?_
  exact ⟨Rd.ms (X := mT tr) rfl (.refl _) rfl (by decide), Rd.os (.refl _), Rd.ms (X := mF lo L.length X) rfl ⟨.refl _, .refl _, .nil, .refl _, .refl _, .ps hX, trivial⟩ rfl (by decide), Rd.os (.refl _), Rd.os (.refl _), Rd.os (.ps hglob), Rd.os .nil, Rd.p (.refl _), Rd.p (.refl _), Rd.os .nil, Rd.os .nil, trivial⟩

theorem body_call {tr lo : Nat} {n : Nat} {X : List PV} {L : List Ins} (hn : n = L.length) (hX : PleL X (encL L)) (ht : tr ≤ 1) (h3 : lo ≤ 50000) (h : numL L ≤ 100000000000) (hw : wfL L) :
    Does Tryz.prog envP 8 [mV, sI .i64 1] (mM tr lo n X) (.tup [sI .i64 (bodF (rV 0 tr lo) L).1, sI .i64 ((bodF (rV 0 tr lo) L).2 : Nat)]) (mM tr lo n X) :=
  Does.toP (Does.reads (bodyT_does ht h3 h hw) ⟨mV_reads hn hX, Rd.p (.refl _), trivial⟩ fun _ _ _ _ _ q => VA.ints q)

/-- Lists behind one another. -/
theorem okL_app {p : Ins → Bool} : ∀ l k : List Ins, okL p (l ++ k) = (okL p l && okL p k)
  | [], _ => rfl
  | x :: l, k => by simp only [List.cons_append, okL, okL_app l k, Bool.and_assoc]
theorem numL_app : ∀ l k : List Ins, numL (l ++ k) = numL l + numL k
  | [], _ => by simp [numL]
  | x :: l, k => by simp only [List.cons_append, numL, numL_app l k]; omega
theorem tagL_app : ∀ l k : List Ins, tagL (l ++ k) = max (tagL l) (tagL k)
  | [], _ => by simp [tagL]
  | x :: l, k => by simp only [List.cons_append, tagL, tagL_app l k]; omega
theorem depL_app (d : Nat) : ∀ l k : List Ins, depL d (l ++ k) = max (depL d l) (depL d k)
  | [], _ => by simp [depL]
  | x :: l, k => by simp only [List.cons_append, depL, depL_app d l k]; omega
theorem wfL_app : ∀ {l k : List Ins}, wfL l → wfL k → wfL (l ++ k)
  | [], _, _, h => h
  | _ :: _, _, h, h' => ⟨h.1, wfL_app h.2 h'⟩

theorem chk_inv {l : List Ins} (h : mcF (checkF mayI l) = 0) : okL mayI l = true ∧ ¬ (262144 < numL l ∨ 16384 < tagL l ∨ 900 < depL 1 l) := by
  by_cases h1 : okL mayI l = false
  · rw [show checkF mayI l = 2 by unfold checkF; rw [if_pos h1]] at h
    exact absurd h (by decide)
  by_cases h2 : 262144 < numL l ∨ 16384 < tagL l ∨ 900 < depL 1 l
  · rw [show checkF mayI l = 141 by unfold checkF; rw [if_neg h1, if_pos h2]] at h
    exact absurd h (by decide)
  · exact ⟨by simpa using h1, h2⟩

theorem chk_ok {l : List Ins} (h1 : okL mayI l = true) (h2 : ¬ (262144 < numL l ∨ 16384 < tagL l ∨ 900 < depL 1 l)) : mcF (checkF mayI l) = 0 := by
  rw [show checkF mayI l = 0 by unfold checkF; rw [if_neg (by rw [h1]; decide), if_neg h2]]
  rfl

theorem bod_inv {V : VEnv} {l : List Ins} (h : (bodF V l).1 = 0) : mcF (checkF mayI l) = 0 ∧ (bodyV V l).1 = 0 := by
  unfold bodF at h
  by_cases q : mcF (checkF mayI l) ≠ 0
  · rw [if_pos q] at h; exact absurd h q
  · rw [if_neg q] at h; exact ⟨by simpa using q, h⟩

theorem bod_ok {V : VEnv} {l : List Ins} (h1 : mcF (checkF mayI l) = 0) (h2 : (bodyV V l).1 = 0) : (bodF V l).1 = 0 := by
  unfold bodF
  rw [if_neg (by simpa using h1)]
  exact h2

def blk (tr : Nat) (l : List Ins) : List Ins := [.mk 2 tr 0 0 0 [] l []]

theorem may_blk {tr : Nat} (ht : tr ≤ 1) (l : List Ins) : mayI (.mk 2 tr 0 0 0 [] l []) = true := by
  have ht : tr = 0 ∨ tr = 1 := by omega
  simp only [mayI]
  generalize decide ((l.length : Int) > 0) = b
  rcases ht with rfl | rfl <;> cases b <;> decide +kernel

theorem law_blk {tr lo : Nat} {l : List Ins} (ht : tr ≤ 1) (hn : cntL l ≤ 2000) (hd : depL 1 l ≤ 300) (hw : wfL l) (h : (bodF (rV 0 tr lo) l).1 = 0) : (bodF (rV 0 tr lo) (blk tr l)).1 = 0 := by
  obtain ⟨h1, h2⟩ := bod_inv h
  obtain ⟨k1, k2⟩ := chk_inv h1
  refine bod_ok (chk_ok ?_ ?_) (body_block hw h2)
  · simp only [blk, okL, okI, may_blk ht, k1, Bool.true_and]
  · have hd2 : depL 2 l ≤ depL 1 l + 1 := by
      cases l with
      | nil => simp [depL]
      | cons x r => exact Nat.le_of_eq (depL_shift 1 _ (by simp))
    have e : depL 1 (blk tr l) = max (max 1 (max (depL 2 l) 0)) 0 := by simp only [blk, depL, depI]
    have e2 : numL (blk tr l) = 1 + numL l + 0 + 0 := by simp only [blk, numL, numI]
    have e3 : tagL (blk tr l) = max (max 0 (max (tagL l) 0)) 0 := by simp only [blk, tagL, tagI, List.length_nil]
    have n1 := numL_cnt l
    rw [e, e2, e3]
    omega

theorem law_app {lo : Nat} {l k : List Ins} (hl : cntL l ≤ 2000) (hk : cntL k ≤ 2000) (hw : wfL k) (h : (bodF (rV 0 0 lo) l).1 = 0) (h' : (bodF (rV 0 0 lo) k).1 = 0) : (bodF (rV 0 0 lo) (l ++ k)).1 = 0 := by
  obtain ⟨h1, h2⟩ := bod_inv h
  obtain ⟨h1', h2'⟩ := bod_inv h'
  obtain ⟨k1, k2⟩ := chk_inv h1
  obtain ⟨k1', k2'⟩ := chk_inv h1'
  refine bod_ok (chk_ok ?_ ?_) (body_append rfl hw h2 h2')
  · rw [okL_app, k1, k1']; rfl
  · have n1 := numL_cnt l
    have n2 := numL_cnt k
    rw [numL_app, tagL_app, depL_app]
    omega

theorem blk_wf {tr : Nat} {l : List Ins} (ht : tr ≤ 1) (hl : l.length ≤ maxLen) (hw : wfL l) : wfL (blk tr l) := by
  have ht : tr = 0 ∨ tr = 1 := by omega
  refine ⟨⟨rfl, by rcases ht with rfl | rfl <;> rfl, rfl, rfl, rfl, ⟨Nat.zero_le _, fun _ h => by cases h⟩, ⟨hl, hw⟩, Nat.zero_le _, trivial⟩, trivial⟩

theorem blk_le (tr : Nat) (l : List Ins) : PleL [.sc (.int .i64 2), .sc (.int .i64 tr), .sc (.int .u32 0), .sc (.int .u32 0), .sc (.int .i32 0), .ps 0 0 [], .ps l.length 8 (encL l), .ps 0 0 []] (encL (blk tr l)) :=
  ⟨.refl _, .refl _, .refl _, .refl _, .refl _, .nil, .refl _, .nil, trivial⟩

set_option maxRecDepth 100000 in
/-- The law. -/
theorem vp_does (l k : List Ins) (r lo : Int) (hl : l.length ≤ maxLen) (hw : wfL l) (hkl : k.length ≤ maxLen) (hkw : wfL k) : Does Tryz.prog envP 5 [aL l, aL k, sI .i64 r, sI .i64 lo] [] (sB true) [] := by
  have haw : Does Tryz.prog envP 12 [] [] (sB true) [] := Go.Am.Does.env Awdoes fun _ _ q => q
  have hil := Does.toP (instrs_does (cntL l) l 2000 (Nat.le_refl _) hl hw (by decide) (by decide))
  have hik := Does.toP (instrs_does (cntL k) k 2000 (Nat.le_refl _) hkl hkw (by decide) (by decide))
  obtain ⟨tr, ht, hp⟩ := pick_does r
  have hp := Does.toP hp
  refine does_of_tree names (vpl_tree l k r lo (insF l 2000 0) (insF k 2000 0) (depL 1 l) tr (bodF (rV 0 tr lo.toNat) l).1 (bodF (rV 0 tr lo.toNat) (blk tr l)).1 (bodF (rV 0 0 lo.toNat) l).1 (bodF (rV 0 0 lo.toNat) k).1 (bodF (rV 0 0 lo.toNat) (l ++ k)).1
    ((bodF (rV 0 tr lo.toNat) l).2 : Nat) ((bodF (rV 0 tr lo.toNat) (blk tr l)).2 : Nat) ((bodF (rV 0 0 lo.toNat) l).2 : Nat) ((bodF (rV 0 0 lo.toNat) k).2 : Nat) ((bodF (rV 0 0 lo.toNat) (l ++ k)).2 : Nat)) ?_
  simp only [vplTree, Tree.ok, implies_true, true_and]
  refine ⟨haw, hil, fun h1 => ⟨hik, fun h2 => ?_⟩⟩
  have h1 : insF l 2000 0 ≤ 2000 := by simp only [decide_eq_false_iff_not] at h1; omega
  have h2 : insF k 2000 0 ≤ 2000 := by simp only [decide_eq_false_iff_not] at h2; omega
  have c1 := insF_cnt l 2000 0 (by decide) (by decide) h1
  have c2 := insF_cnt k 2000 0 (by decide) (by decide) h2
  have c1 : cntL l ≤ 2000 := by omega
  have c2 : cntL k ≤ 2000 := by omega
  have n1 := numL_cnt l
  have n2 := numL_cnt k
  have q1 := numL_length l
  have q2 := numL_length k
  refine ⟨Does.toP (deep_does l (by omega)), fun h3 h4 h5 => ?_⟩
  have h3 : depL 1 l ≤ 300 := by simp only [decide_eq_false_iff_not] at h3; omega
  have h4 : 0 ≤ lo := by simp only [decide_eq_false_iff_not] at h4; omega
  have h5 : lo ≤ 1000 := by simp only [decide_eq_false_iff_not] at h5; omega
  obtain ⟨lo, rfl⟩ := Int.eq_ofNat_of_zero_le h4
  simp only [Int.toNat_natCast]
  have b1 := body_call (tr := tr) (lo := lo) (L := l) rfl (.refl _) ht (by omega) (by omega) hw
  have b2 := body_call (tr := tr) (lo := lo) (L := blk tr l) rfl (blk_le tr l) ht (by omega) (by show 1 + numL l + 0 + 0 ≤ _; omega) (blk_wf ht hl hw)
  have b3 := body_call (tr := 0) (lo := lo) (L := l) rfl (.refl _) (by decide) (by omega) (by omega) hw
  have b4 := body_call (tr := 0) (lo := lo) (L := k) rfl (.refl _) (by decide) (by omega) (by omega) hkw
  have b5 := body_call (tr := 0) (lo := lo) (n := 0 + l.length + k.length) (X := [] ++ encL l ++ encL k) (L := l ++ k) (by simp) (by rw [List.nil_append, encL_append]; exact .refl _) (by decide) (by omega) (by rw [numL_app]; omega) (wfL_app hw hkw)
  have r1 := law_blk (lo := lo) ht c1 h3 hw
  have r2 := law_app (lo := lo) c1 c2 hkw
  generalize bodF (rV 0 tr lo) l = E1 at b1 r1 ⊢
  generalize bodF (rV 0 tr lo) (blk tr l) = E2 at b2 r1 ⊢
  generalize bodF (rV 0 0 lo) l = E3 at b3 r2 ⊢
  generalize bodF (rV 0 0 lo) k = E4 at b4 r2 ⊢
  generalize bodF (rV 0 0 lo) (l ++ k) = E5 at b5 r2 ⊢
  have hlim : (((0 + l.length) * 104).ble lim && (0 + l.length).ble lim && true && (((0 + l.length + k.length) * 104).ble lim && (0 + l.length + k.length).ble lim && true && true) && true) = true := by
    have hL : (1000000000 : Nat) ≤ lim := Nat.le_of_ble_eq_true (by kernel_rfl)
    simp only [Bool.and_true, Bool.and_eq_true, Nat.ble_eq]
    omega
  refine ⟨hp, b1, b2, fun e1 => ⟨fun e2 => ?_, fun e2 => ⟨b3, b4, hlim, b5, fun e4 e5 => ?_⟩⟩, fun e1 => ⟨b3, b4, hlim, b5, fun e4 e5 => ?_⟩⟩
  · have e1 : E1.1 = 0 := by simpa using e1
    have e2 : E2.1 ≠ 0 := by simpa using e2
    exact absurd (r1 e1) e2
  · have e4 : E3.1 = 0 := by simpa using e4
    have e5 : E4.1 = 0 := by simpa using e5
    rw [r2 e4 e5]; rfl
  · have e4 : E3.1 = 0 := by simpa using e4
    have e5 : E4.1 = 0 := by simpa using e5
    rw [r2 e4 e5]; rfl

end Go.Proofs.YtgbphddecpjlhaaGreatDoor.N
end

section
namespace Go.Proofs.YtgbphddecpjlhaaGreatDoor.N
open Go Go.Am

def laidTab : List (String × DataW Unit) := Rows.validPartsRow.laid

theorem tabs_hold {W : World} (h : laidMetH Tryz.prog laidTab W) : TabsHold tabs W := by
  rw [MakeChecks.laidMetH_plain _ _ _ (by kernel_rfl)] at h
  exact tabsHold_cons (table_holds (n := 256) (t := 191) (e := 5) (k := .u8) (zs := spaceZ) (Lib.laidMet.reads h (n := "strings.asciiSpace") (d := Rows.laid_strings_asciiSpace) (.tail _ (.tail _ (.head _)))) (by kernel_rfl) (by kernel_rfl) (by kernel_rfl) (by kernel_rfl) (by kernel_rfl) (by kernel_rfl) (Nat.le_of_ble_eq_true (by kernel_rfl)))
    (tabsHold_cons (table_holds (n := 256) (t := 191) (e := 5) (k := .u8) (zs := firstZ) (Lib.laidMet.reads h (n := "unicode/utf8.first") (d := Rows.laid_unicode_utf8_first) (.tail _ (.tail _ (.tail _ (.head _))))) (by kernel_rfl) (by kernel_rfl) (by kernel_rfl) (by kernel_rfl) (by kernel_rfl) (by kernel_rfl) (Nat.le_of_ble_eq_true (by kernel_rfl)))
    (tabsHold_nil))

end Go.Proofs.YtgbphddecpjlhaaGreatDoor.N
end
