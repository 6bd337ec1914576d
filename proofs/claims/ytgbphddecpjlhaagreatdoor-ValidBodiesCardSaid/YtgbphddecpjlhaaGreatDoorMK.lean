/-
  The looker's composed calls: their trees (printed by a program of mine).
  The looker's turns, as the document's words: what is taken, told, opened, left; labels; what is asked.
  The looker's composed calls, one behind the other: by their trees.
-/
import Derived.Test.YtgbphddecpjlhaaGreatDoorMJ
import Derived.Test.YtgbphddecpjlhaaGreatDoorMH

section
set_option linter.unusedVariables false
namespace Go.Proofs.YtgbphddecpjlhaaGreatDoor.N
open Go Go.Am

def isRun (f : FuncId) : Bool := Nat.beq f 110 || (Nat.beq f 111 || (Nat.beq f 107 || (Nat.beq f 34 || (Nat.beq f 134 || (Nat.beq f 114 || (Nat.beq f 141 || (Nat.beq f 33 || (Nat.beq f 83 || (Nat.beq f 108 || (Nat.beq f 112 || Nat.beq f 115))))))))))
def nth (X : Lx) (R R1 R2 R3 R4 R5 R6 R7 : Rw) (i : Nat) : Rw := match i with
  | 0 => R1
  | 1 => R2
  | 2 => R3
  | 3 => R4
  | 4 => R5
  | 5 => R6
  | _ => R7
def sq (X : Lx) (R R1 R2 R3 R4 R5 R6 R7 : Rw) (i : Nat) (f : FuncId) (_ : List AV) (_ : Mem) : Option (AV × Mem) := cond (isRun f) (some (.tup [], memOut X (nth X R R1 R2 R3 R4 R5 R6 R7 i))) (cond (Nat.beq f 113) (some (.tup [], memIn X (nth X R R1 R2 R3 R4 R5 R6 R7 i))) none)
def shpC (X : Lx) (R R1 R2 R3 R4 R5 R6 R7 : Rw) (op q tk tl : Int) (is : Bool) (f : FuncId) (_ : List AV) (m : Mem) : Option (AV × Mem) := cond (Nat.beq f 157) (some (.tup [sI .i64 tk, sI .i64 tl, sB is], m)) none
def plaC (X : Lx) (R R1 R2 R3 R4 R5 R6 R7 : Rw) (op r a b nn : Int) (tg : List Int) (ll le : List Ins) (q al : Int) (st mu : Bool) (f : FuncId) (_ : List AV) (m : Mem) : Option (AV × Mem) := cond (Nat.beq f 140) (some (.tup [sI .u32 al, sB st], m)) none
def plaE (X : Lx) (R R1 R2 R3 R4 R5 R6 R7 : Rw) (op r a b nn : Int) (tg : List Int) (ll le : List Ins) (q al : Int) (st mu : Bool) : Env := envW [(115, 53, sB mu)]
def insSq (X : Lx) (R R1 R2 R3 R4 R5 R6 R7 : Rw) (op r a b nn : Int) (tg : List Int) (ll le : List Ins) (q v P Q : Int) (is : Bool) (i : Nat) (f : FuncId) (l : List AV) (m : Mem) : Option (AV × Mem) := cond (Nat.beq f 109) (some (sI .i64 v, memIn X (nth X R R1 R2 R3 R4 R5 R6 R7 i))) (cond (Nat.beq f 31) (some (.tup [.agg [sI .i64 P, sI .i64 Q], sB is], m)) (sq X R R1 R2 R3 R4 R5 R6 R7 i f l m))
def insQ (X : Lx) (R R1 R2 R3 R4 R5 R6 R7 : Rw) (op r a b nn : Int) (tg : List Int) (ll le : List Ins) (q v P Q : Int) (is : Bool) : Nat → FuncId → List AV → Mem → Option (AV × Mem) := insSq X R R1 R2 R3 R4 R5 R6 R7 op r a b nn tg ll le q v P Q is
def iiTE (X : Lx) (R R1 R2 R3 R4 R5 R6 R7 : Rw) (op r a b nn : Int) (tg : List Int) (ll le : List Ins) (q v P Q : Int) (is : Bool) : Env := envW [(83, 110, sB true), (83, 140, .agg [sI .i64 P, sI .i64 Q])]
def iiFE (X : Lx) (R R1 R2 R3 R4 R5 R6 R7 : Rw) (op r a b nn : Int) (tg : List Int) (ll le : List Ins) (q v P Q : Int) (is : Bool) : Env := envW [(83, 110, sB false)]
noncomputable def calOrc : Orc := orcL noCall noLed [] [] []
noncomputable def calSc (X : Lx) (R : Rw) (R1 : Rw) (R2 : Rw) (R3 : Rw) (R4 : Rw) (R5 : Rw) (R6 : Rw) (R7 : Rw) (P Q q : Int) : Sc := (.ans 110 (.tup []) ([lkB X.M X.tP X.tR X.own R1.h 2 R1.k R1.e R1.p R1.nx, .dead, .ob (ObK.gr 135 true) (List.map AV.p R1.cs)]) (.ans 111 (.tup []) ([lkB X.M X.tP X.tR X.own R2.h 2 R2.k R2.e R2.p R2.nx, .dead, .ob (ObK.gr 135 true) (List.map AV.p R2.cs)]) .fin))
noncomputable def calTree (X : Lx) (R : Rw) (R1 : Rw) (R2 : Rw) (R3 : Rw) (R4 : Rw) (R5 : Rw) (R6 : Rw) (R7 : Rw) (P Q q : Int) : Tree :=
 (.call ⟨110, [.mp 0 0, sI .i64 P, sI .i64 q], [lkB X.M X.tP X.tR X.own R.h 1 R.k R.e R.p R.nx, .ob (ObK.gr 135 true) (List.map keepP (List.map AV.p R.cs))], .tup [], [lkB X.M X.tP X.tR X.own R1.h 2 R1.k R1.e R1.p R1.nx, .dead, .ob (ObK.gr 135 true) (List.map AV.p R1.cs)]⟩
 (.call ⟨111, [.mp 0 0, sI .i64 Q, sI .i64 q], [lkB X.M X.tP X.tR X.own R1.h 1 R1.k R1.e R1.p R1.nx, .ob (ObK.gr 135 true) (List.map keepP (List.map keepP (List.map AV.p R1.cs)))], .tup [], [lkB X.M X.tP X.tR X.own R2.h 2 R2.k R2.e R2.p R2.nx, .dead, .ob (ObK.gr 135 true) (List.map AV.p R2.cs)]⟩
 (.out (.ret (.tup []) [lkB X.M X.tP X.tR X.own R2.h 2 R2.k R2.e R2.p R2.nx, .dead, .ob (ObK.gr 135 true) (List.map keepP (List.map keepP (List.map AV.p R2.cs)))]))))
theorem cal_tree (X : Lx) (R : Rw) (R1 : Rw) (R2 : Rw) (R3 : Rw) (R4 : Rw) (R5 : Rw) (R6 : Rw) (R7 : Rw) (P Q q : Int) : growF Tryz.prog env calOrc 1000000 114 ([AV.mp 0 0, AV.agg [sI IntKind.i64 P, sI IntKind.i64 Q], sI IntKind.i64 q]) (memIn X R) (calSc X R R1 R2 R3 R4 R5 R6 R7 P Q q) = calTree X R R1 R2 R3 R4 R5 R6 R7 P Q q := by kernel_rfl

noncomputable def shpOrc (X : Lx) (R : Rw) (R1 : Rw) (R2 : Rw) (R3 : Rw) (R4 : Rw) (R5 : Rw) (R6 : Rw) (R7 : Rw) (op q tk tl : Int) (is : Bool) : Orc := orcL (shpC X R R1 R2 R3 R4 R5 R6 R7 op q tk tl is) noLed [] [] []
noncomputable def shpSc (X : Lx) (R : Rw) (R1 : Rw) (R2 : Rw) (R3 : Rw) (R4 : Rw) (R5 : Rw) (R6 : Rw) (R7 : Rw) (op q tk tl : Int) (is : Bool) : Sc := (.ans 110 (.tup []) ([lkB X.M X.tP X.tR X.own R1.h 2 R1.k R1.e R1.p R1.nx, .dead, .ob (ObK.gr 135 true) (List.map AV.p R1.cs)]) (.ans 111 (.tup []) ([lkB X.M X.tP X.tR X.own R2.h 2 R2.k R2.e R2.p R2.nx, .dead, .ob (ObK.gr 135 true) (List.map AV.p R2.cs)]) .fin))
noncomputable def shpTree (X : Lx) (R : Rw) (R1 : Rw) (R2 : Rw) (R3 : Rw) (R4 : Rw) (R5 : Rw) (R6 : Rw) (R7 : Rw) (op q tk tl : Int) (is : Bool) : Tree :=
 (.call ⟨157, [sI .i64 op], [], .tup [sI .i64 tk, sI .i64 tl, .p (.sc (.bool is))], []⟩
 (.call ⟨110, [.mp 0 0, sI .i64 tk, sI .i64 q], [lkB X.M X.tP X.tR X.own R.h 1 R.k R.e R.p R.nx, .ob (ObK.gr 135 true) (List.map keepP (List.map AV.p R.cs))], .tup [], [lkB X.M X.tP X.tR X.own R1.h 2 R1.k R1.e R1.p R1.nx, .dead, .ob (ObK.gr 135 true) (List.map AV.p R1.cs)]⟩
 (.call ⟨111, [.mp 0 0, sI .i64 tl, sI .i64 q], [lkB X.M X.tP X.tR X.own R1.h 1 R1.k R1.e R1.p R1.nx, .ob (ObK.gr 135 true) (List.map keepP (List.map keepP (List.map AV.p R1.cs)))], .tup [], [lkB X.M X.tP X.tR X.own R2.h 2 R2.k R2.e R2.p R2.nx, .dead, .ob (ObK.gr 135 true) (List.map AV.p R2.cs)]⟩
 (.out (.ret (.tup []) [lkB X.M X.tP X.tR X.own R2.h 2 R2.k R2.e R2.p R2.nx, .dead, .ob (ObK.gr 135 true) (List.map keepP (List.map keepP (List.map AV.p R2.cs)))])))))
theorem shp_tree (X : Lx) (R : Rw) (R1 : Rw) (R2 : Rw) (R3 : Rw) (R4 : Rw) (R5 : Rw) (R6 : Rw) (R7 : Rw) (op q tk tl : Int) (is : Bool) : growF Tryz.prog env (shpOrc X R R1 R2 R3 R4 R5 R6 R7 op q tk tl is) 1000000 141 ([AV.mp 0 0, sI IntKind.i64 op, sI IntKind.i64 q]) (memIn X R) (shpSc X R R1 R2 R3 R4 R5 R6 R7 op q tk tl is) = shpTree X R R1 R2 R3 R4 R5 R6 R7 op q tk tl is := by kernel_rfl

noncomputable def plaOrc (X : Lx) (R : Rw) (R1 : Rw) (R2 : Rw) (R3 : Rw) (R4 : Rw) (R5 : Rw) (R6 : Rw) (R7 : Rw) (op r a b nn : Int) (tg : List Int) (ll : List Ins) (le : List Ins) (q al : Int) (st : Bool) (mu : Bool) : Orc := orcL (plaC X R R1 R2 R3 R4 R5 R6 R7 op r a b nn tg ll le q al st mu) noLed [] [(115, 0, 0), (115, 0, 2), (115, 0, 1), (115, 0, 3), (115, 0, 7), (115, 0, 4), (115, 0, 5), (115, 0, 6), (115, 0, 8)] [(115, 0, 8)]
noncomputable def plaSc (X : Lx) (R : Rw) (R1 : Rw) (R2 : Rw) (R3 : Rw) (R4 : Rw) (R5 : Rw) (R6 : Rw) (R7 : Rw) (op r a b nn : Int) (tg : List Int) (ll : List Ins) (le : List Ins) (q al : Int) (st : Bool) (mu : Bool) : Sc := (.fork (.yes (.ans 113 (.tup []) ([lkB X.M X.tP X.tR X.own R1.h 1 R1.k R1.e R1.p R1.nx, .ob (ObK.gr 135 true) (List.map AV.p R1.cs)]) (.ans 141 (.tup []) ([lkB X.M X.tP X.tR X.own R2.h 2 R2.k R2.e R2.p R2.nx, .dead, .ob (ObK.gr 135 true) (List.map AV.p R2.cs)]) .fin))) (.fork (.yes (.ans 113 (.tup []) ([lkB X.M X.tP X.tR X.own R1.h 1 R1.k R1.e R1.p R1.nx, .ob (ObK.gr 135 true) (List.map AV.p R1.cs)]) (.ans 141 (.tup []) ([lkB X.M X.tP X.tR X.own R2.h 2 R2.k R2.e R2.p R2.nx, .dead, .ob (ObK.gr 135 true) (List.map AV.p R2.cs)]) .fin))) (.fork (.ans 113 (.tup []) ([lkB X.M X.tP X.tR X.own R1.h 1 R1.k R1.e R1.p R1.nx, .ob (ObK.gr 135 true) (List.map AV.p R1.cs)]) (.ans 141 (.tup []) ([lkB X.M X.tP X.tR X.own R2.h 2 R2.k R2.e R2.p R2.nx, .dead, .ob (ObK.gr 135 true) (List.map AV.p R2.cs)]) .fin)) (.fork (.fork (.ans 113 (.tup []) ([lkB X.M X.tP X.tR X.own R1.h 1 R1.k R1.e R1.p R1.nx, .ob (ObK.gr 135 true) (List.map AV.p R1.cs)]) (.ans 113 (.tup []) ([lkB X.M X.tP X.tR X.own R2.h 1 R2.k R2.e R2.p R2.nx, .ob (ObK.gr 135 true) (List.map AV.p R2.cs)]) (.ans 141 (.tup []) ([lkB X.M X.tP X.tR X.own R3.h 2 R3.k R3.e R3.p R3.nx, .dead, .ob (ObK.gr 135 true) (List.map AV.p R3.cs)]) .fin))) (.ans 113 (.tup []) ([lkB X.M X.tP X.tR X.own R1.h 1 R1.k R1.e R1.p R1.nx, .ob (ObK.gr 135 true) (List.map AV.p R1.cs)]) (.ans 141 (.tup []) ([lkB X.M X.tP X.tR X.own R2.h 2 R2.k R2.e R2.p R2.nx, .dead, .ob (ObK.gr 135 true) (List.map AV.p R2.cs)]) .fin))) (.fork (.ans 113 (.tup []) ([lkB X.M X.tP X.tR X.own R1.h 1 R1.k R1.e R1.p R1.nx, .ob (ObK.gr 135 true) (List.map AV.p R1.cs)]) (.ans 141 (.tup []) ([lkB X.M X.tP X.tR X.own R2.h 2 R2.k R2.e R2.p R2.nx, .dead, .ob (ObK.gr 135 true) (List.map AV.p R2.cs)]) .fin)) (.fork (.yes (.ans 113 (.tup []) ([lkB X.M X.tP X.tR X.own R1.h 1 R1.k R1.e R1.p R1.nx, .ob (ObK.gr 135 true) (List.map AV.p R1.cs)]) (.ans 141 (.tup []) ([lkB X.M X.tP X.tR X.own R2.h 2 R2.k R2.e R2.p R2.nx, .dead, .ob (ObK.gr 135 true) (List.map AV.p R2.cs)]) .fin))) (.fork (.ans 113 (.tup []) ([lkB X.M X.tP X.tR X.own R1.h 1 R1.k R1.e R1.p R1.nx, .ob (ObK.gr 135 true) (List.map AV.p R1.cs)]) (.ans 141 (.tup []) ([lkB X.M X.tP X.tR X.own R2.h 2 R2.k R2.e R2.p R2.nx, .dead, .ob (ObK.gr 135 true) (List.map AV.p R2.cs)]) .fin)) (.fork (.ans 113 (.tup []) ([lkB X.M X.tP X.tR X.own R1.h 1 R1.k R1.e R1.p R1.nx, .ob (ObK.gr 135 true) (List.map AV.p R1.cs)]) (.ans 113 (.tup []) ([lkB X.M X.tP X.tR X.own R2.h 1 R2.k R2.e R2.p R2.nx, .ob (ObK.gr 135 true) (List.map AV.p R2.cs)]) (.ans 141 (.tup []) ([lkB X.M X.tP X.tR X.own R3.h 2 R3.k R3.e R3.p R3.nx, .dead, .ob (ObK.gr 135 true) (List.map AV.p R3.cs)]) .fin))) (.ans 141 (.tup []) ([lkB X.M X.tP X.tR X.own R1.h 2 R1.k R1.e R1.p R1.nx, .dead, .ob (ObK.gr 135 true) (List.map AV.p R1.cs)]) .fin)))))))))
noncomputable def plaTree (X : Lx) (R : Rw) (R1 : Rw) (R2 : Rw) (R3 : Rw) (R4 : Rw) (R5 : Rw) (R6 : Rw) (R7 : Rw) (op r a b nn : Int) (tg : List Int) (ll : List Ins) (le : List Ins) (q al : Int) (st : Bool) (mu : Bool) : Tree :=
 (.test (op == 32)
 (.must (op == 32)
 (.call ⟨113, [.mp 0 0, .p (.sc (.bool (decide (IntKind.u64.wrap a < X.own)))), sI .i64 6, sI .i64 q], [lkB X.M X.tP X.tR X.own R.h 1 R.k R.e R.p R.nx, .ob (ObK.gr 135 true) (List.map keepP (List.map AV.p R.cs))], .tup [], [lkB X.M X.tP X.tR X.own R1.h 1 R1.k R1.e R1.p R1.nx, .ob (ObK.gr 135 true) (List.map AV.p R1.cs)]⟩
 (.call ⟨141, [.mp 0 0, sI .i64 op, sI .i64 q], [lkB X.M X.tP X.tR X.own R1.h 1 R1.k R1.e R1.p R1.nx, .ob (ObK.gr 135 true) (List.map keepP (List.map keepP (List.map AV.p R1.cs)))], .tup [], [lkB X.M X.tP X.tR X.own R2.h 2 R2.k R2.e R2.p R2.nx, .dead, .ob (ObK.gr 135 true) (List.map AV.p R2.cs)]⟩
 (.out (.ret (.tup []) [lkB X.M X.tP X.tR X.own R2.h 2 R2.k R2.e R2.p R2.nx, .dead, .ob (ObK.gr 135 true) (List.map keepP (List.map keepP (List.map AV.p R2.cs)))])))))
 (.test (op == 33)
 (.must (op == 33)
 (.call ⟨113, [.mp 0 0, .p (.sc (.bool (decide (IntKind.u64.wrap a < X.own)))), sI .i64 6, sI .i64 q], [lkB X.M X.tP X.tR X.own R.h 1 R.k R.e R.p R.nx, .ob (ObK.gr 135 true) (List.map keepP (List.map AV.p R.cs))], .tup [], [lkB X.M X.tP X.tR X.own R1.h 1 R1.k R1.e R1.p R1.nx, .ob (ObK.gr 135 true) (List.map AV.p R1.cs)]⟩
 (.call ⟨141, [.mp 0 0, sI .i64 op, sI .i64 q], [lkB X.M X.tP X.tR X.own R1.h 1 R1.k R1.e R1.p R1.nx, .ob (ObK.gr 135 true) (List.map keepP (List.map keepP (List.map AV.p R1.cs)))], .tup [], [lkB X.M X.tP X.tR X.own R2.h 2 R2.k R2.e R2.p R2.nx, .dead, .ob (ObK.gr 135 true) (List.map AV.p R2.cs)]⟩
 (.out (.ret (.tup []) [lkB X.M X.tP X.tR X.own R2.h 2 R2.k R2.e R2.p R2.nx, .dead, .ob (ObK.gr 135 true) (List.map keepP (List.map keepP (List.map AV.p R2.cs)))])))))
 (.test (op == 34)
 (.call ⟨113, [.mp 0 0, .p (.sc (.bool (decide (IntKind.u64.wrap a < X.own)))), sI .i64 6, sI .i64 q], [lkB X.M X.tP X.tR X.own R.h 1 R.k R.e R.p R.nx, .ob (ObK.gr 135 true) (List.map keepP (List.map AV.p R.cs))], .tup [], [lkB X.M X.tP X.tR X.own R1.h 1 R1.k R1.e R1.p R1.nx, .ob (ObK.gr 135 true) (List.map AV.p R1.cs)]⟩
 (.call ⟨141, [.mp 0 0, sI .i64 op, sI .i64 q], [lkB X.M X.tP X.tR X.own R1.h 1 R1.k R1.e R1.p R1.nx, .ob (ObK.gr 135 true) (List.map keepP (List.map keepP (List.map AV.p R1.cs)))], .tup [], [lkB X.M X.tP X.tR X.own R2.h 2 R2.k R2.e R2.p R2.nx, .dead, .ob (ObK.gr 135 true) (List.map AV.p R2.cs)]⟩
 (.out (.ret (.tup []) [lkB X.M X.tP X.tR X.own R2.h 2 R2.k R2.e R2.p R2.nx, .dead, .ob (ObK.gr 135 true) (List.map keepP (List.map keepP (List.map AV.p R2.cs)))]))))
 (.test (op == 36)
 (.test (decide (IntKind.u64.wrap a < IntKind.u64.wrap (↑X.M.glN : Int)))
 (.must (inB a X.M.glN && true && true && (isBool (X.M.glC.getD (a.toNat * 2 + 0) PV.bad) && true && eqAV (.p (.sc (.bool (pvBool (X.M.glC.getD (a.toNat * 2 + 0) PV.bad))))) (.p (.sc (.bool mu))) && true) && true)
 (.call ⟨113, [.mp 0 0, .p (.sc (.bool mu)), sI .i64 212, sI .i64 q], [lkB X.M X.tP X.tR X.own R.h 1 R.k R.e R.p R.nx, .ob (ObK.gr 135 true) (List.map keepP (List.map AV.p R.cs))], .tup [], [lkB X.M X.tP X.tR X.own R1.h 1 R1.k R1.e R1.p R1.nx, .ob (ObK.gr 135 true) (List.map AV.p R1.cs)]⟩
 (.must true
 (.call ⟨113, [.mp 0 0, .p (.sc (.bool (decide (IntKind.u64.wrap a < IntKind.u64.wrap (↑X.M.glN : Int))))), sI .i64 6, sI .i64 q], [lkB X.M X.tP X.tR X.own R1.h 1 R1.k R1.e R1.p R1.nx, .ob (ObK.gr 135 true) (List.map keepP (List.map keepP (List.map AV.p R1.cs)))], .tup [], [lkB X.M X.tP X.tR X.own R2.h 1 R2.k R2.e R2.p R2.nx, .ob (ObK.gr 135 true) (List.map AV.p R2.cs)]⟩
 (.call ⟨141, [.mp 0 0, sI .i64 op, sI .i64 q], [lkB X.M X.tP X.tR X.own R2.h 1 R2.k R2.e R2.p R2.nx, .ob (ObK.gr 135 true) (List.map keepP (List.map keepP (List.map AV.p R2.cs)))], .tup [], [lkB X.M X.tP X.tR X.own R3.h 2 R3.k R3.e R3.p R3.nx, .dead, .ob (ObK.gr 135 true) (List.map AV.p R3.cs)]⟩
 (.out (.ret (.tup []) [lkB X.M X.tP X.tR X.own R3.h 2 R3.k R3.e R3.p R3.nx, .dead, .ob (ObK.gr 135 true) (List.map keepP (List.map keepP (List.map AV.p R3.cs)))])))))))
 (.must true
 (.call ⟨113, [.mp 0 0, .p (.sc (.bool (decide (IntKind.u64.wrap a < IntKind.u64.wrap (↑X.M.glN : Int))))), sI .i64 6, sI .i64 q], [lkB X.M X.tP X.tR X.own R.h 1 R.k R.e R.p R.nx, .ob (ObK.gr 135 true) (List.map keepP (List.map AV.p R.cs))], .tup [], [lkB X.M X.tP X.tR X.own R1.h 1 R1.k R1.e R1.p R1.nx, .ob (ObK.gr 135 true) (List.map AV.p R1.cs)]⟩
 (.call ⟨141, [.mp 0 0, sI .i64 op, sI .i64 q], [lkB X.M X.tP X.tR X.own R1.h 1 R1.k R1.e R1.p R1.nx, .ob (ObK.gr 135 true) (List.map keepP (List.map keepP (List.map AV.p R1.cs)))], .tup [], [lkB X.M X.tP X.tR X.own R2.h 2 R2.k R2.e R2.p R2.nx, .dead, .ob (ObK.gr 135 true) (List.map AV.p R2.cs)]⟩
 (.out (.ret (.tup []) [lkB X.M X.tP X.tR X.own R2.h 2 R2.k R2.e R2.p R2.nx, .dead, .ob (ObK.gr 135 true) (List.map keepP (List.map keepP (List.map AV.p R2.cs)))]))))))
 (.test (op == 35)
 (.must true
 (.call ⟨113, [.mp 0 0, .p (.sc (.bool (decide (IntKind.u64.wrap a < IntKind.u64.wrap (↑X.M.glN : Int))))), sI .i64 6, sI .i64 q], [lkB X.M X.tP X.tR X.own R.h 1 R.k R.e R.p R.nx, .ob (ObK.gr 135 true) (List.map keepP (List.map AV.p R.cs))], .tup [], [lkB X.M X.tP X.tR X.own R1.h 1 R1.k R1.e R1.p R1.nx, .ob (ObK.gr 135 true) (List.map AV.p R1.cs)]⟩
 (.call ⟨141, [.mp 0 0, sI .i64 op, sI .i64 q], [lkB X.M X.tP X.tR X.own R1.h 1 R1.k R1.e R1.p R1.nx, .ob (ObK.gr 135 true) (List.map keepP (List.map keepP (List.map AV.p R1.cs)))], .tup [], [lkB X.M X.tP X.tR X.own R2.h 2 R2.k R2.e R2.p R2.nx, .dead, .ob (ObK.gr 135 true) (List.map AV.p R2.cs)]⟩
 (.out (.ret (.tup []) [lkB X.M X.tP X.tR X.own R2.h 2 R2.k R2.e R2.p R2.nx, .dead, .ob (ObK.gr 135 true) (List.map keepP (List.map keepP (List.map AV.p R2.cs)))])))))
 (.test (op == 63)
 (.must (op == 63)
 (.call ⟨113, [.mp 0 0, .p (.sc (.bool (decide ((↑X.M.meN : Int) > 0)))), sI .i64 6, sI .i64 q], [lkB X.M X.tP X.tR X.own R.h 1 R.k R.e R.p R.nx, .ob (ObK.gr 135 true) (List.map keepP (List.map AV.p R.cs))], .tup [], [lkB X.M X.tP X.tR X.own R1.h 1 R1.k R1.e R1.p R1.nx, .ob (ObK.gr 135 true) (List.map AV.p R1.cs)]⟩
 (.call ⟨141, [.mp 0 0, sI .i64 op, sI .i64 q], [lkB X.M X.tP X.tR X.own R1.h 1 R1.k R1.e R1.p R1.nx, .ob (ObK.gr 135 true) (List.map keepP (List.map keepP (List.map AV.p R1.cs)))], .tup [], [lkB X.M X.tP X.tR X.own R2.h 2 R2.k R2.e R2.p R2.nx, .dead, .ob (ObK.gr 135 true) (List.map AV.p R2.cs)]⟩
 (.out (.ret (.tup []) [lkB X.M X.tP X.tR X.own R2.h 2 R2.k R2.e R2.p R2.nx, .dead, .ob (ObK.gr 135 true) (List.map keepP (List.map keepP (List.map AV.p R2.cs)))])))))
 (.test (op == 64)
 (.call ⟨113, [.mp 0 0, .p (.sc (.bool (decide ((↑X.M.meN : Int) > 0)))), sI .i64 6, sI .i64 q], [lkB X.M X.tP X.tR X.own R.h 1 R.k R.e R.p R.nx, .ob (ObK.gr 135 true) (List.map keepP (List.map AV.p R.cs))], .tup [], [lkB X.M X.tP X.tR X.own R1.h 1 R1.k R1.e R1.p R1.nx, .ob (ObK.gr 135 true) (List.map AV.p R1.cs)]⟩
 (.call ⟨141, [.mp 0 0, sI .i64 op, sI .i64 q], [lkB X.M X.tP X.tR X.own R1.h 1 R1.k R1.e R1.p R1.nx, .ob (ObK.gr 135 true) (List.map keepP (List.map keepP (List.map AV.p R1.cs)))], .tup [], [lkB X.M X.tP X.tR X.own R2.h 2 R2.k R2.e R2.p R2.nx, .dead, .ob (ObK.gr 135 true) (List.map AV.p R2.cs)]⟩
 (.out (.ret (.tup []) [lkB X.M X.tP X.tR X.own R2.h 2 R2.k R2.e R2.p R2.nx, .dead, .ob (ObK.gr 135 true) (List.map keepP (List.map keepP (List.map AV.p R2.cs)))]))))
 (.call ⟨140, [sI .i64 op], [], .tup [sI .u32 al, .p (.sc (.bool st))], []⟩
 (.test (st)
 (.call ⟨113, [.mp 0 0, .p (.sc (.bool (decide ((↑X.M.meN : Int) > 0)))), sI .i64 6, sI .i64 q], [lkB X.M X.tP X.tR X.own R.h 1 R.k R.e R.p R.nx, .ob (ObK.gr 135 true) (List.map keepP (List.map AV.p R.cs))], .tup [], [lkB X.M X.tP X.tR X.own R1.h 1 R1.k R1.e R1.p R1.nx, .ob (ObK.gr 135 true) (List.map AV.p R1.cs)]⟩
 (.call ⟨113, [.mp 0 0, .p (.sc (.bool (decide (a ≤ al)))), sI .i64 211, sI .i64 q], [lkB X.M X.tP X.tR X.own R1.h 1 R1.k R1.e R1.p R1.nx, .ob (ObK.gr 135 true) (List.map keepP (List.map keepP (List.map AV.p R1.cs)))], .tup [], [lkB X.M X.tP X.tR X.own R2.h 1 R2.k R2.e R2.p R2.nx, .ob (ObK.gr 135 true) (List.map AV.p R2.cs)]⟩
 (.call ⟨141, [.mp 0 0, sI .i64 op, sI .i64 q], [lkB X.M X.tP X.tR X.own R2.h 1 R2.k R2.e R2.p R2.nx, .ob (ObK.gr 135 true) (List.map keepP (List.map keepP (List.map AV.p R2.cs)))], .tup [], [lkB X.M X.tP X.tR X.own R3.h 2 R3.k R3.e R3.p R3.nx, .dead, .ob (ObK.gr 135 true) (List.map AV.p R3.cs)]⟩
 (.out (.ret (.tup []) [lkB X.M X.tP X.tR X.own R3.h 2 R3.k R3.e R3.p R3.nx, .dead, .ob (ObK.gr 135 true) (List.map keepP (List.map keepP (List.map AV.p R3.cs)))])))))
 (.call ⟨141, [.mp 0 0, sI .i64 op, sI .i64 q], [lkB X.M X.tP X.tR X.own R.h 1 R.k R.e R.p R.nx, .ob (ObK.gr 135 true) (List.map keepP (List.map AV.p R.cs))], .tup [], [lkB X.M X.tP X.tR X.own R1.h 2 R1.k R1.e R1.p R1.nx, .dead, .ob (ObK.gr 135 true) (List.map AV.p R1.cs)]⟩
 (.out (.ret (.tup []) [lkB X.M X.tP X.tR X.own R1.h 2 R1.k R1.e R1.p R1.nx, .dead, .ob (ObK.gr 135 true) (List.map keepP (List.map keepP (List.map AV.p R1.cs)))]))))))))))))
theorem pla_tree (X : Lx) (R : Rw) (R1 : Rw) (R2 : Rw) (R3 : Rw) (R4 : Rw) (R5 : Rw) (R6 : Rw) (R7 : Rw) (op r a b nn : Int) (tg : List Int) (ll : List Ins) (le : List Ins) (q al : Int) (st : Bool) (mu : Bool) : growF Tryz.prog (plaE X R R1 R2 R3 R4 R5 R6 R7 op r a b nn tg ll le q al st mu) (plaOrc X R R1 R2 R3 R4 R5 R6 R7 op r a b nn tg ll le q al st mu) 1000000 115 ([AV.mp 0 0, aggI op r a b nn tg ll le, sI IntKind.i64 q]) (memIn X R) (plaSc X R R1 R2 R3 R4 R5 R6 R7 op r a b nn tg ll le q al st mu) = plaTree X R R1 R2 R3 R4 R5 R6 R7 op r a b nn tg ll le q al st mu := by kernel_rfl

noncomputable def insOrc : Orc := orcL noCall noLed [] [(83, 0, 0), (83, 0, 1), (83, 0, 3), (83, 0, 2), (83, 0, 4), (83, 0, 5), (83, 0, 6), (83, 0, 7), (83, 0, 8), (83, 0, 9)] []
noncomputable def insSc (X : Lx) (R : Rw) (R1 : Rw) (R2 : Rw) (R3 : Rw) (R4 : Rw) (R5 : Rw) (R6 : Rw) (R7 : Rw) (op r a b nn : Int) (tg : List Int) (ll : List Ins) (le : List Ins) (q v P Q : Int) (is : Bool) : Sc := (.fork (.ans 107 (.tup []) ([lkB X.M X.tP X.tR X.own R1.h 2 R1.k R1.e R1.p R1.nx, .dead, .ob (ObK.gr 135 true) (List.map AV.p R1.cs)]) .fin) (.fork (.yes (.ans 108 (.tup []) ([lkB X.M X.tP X.tR X.own R1.h 2 R1.k R1.e R1.p R1.nx, .dead, .ob (ObK.gr 135 true) (List.map AV.p R1.cs)]) .fin)) (.fork (.yes (.ans 108 (.tup []) ([lkB X.M X.tP X.tR X.own R1.h 2 R1.k R1.e R1.p R1.nx, .dead, .ob (ObK.gr 135 true) (List.map AV.p R1.cs)]) .fin)) (.fork (.ans 108 (.tup []) ([lkB X.M X.tP X.tR X.own R1.h 2 R1.k R1.e R1.p R1.nx, .dead, .ob (ObK.gr 135 true) (List.map AV.p R1.cs)]) .fin) (.fork (.ans 109 (sI .i64 v) ([lkB X.M X.tP X.tR X.own R1.h 1 R1.k R1.e R1.p R1.nx, .ob (ObK.gr 135 true) (List.map AV.p R1.cs)]) (.ans 110 (.tup []) ([lkB X.M X.tP X.tR X.own R2.h 2 R2.k R2.e R2.p R2.nx, .dead, .ob (ObK.gr 135 true) (List.map AV.p R2.cs)]) (.ans 107 (.tup []) ([lkB X.M X.tP X.tR X.own R3.h 2 R3.k R3.e R3.p R3.nx, .dead, .ob (ObK.gr 135 true) (List.map AV.p R3.cs)]) .fin))) (.fork (.ans 109 (sI .i64 v) ([lkB X.M X.tP X.tR X.own R1.h 1 R1.k R1.e R1.p R1.nx, .ob (ObK.gr 135 true) (List.map AV.p R1.cs)]) (.ans 110 (.tup []) ([lkB X.M X.tP X.tR X.own R2.h 2 R2.k R2.e R2.p R2.nx, .dead, .ob (ObK.gr 135 true) (List.map AV.p R2.cs)]) (.ans 110 (.tup []) ([lkB X.M X.tP X.tR X.own R3.h 2 R3.k R3.e R3.p R3.nx, .dead, .ob (ObK.gr 135 true) (List.map AV.p R3.cs)]) (.ans 111 (.tup []) ([lkB X.M X.tP X.tR X.own R4.h 2 R4.k R4.e R4.p R4.nx, .dead, .ob (ObK.gr 135 true) (List.map AV.p R4.cs)]) .fin)))) (.fork (.ans 112 (.tup []) ([lkB X.M X.tP X.tR X.own R1.h 2 R1.k R1.e R1.p R1.nx, .dead, .ob (ObK.gr 135 true) (List.map AV.p R1.cs)]) .fin) (.fork (.ans 110 (.tup []) ([lkB X.M X.tP X.tR X.own R1.h 2 R1.k R1.e R1.p R1.nx, .dead, .ob (ObK.gr 135 true) (List.map AV.p R1.cs)]) (.ans 107 (.tup []) ([lkB X.M X.tP X.tR X.own R2.h 2 R2.k R2.e R2.p R2.nx, .dead, .ob (ObK.gr 135 true) (List.map AV.p R2.cs)]) .fin)) (.fork (.led 83 24 (insQ X R R1 R2 R3 R4 R5 R6 R7 op r a b nn tg ll le q v P Q is 0) (.ans 113 (.tup []) ([lkB X.M X.tP X.tR X.own R2.h 1 R2.k R2.e R2.p R2.nx, .ob (ObK.gr 135 true) (List.map AV.p R2.cs)]) (.ans 114 (.tup []) ([lkB X.M X.tP X.tR X.own R3.h 2 R3.k R3.e R3.p R3.nx, .dead, .ob (ObK.gr 135 true) (List.map AV.p R3.cs)]) .fin))) (.no (.ans 115 (.tup []) ([lkB X.M X.tP X.tR X.own R1.h 2 R1.k R1.e R1.p R1.nx, .dead, .ob (ObK.gr 135 true) (List.map AV.p R1.cs)]) .fin)))))))))))
noncomputable def insTree (X : Lx) (R : Rw) (R1 : Rw) (R2 : Rw) (R3 : Rw) (R4 : Rw) (R5 : Rw) (R6 : Rw) (R7 : Rw) (op r a b nn : Int) (tg : List Int) (ll : List Ins) (le : List Ins) (q v P Q : Int) (is : Bool) : Tree :=
 (.test (op == 0)
 (.call ⟨107, [.mp 0 0, sI .i64 q], [lkB X.M X.tP X.tR X.own R.h 1 R.k R.e R.p R.nx, .ob (ObK.gr 135 true) (List.map keepP (List.map AV.p R.cs))], .tup [], [lkB X.M X.tP X.tR X.own R1.h 2 R1.k R1.e R1.p R1.nx, .dead, .ob (ObK.gr 135 true) (List.map AV.p R1.cs)]⟩
 (.out (.ret (.tup []) [lkB X.M X.tP X.tR X.own R1.h 2 R1.k R1.e R1.p R1.nx, .dead, .ob (ObK.gr 135 true) (List.map keepP (List.map keepP (List.map AV.p R1.cs)))])))
 (.test (op == 2)
 (.must (op == 2)
 (.call ⟨108, [.mp 0 0, .agg [sI .i64 op, sI .i64 r, sI .u32 a, sI .u32 b, sI .i32 nn, .p (.ps tg.length 1 (encT IntKind.u32 tg)), .p (.ps ll.length 8 (encL ll)), .p (.ps le.length 8 (encL le))], sI .i64 q], [lkB X.M X.tP X.tR X.own R.h 1 R.k R.e R.p R.nx, .ob (ObK.gr 135 true) (List.map keepP (List.map AV.p R.cs))], .tup [], [lkB X.M X.tP X.tR X.own R1.h 2 R1.k R1.e R1.p R1.nx, .dead, .ob (ObK.gr 135 true) (List.map AV.p R1.cs)]⟩
 (.out (.ret (.tup []) [lkB X.M X.tP X.tR X.own R1.h 2 R1.k R1.e R1.p R1.nx, .dead, .ob (ObK.gr 135 true) (List.map keepP (List.map keepP (List.map AV.p R1.cs)))]))))
 (.test (op == 3)
 (.must (op == 3)
 (.call ⟨108, [.mp 0 0, .agg [sI .i64 op, sI .i64 r, sI .u32 a, sI .u32 b, sI .i32 nn, .p (.ps tg.length 1 (encT IntKind.u32 tg)), .p (.ps ll.length 8 (encL ll)), .p (.ps le.length 8 (encL le))], sI .i64 q], [lkB X.M X.tP X.tR X.own R.h 1 R.k R.e R.p R.nx, .ob (ObK.gr 135 true) (List.map keepP (List.map AV.p R.cs))], .tup [], [lkB X.M X.tP X.tR X.own R1.h 2 R1.k R1.e R1.p R1.nx, .dead, .ob (ObK.gr 135 true) (List.map AV.p R1.cs)]⟩
 (.out (.ret (.tup []) [lkB X.M X.tP X.tR X.own R1.h 2 R1.k R1.e R1.p R1.nx, .dead, .ob (ObK.gr 135 true) (List.map keepP (List.map keepP (List.map AV.p R1.cs)))]))))
 (.test (op == 4)
 (.call ⟨108, [.mp 0 0, .agg [sI .i64 op, sI .i64 r, sI .u32 a, sI .u32 b, sI .i32 nn, .p (.ps tg.length 1 (encT IntKind.u32 tg)), .p (.ps ll.length 8 (encL ll)), .p (.ps le.length 8 (encL le))], sI .i64 q], [lkB X.M X.tP X.tR X.own R.h 1 R.k R.e R.p R.nx, .ob (ObK.gr 135 true) (List.map keepP (List.map AV.p R.cs))], .tup [], [lkB X.M X.tP X.tR X.own R1.h 2 R1.k R1.e R1.p R1.nx, .dead, .ob (ObK.gr 135 true) (List.map AV.p R1.cs)]⟩
 (.out (.ret (.tup []) [lkB X.M X.tP X.tR X.own R1.h 2 R1.k R1.e R1.p R1.nx, .dead, .ob (ObK.gr 135 true) (List.map keepP (List.map keepP (List.map AV.p R1.cs)))])))
 (.test (op == 12)
 (.call ⟨109, [.mp 0 0, sI .u32 a, sI .i64 q], [lkB X.M X.tP X.tR X.own R.h 1 R.k R.e R.p R.nx, .ob (ObK.gr 135 true) (List.map keepP (List.map AV.p R.cs))], sI .i64 v, [lkB X.M X.tP X.tR X.own R1.h 1 R1.k R1.e R1.p R1.nx, .ob (ObK.gr 135 true) (List.map AV.p R1.cs)]⟩
 (.call ⟨110, [.mp 0 0, sI .i64 v, sI .i64 q], [lkB X.M X.tP X.tR X.own R1.h 1 R1.k R1.e R1.p R1.nx, .ob (ObK.gr 135 true) (List.map keepP (List.map keepP (List.map AV.p R1.cs)))], .tup [], [lkB X.M X.tP X.tR X.own R2.h 2 R2.k R2.e R2.p R2.nx, .dead, .ob (ObK.gr 135 true) (List.map AV.p R2.cs)]⟩
 (.call ⟨107, [.mp 0 0, sI .i64 q], [lkB X.M X.tP X.tR X.own R2.h 1 R2.k R2.e R2.p R2.nx, .ob (ObK.gr 135 true) (List.map keepP (List.map keepP (List.map AV.p R2.cs)))], .tup [], [lkB X.M X.tP X.tR X.own R3.h 2 R3.k R3.e R3.p R3.nx, .dead, .ob (ObK.gr 135 true) (List.map AV.p R3.cs)]⟩
 (.out (.ret (.tup []) [lkB X.M X.tP X.tR X.own R3.h 2 R3.k R3.e R3.p R3.nx, .dead, .ob (ObK.gr 135 true) (List.map keepP (List.map keepP (List.map AV.p R3.cs)))])))))
 (.test (op == 13)
 (.call ⟨109, [.mp 0 0, sI .u32 a, sI .i64 q], [lkB X.M X.tP X.tR X.own R.h 1 R.k R.e R.p R.nx, .ob (ObK.gr 135 true) (List.map keepP (List.map AV.p R.cs))], sI .i64 v, [lkB X.M X.tP X.tR X.own R1.h 1 R1.k R1.e R1.p R1.nx, .ob (ObK.gr 135 true) (List.map AV.p R1.cs)]⟩
 (.call ⟨110, [.mp 0 0, sI .i64 1, sI .i64 q], [lkB X.M X.tP X.tR X.own R1.h 1 R1.k R1.e R1.p R1.nx, .ob (ObK.gr 135 true) (List.map keepP (List.map keepP (List.map AV.p R1.cs)))], .tup [], [lkB X.M X.tP X.tR X.own R2.h 2 R2.k R2.e R2.p R2.nx, .dead, .ob (ObK.gr 135 true) (List.map AV.p R2.cs)]⟩
 (.call ⟨110, [.mp 0 0, sI .i64 v, sI .i64 q], [lkB X.M X.tP X.tR X.own R2.h 1 R2.k R2.e R2.p R2.nx, .ob (ObK.gr 135 true) (List.map keepP (List.map keepP (List.map AV.p R2.cs)))], .tup [], [lkB X.M X.tP X.tR X.own R3.h 2 R3.k R3.e R3.p R3.nx, .dead, .ob (ObK.gr 135 true) (List.map AV.p R3.cs)]⟩
 (.call ⟨111, [.mp 0 0, sI .i64 v, sI .i64 q], [lkB X.M X.tP X.tR X.own R3.h 1 R3.k R3.e R3.p R3.nx, .ob (ObK.gr 135 true) (List.map keepP (List.map keepP (List.map AV.p R3.cs)))], .tup [], [lkB X.M X.tP X.tR X.own R4.h 2 R4.k R4.e R4.p R4.nx, .dead, .ob (ObK.gr 135 true) (List.map AV.p R4.cs)]⟩
 (.out (.ret (.tup []) [lkB X.M X.tP X.tR X.own R4.h 2 R4.k R4.e R4.p R4.nx, .dead, .ob (ObK.gr 135 true) (List.map keepP (List.map keepP (List.map AV.p R4.cs)))]))))))
 (.test (op == 14)
 (.call ⟨112, [.mp 0 0, .agg [sI .i64 op, sI .i64 r, sI .u32 a, sI .u32 b, sI .i32 nn, .p (.ps tg.length 1 (encT IntKind.u32 tg)), .p (.ps ll.length 8 (encL ll)), .p (.ps le.length 8 (encL le))], sI .i64 q], [lkB X.M X.tP X.tR X.own R.h 1 R.k R.e R.p R.nx, .ob (ObK.gr 135 true) (List.map keepP (List.map AV.p R.cs))], .tup [], [lkB X.M X.tP X.tR X.own R1.h 2 R1.k R1.e R1.p R1.nx, .dead, .ob (ObK.gr 135 true) (List.map AV.p R1.cs)]⟩
 (.out (.ret (.tup []) [lkB X.M X.tP X.tR X.own R1.h 2 R1.k R1.e R1.p R1.nx, .dead, .ob (ObK.gr 135 true) (List.map keepP (List.map keepP (List.map AV.p R1.cs)))])))
 (.test (op == 15)
 (.call ⟨110, [.mp 0 0, sI .i64 X.tR, sI .i64 q], [lkB X.M X.tP X.tR X.own R.h 1 R.k R.e R.p R.nx, .ob (ObK.gr 135 true) (List.map keepP (List.map AV.p R.cs))], .tup [], [lkB X.M X.tP X.tR X.own R1.h 2 R1.k R1.e R1.p R1.nx, .dead, .ob (ObK.gr 135 true) (List.map AV.p R1.cs)]⟩
 (.call ⟨107, [.mp 0 0, sI .i64 q], [lkB X.M X.tP X.tR X.own R1.h 1 R1.k R1.e R1.p R1.nx, .ob (ObK.gr 135 true) (List.map keepP (List.map keepP (List.map AV.p R1.cs)))], .tup [], [lkB X.M X.tP X.tR X.own R2.h 2 R2.k R2.e R2.p R2.nx, .dead, .ob (ObK.gr 135 true) (List.map AV.p R2.cs)]⟩
 (.out (.ret (.tup []) [lkB X.M X.tP X.tR X.own R2.h 2 R2.k R2.e R2.p R2.nx, .dead, .ob (ObK.gr 135 true) (List.map keepP (List.map keepP (List.map AV.p R2.cs)))]))))
 (.test (op == 16)
 (.call ⟨31, [.agg (cellsD X.M), sI .u32 a], [], .tup [.agg [sI .i64 P, sI .i64 Q], .p (.sc (.bool is))], []⟩
 (.call ⟨113, [.mp 0 0, .p (.sc (.bool is)), sI .i64 6, sI .i64 q], [lkB X.M X.tP X.tR X.own R.h 1 R.k R.e R.p R.nx, .ob (ObK.gr 135 true) (List.map keepP (List.map AV.p R.cs))], .tup [], [lkB X.M X.tP X.tR X.own R2.h 1 R2.k R2.e R2.p R2.nx, .ob (ObK.gr 135 true) (List.map AV.p R2.cs)]⟩
 (.call ⟨114, [.mp 0 0, .agg [sI .i64 P, sI .i64 Q], sI .i64 q], [lkB X.M X.tP X.tR X.own R2.h 1 R2.k R2.e R2.p R2.nx, .ob (ObK.gr 135 true) (List.map keepP (List.map keepP (List.map AV.p R2.cs)))], .tup [], [lkB X.M X.tP X.tR X.own R3.h 2 R3.k R3.e R3.p R3.nx, .dead, .ob (ObK.gr 135 true) (List.map AV.p R3.cs)]⟩
 (.out (.ret (.tup []) [lkB X.M X.tP X.tR X.own R3.h 2 R3.k R3.e R3.p R3.nx, .dead, .ob (ObK.gr 135 true) (List.map keepP (List.map keepP (List.map AV.p R3.cs)))])))))
 (.must (!(op == 17))
 (.call ⟨115, [.mp 0 0, .agg [sI .i64 op, sI .i64 r, sI .u32 a, sI .u32 b, sI .i32 nn, .p (.ps tg.length 1 (encT IntKind.u32 tg)), .p (.ps ll.length 8 (encL ll)), .p (.ps le.length 8 (encL le))], sI .i64 q], [lkB X.M X.tP X.tR X.own R.h 1 R.k R.e R.p R.nx, .ob (ObK.gr 135 true) (List.map keepP (List.map AV.p R.cs))], .tup [], [lkB X.M X.tP X.tR X.own R1.h 2 R1.k R1.e R1.p R1.nx, .dead, .ob (ObK.gr 135 true) (List.map AV.p R1.cs)]⟩
 (.out (.ret (.tup []) [lkB X.M X.tP X.tR X.own R1.h 2 R1.k R1.e R1.p R1.nx, .dead, .ob (ObK.gr 135 true) (List.map keepP (List.map keepP (List.map AV.p R1.cs)))])))))))))))))
theorem ins_tree (X : Lx) (R : Rw) (R1 : Rw) (R2 : Rw) (R3 : Rw) (R4 : Rw) (R5 : Rw) (R6 : Rw) (R7 : Rw) (op r a b nn : Int) (tg : List Int) (ll : List Ins) (le : List Ins) (q v P Q : Int) (is : Bool) : growF Tryz.prog env insOrc 1000000 83 ([AV.mp 0 0, aggI op r a b nn tg ll le, sI IntKind.i64 q]) (memIn X R) (insSc X R R1 R2 R3 R4 R5 R6 R7 op r a b nn tg ll le q v P Q is) = insTree X R R1 R2 R3 R4 R5 R6 R7 op r a b nn tg ll le q v P Q is := by kernel_rfl

noncomputable def iiTOrc : Orc := orcL noCall noLed [] [(83, 0, 0), (83, 0, 1), (83, 0, 2), (83, 0, 3), (83, 0, 4), (83, 0, 5), (83, 0, 6), (83, 0, 7), (83, 0, 8), (83, 0, 9), (83, 0, 10)] [(83, 0, 10), (83, 0, 11)]
noncomputable def iiTSc (X : Lx) (R : Rw) (R1 : Rw) (R2 : Rw) (R3 : Rw) (R4 : Rw) (R5 : Rw) (R6 : Rw) (R7 : Rw) (op r a b nn : Int) (tg : List Int) (ll : List Ins) (le : List Ins) (q v P Q : Int) (is : Bool) : Sc := (.no (.no (.no (.no (.no (.no (.no (.no (.no (.yes (.ans 113 (.tup []) ([lkB X.M X.tP X.tR X.own R1.h 1 R1.k R1.e R1.p R1.nx, .ob (ObK.gr 135 true) (List.map AV.p R1.cs)]) (.ans 110 (.tup []) ([lkB X.M X.tP X.tR X.own R2.h 2 R2.k R2.e R2.p R2.nx, .dead, .ob (ObK.gr 135 true) (List.map AV.p R2.cs)]) (.fork (.ans 114 (.tup []) ([lkB X.M X.tP X.tR X.own R3.h 2 R3.k R3.e R3.p R3.nx, .dead, .ob (ObK.gr 135 true) (List.map AV.p R3.cs)]) .fin) .fin)))))))))))))
noncomputable def iiTTree (X : Lx) (R : Rw) (R1 : Rw) (R2 : Rw) (R3 : Rw) (R4 : Rw) (R5 : Rw) (R6 : Rw) (R7 : Rw) (op r a b nn : Int) (tg : List Int) (ll : List Ins) (le : List Ins) (q v P Q : Int) (is : Bool) : Tree :=
 (.must (!(op == 0))
 (.must (!(op == 2))
 (.must (!(op == 3))
 (.must (!(op == 4))
 (.must (!(op == 12))
 (.must (!(op == 13))
 (.must (!(op == 14))
 (.must (!(op == 15))
 (.must (!(op == 16))
 (.must (op == 17)
 (.must (eqAV (.p (.sc (.bool (decide ((↑X.M.taN : Int) > 0))))) (sB true) && true && true)
 (.call ⟨113, [.mp 0 0, .p (.sc (.bool (decide (IntKind.u64.wrap a < IntKind.u64.wrap (↑X.M.tyN : Int))))), sI .i64 6, sI .i64 q], [lkB X.M X.tP X.tR X.own R.h 1 R.k R.e R.p R.nx, .ob (ObK.gr 135 true) (List.map keepP (List.map AV.p R.cs))], .tup [], [lkB X.M X.tP X.tR X.own R1.h 1 R1.k R1.e R1.p R1.nx, .ob (ObK.gr 135 true) (List.map AV.p R1.cs)]⟩
 (.call ⟨110, [.mp 0 0, sI .i64 1, sI .i64 q], [lkB X.M X.tP X.tR X.own R1.h 1 R1.k R1.e R1.p R1.nx, .ob (ObK.gr 135 true) (List.map keepP (List.map keepP (List.map AV.p R1.cs)))], .tup [], [lkB X.M X.tP X.tR X.own R2.h 2 R2.k R2.e R2.p R2.nx, .dead, .ob (ObK.gr 135 true) (List.map AV.p R2.cs)]⟩
 (.test (decide (IntKind.u64.wrap a < IntKind.u64.wrap (↑X.M.tyN : Int)))
 (.must (inB a X.M.tyN && true && true && (isInt IntKind.i64 (X.M.tyC.getD (a.toNat * 2) PV.bad) && (isInt IntKind.i64 (X.M.tyC.getD (a.toNat * 2 + 1) PV.bad) && true) && true && eqAV (.agg [sI .i64 (pvInt (X.M.tyC.getD (a.toNat * 2) PV.bad)), sI .i64 (pvInt (X.M.tyC.getD (a.toNat * 2 + 1) PV.bad))]) (.agg [sI .i64 P, sI .i64 Q]) && true) && true)
 (.call ⟨114, [.mp 0 0, .agg [sI .i64 P, sI .i64 Q], sI .i64 q], [lkB X.M X.tP X.tR X.own R2.h 1 R2.k R2.e R2.p R2.nx, .ob (ObK.gr 135 true) (List.map keepP (List.map keepP (List.map AV.p R2.cs)))], .tup [], [lkB X.M X.tP X.tR X.own R3.h 2 R3.k R3.e R3.p R3.nx, .dead, .ob (ObK.gr 135 true) (List.map AV.p R3.cs)]⟩
 (.out (.ret (.tup []) [lkB X.M X.tP X.tR X.own R3.h 2 R3.k R3.e R3.p R3.nx, .dead, .ob (ObK.gr 135 true) (List.map keepP (List.map keepP (List.map AV.p R3.cs)))]))))
 (.out (.ret (.tup []) [lkB X.M X.tP X.tR X.own R2.h 2 R2.k R2.e R2.p R2.nx, .dead, .ob (ObK.gr 135 true) (List.map keepP (List.map keepP (List.map AV.p R2.cs)))]))))))))))))))))
theorem iiT_tree (X : Lx) (R : Rw) (R1 : Rw) (R2 : Rw) (R3 : Rw) (R4 : Rw) (R5 : Rw) (R6 : Rw) (R7 : Rw) (op r a b nn : Int) (tg : List Int) (ll : List Ins) (le : List Ins) (q v P Q : Int) (is : Bool) : growF Tryz.prog (iiTE X R R1 R2 R3 R4 R5 R6 R7 op r a b nn tg ll le q v P Q is) iiTOrc 1000000 83 ([AV.mp 0 0, aggI op r a b nn tg ll le, sI IntKind.i64 q]) (memIn X R) (iiTSc X R R1 R2 R3 R4 R5 R6 R7 op r a b nn tg ll le q v P Q is) = iiTTree X R R1 R2 R3 R4 R5 R6 R7 op r a b nn tg ll le q v P Q is := by kernel_rfl

noncomputable def iiFOrc : Orc := orcL noCall noLed [] [(83, 0, 0), (83, 0, 1), (83, 0, 2), (83, 0, 3), (83, 0, 4), (83, 0, 5), (83, 0, 6), (83, 0, 7), (83, 0, 8), (83, 0, 9)] [(83, 0, 10)]
noncomputable def iiFSc (X : Lx) (R : Rw) (R1 : Rw) (R2 : Rw) (R3 : Rw) (R4 : Rw) (R5 : Rw) (R6 : Rw) (R7 : Rw) (op r a b nn : Int) (tg : List Int) (ll : List Ins) (le : List Ins) (q v P Q : Int) (is : Bool) : Sc := (.no (.no (.no (.no (.no (.no (.no (.no (.no (.yes (.ans 113 (.tup []) ([lkB X.M X.tP X.tR X.own R1.h 1 R1.k R1.e R1.p R1.nx, .ob (ObK.gr 135 true) (List.map AV.p R1.cs)]) (.ans 110 (.tup []) ([lkB X.M X.tP X.tR X.own R2.h 2 R2.k R2.e R2.p R2.nx, .dead, .ob (ObK.gr 135 true) (List.map AV.p R2.cs)]) .fin))))))))))))
noncomputable def iiFTree (X : Lx) (R : Rw) (R1 : Rw) (R2 : Rw) (R3 : Rw) (R4 : Rw) (R5 : Rw) (R6 : Rw) (R7 : Rw) (op r a b nn : Int) (tg : List Int) (ll : List Ins) (le : List Ins) (q v P Q : Int) (is : Bool) : Tree :=
 (.must (!(op == 0))
 (.must (!(op == 2))
 (.must (!(op == 3))
 (.must (!(op == 4))
 (.must (!(op == 12))
 (.must (!(op == 13))
 (.must (!(op == 14))
 (.must (!(op == 15))
 (.must (!(op == 16))
 (.must (op == 17)
 (.must (eqAV (.p (.sc (.bool (decide ((↑X.M.taN : Int) > 0))))) (sB false) && true && true)
 (.call ⟨113, [.mp 0 0, sB false, sI .i64 6, sI .i64 q], [lkB X.M X.tP X.tR X.own R.h 1 R.k R.e R.p R.nx, .ob (ObK.gr 135 true) (List.map keepP (List.map AV.p R.cs))], .tup [], [lkB X.M X.tP X.tR X.own R1.h 1 R1.k R1.e R1.p R1.nx, .ob (ObK.gr 135 true) (List.map AV.p R1.cs)]⟩
 (.call ⟨110, [.mp 0 0, sI .i64 1, sI .i64 q], [lkB X.M X.tP X.tR X.own R1.h 1 R1.k R1.e R1.p R1.nx, .ob (ObK.gr 135 true) (List.map keepP (List.map keepP (List.map AV.p R1.cs)))], .tup [], [lkB X.M X.tP X.tR X.own R2.h 2 R2.k R2.e R2.p R2.nx, .dead, .ob (ObK.gr 135 true) (List.map AV.p R2.cs)]⟩
 (.out (.ret (.tup []) [lkB X.M X.tP X.tR X.own R2.h 2 R2.k R2.e R2.p R2.nx, .dead, .ob (ObK.gr 135 true) (List.map keepP (List.map keepP (List.map AV.p R2.cs)))])))))))))))))))
theorem iiF_tree (X : Lx) (R : Rw) (R1 : Rw) (R2 : Rw) (R3 : Rw) (R4 : Rw) (R5 : Rw) (R6 : Rw) (R7 : Rw) (op r a b nn : Int) (tg : List Int) (ll : List Ins) (le : List Ins) (q v P Q : Int) (is : Bool) : growF Tryz.prog (iiFE X R R1 R2 R3 R4 R5 R6 R7 op r a b nn tg ll le q v P Q is) iiFOrc 1000000 83 ([AV.mp 0 0, aggI op r a b nn tg ll le, sI IntKind.i64 q]) (memIn X R) (iiFSc X R R1 R2 R3 R4 R5 R6 R7 op r a b nn tg ll le q v P Q is) = iiFTree X R R1 R2 R3 R4 R5 R6 R7 op r a b nn tg ll le q v P Q is := by kernel_rfl

noncomputable def opnOrc : Orc := orcL noCall noLed [] [(108, 0, 0)] []
noncomputable def opnSc (X : Lx) (R : Rw) (R1 : Rw) (R2 : Rw) (R3 : Rw) (R4 : Rw) (R5 : Rw) (R6 : Rw) (R7 : Rw) (op r a b nn : Int) (tg : List Int) (ll : List Ins) (le : List Ins) (q : Int) : Sc := (.yes (.ans 134 (.tup []) ([lkB X.M X.tP X.tR X.own R1.h 2 R1.k R1.e R1.p R1.nx, .dead, .ob (ObK.gr 135 true) (List.map AV.p R1.cs)]) (.ans 33 (.tup []) ([lkB X.M X.tP X.tR X.own R2.h 2 R2.k R2.e R2.p R2.nx, .dead, .ob (ObK.gr 135 true) (List.map AV.p R2.cs)]) (.ans 34 (.tup []) ([lkB X.M X.tP X.tR X.own R3.h 2 R3.k R3.e R3.p R3.nx, .dead, .ob (ObK.gr 135 true) (List.map AV.p R3.cs)]) .fin))))
noncomputable def opnTree (X : Lx) (R : Rw) (R1 : Rw) (R2 : Rw) (R3 : Rw) (R4 : Rw) (R5 : Rw) (R6 : Rw) (R7 : Rw) (op r a b nn : Int) (tg : List Int) (ll : List Ins) (le : List Ins) (q : Int) : Tree :=
 (.must (op != 4)
 (.call ⟨134, [.mp 0 0, sI .i64 op, sI .i64 r, sI .i64 q], [lkB X.M X.tP X.tR X.own R.h 1 R.k R.e R.p R.nx, .ob (ObK.gr 135 true) (List.map keepP (List.map AV.p R.cs))], .tup [], [lkB X.M X.tP X.tR X.own R1.h 2 R1.k R1.e R1.p R1.nx, .dead, .ob (ObK.gr 135 true) (List.map AV.p R1.cs)]⟩
 (.call ⟨33, [.mp 0 0, .p (.ps ll.length 8 (encL ll))], [lkB X.M X.tP X.tR X.own R1.h 1 R1.k R1.e R1.p R1.nx, .ob (ObK.gr 135 true) (List.map keepP (List.map keepP (List.map AV.p R1.cs)))], .tup [], [lkB X.M X.tP X.tR X.own R2.h 2 R2.k R2.e R2.p R2.nx, .dead, .ob (ObK.gr 135 true) (List.map AV.p R2.cs)]⟩
 (.call ⟨34, [.mp 0 0, sI .i64 q], [lkB X.M X.tP X.tR X.own R2.h 1 R2.k R2.e R2.p R2.nx, .ob (ObK.gr 135 true) (List.map keepP (List.map keepP (List.map AV.p R2.cs)))], .tup [], [lkB X.M X.tP X.tR X.own R3.h 2 R3.k R3.e R3.p R3.nx, .dead, .ob (ObK.gr 135 true) (List.map AV.p R3.cs)]⟩
 (.out (.ret (.tup []) [lkB X.M X.tP X.tR X.own R3.h 2 R3.k R3.e R3.p R3.nx, .dead, .ob (ObK.gr 135 true) (List.map keepP (List.map keepP (List.map AV.p R3.cs)))]))))))
theorem opn_tree (X : Lx) (R : Rw) (R1 : Rw) (R2 : Rw) (R3 : Rw) (R4 : Rw) (R5 : Rw) (R6 : Rw) (R7 : Rw) (op r a b nn : Int) (tg : List Int) (ll : List Ins) (le : List Ins) (q : Int) : growF Tryz.prog env opnOrc 1000000 108 ([AV.mp 0 0, aggI op r a b nn tg ll le, sI IntKind.i64 q]) (memIn X R) (opnSc X R R1 R2 R3 R4 R5 R6 R7 op r a b nn tg ll le q) = opnTree X R R1 R2 R3 R4 R5 R6 R7 op r a b nn tg ll le q := by kernel_rfl

noncomputable def opBOrc : Orc := orcL noCall noLed [] [(108, 0, 1)] []
noncomputable def opBSc (X : Lx) (R : Rw) (R1 : Rw) (R2 : Rw) (R3 : Rw) (R4 : Rw) (R5 : Rw) (R6 : Rw) (R7 : Rw) (r a b nn : Int) (tg : List Int) (ll : List Ins) (le : List Ins) (q : Int) : Sc := (.ans 110 (.tup []) ([lkB X.M X.tP X.tR X.own R1.h 2 R1.k R1.e R1.p R1.nx, .dead, .ob (ObK.gr 135 true) (List.map AV.p R1.cs)]) (.ans 134 (.tup []) ([lkB X.M X.tP X.tR X.own R2.h 2 R2.k R2.e R2.p R2.nx, .dead, .ob (ObK.gr 135 true) (List.map AV.p R2.cs)]) (.ans 33 (.tup []) ([lkB X.M X.tP X.tR X.own R3.h 2 R3.k R3.e R3.p R3.nx, .dead, .ob (ObK.gr 135 true) (List.map AV.p R3.cs)]) (.ans 34 (.tup []) ([lkB X.M X.tP X.tR X.own R4.h 2 R4.k R4.e R4.p R4.nx, .dead, .ob (ObK.gr 135 true) (List.map AV.p R4.cs)]) (.fork .fin (.ans 134 (.tup []) ([lkB X.M X.tP X.tR X.own R5.h 2 R5.k R5.e R5.p R5.nx, .dead, .ob (ObK.gr 135 true) (List.map AV.p R5.cs)]) (.ans 33 (.tup []) ([lkB X.M X.tP X.tR X.own R6.h 2 R6.k R6.e R6.p R6.nx, .dead, .ob (ObK.gr 135 true) (List.map AV.p R6.cs)]) (.ans 34 (.tup []) ([lkB X.M X.tP X.tR X.own R7.h 2 R7.k R7.e R7.p R7.nx, .dead, .ob (ObK.gr 135 true) (List.map AV.p R7.cs)]) .fin))))))))
noncomputable def opBTree (X : Lx) (R : Rw) (R1 : Rw) (R2 : Rw) (R3 : Rw) (R4 : Rw) (R5 : Rw) (R6 : Rw) (R7 : Rw) (r a b nn : Int) (tg : List Int) (ll : List Ins) (le : List Ins) (q : Int) : Tree :=
 (.call ⟨110, [.mp 0 0, sI .i64 1, sI .i64 q], [lkB X.M X.tP X.tR X.own R.h 1 R.k R.e R.p R.nx, .ob (ObK.gr 135 true) (List.map keepP (List.map AV.p R.cs))], .tup [], [lkB X.M X.tP X.tR X.own R1.h 2 R1.k R1.e R1.p R1.nx, .dead, .ob (ObK.gr 135 true) (List.map AV.p R1.cs)]⟩
 (.call ⟨134, [.mp 0 0, sI .i64 4, sI .i64 r, sI .i64 q], [lkB X.M X.tP X.tR X.own R1.h 1 R1.k R1.e R1.p R1.nx, .ob (ObK.gr 135 true) (List.map keepP (List.map keepP (List.map AV.p R1.cs)))], .tup [], [lkB X.M X.tP X.tR X.own R2.h 2 R2.k R2.e R2.p R2.nx, .dead, .ob (ObK.gr 135 true) (List.map AV.p R2.cs)]⟩
 (.call ⟨33, [.mp 0 0, .p (.ps ll.length 8 (encL ll))], [lkB X.M X.tP X.tR X.own R2.h 1 R2.k R2.e R2.p R2.nx, .ob (ObK.gr 135 true) (List.map keepP (List.map keepP (List.map AV.p R2.cs)))], .tup [], [lkB X.M X.tP X.tR X.own R3.h 2 R3.k R3.e R3.p R3.nx, .dead, .ob (ObK.gr 135 true) (List.map AV.p R3.cs)]⟩
 (.call ⟨34, [.mp 0 0, sI .i64 q], [lkB X.M X.tP X.tR X.own R3.h 1 R3.k R3.e R3.p R3.nx, .ob (ObK.gr 135 true) (List.map keepP (List.map keepP (List.map AV.p R3.cs)))], .tup [], [lkB X.M X.tP X.tR X.own R4.h 2 R4.k R4.e R4.p R4.nx, .dead, .ob (ObK.gr 135 true) (List.map AV.p R4.cs)]⟩
 (.test (R4.e != 0)
 (.out (.ret (.tup []) [lkB X.M X.tP X.tR X.own R4.h 2 R4.k R4.e R4.p R4.nx, .dead, .ob (ObK.gr 135 true) (List.map keepP (List.map keepP (List.map AV.p R4.cs)))]))
 (.call ⟨134, [.mp 0 0, sI .i64 5, sI .i64 r, sI .i64 q], [lkB X.M X.tP X.tR X.own R1.h 1 R1.k R4.e R4.p R4.nx, .dead], .tup [], [lkB X.M X.tP X.tR X.own R5.h 2 R5.k R5.e R5.p R5.nx, .dead, .ob (ObK.gr 135 true) (List.map AV.p R5.cs)]⟩
 (.call ⟨33, [.mp 0 0, .p (.ps le.length 8 (encL le))], [lkB X.M X.tP X.tR X.own R5.h 1 R5.k R5.e R5.p R5.nx, .ob (ObK.gr 135 true) (List.map keepP (List.map keepP (List.map AV.p R5.cs)))], .tup [], [lkB X.M X.tP X.tR X.own R6.h 2 R6.k R6.e R6.p R6.nx, .dead, .ob (ObK.gr 135 true) (List.map AV.p R6.cs)]⟩
 (.call ⟨34, [.mp 0 0, sI .i64 q], [lkB X.M X.tP X.tR X.own R6.h 1 R6.k R6.e R6.p R6.nx, .ob (ObK.gr 135 true) (List.map keepP (List.map keepP (List.map AV.p R6.cs)))], .tup [], [lkB X.M X.tP X.tR X.own R7.h 2 R7.k R7.e R7.p R7.nx, .dead, .ob (ObK.gr 135 true) (List.map AV.p R7.cs)]⟩
 (.out (.ret (.tup []) [lkB X.M X.tP X.tR X.own R7.h 2 R7.k R7.e R7.p R7.nx, .dead, .ob (ObK.gr 135 true) (List.map keepP (List.map keepP (List.map AV.p R7.cs)))]))))))))))
theorem opB_tree (X : Lx) (R : Rw) (R1 : Rw) (R2 : Rw) (R3 : Rw) (R4 : Rw) (R5 : Rw) (R6 : Rw) (R7 : Rw) (r a b nn : Int) (tg : List Int) (ll : List Ins) (le : List Ins) (q : Int) : growF Tryz.prog env opBOrc 1000000 108 ([AV.mp 0 0, aggI 4 r a b nn tg ll le, sI IntKind.i64 q]) (memIn X R) (opBSc X R R1 R2 R3 R4 R5 R6 R7 r a b nn tg ll le q) = opBTree X R R1 R2 R3 R4 R5 R6 R7 r a b nn tg ll le q := by kernel_rfl

noncomputable def opGOrc : Orc := orcL noCall noLed [] [(108, 0, 1)] []
noncomputable def opGSc (X : Lx) (R : Rw) (R1 : Rw) (R2 : Rw) (R3 : Rw) (R4 : Rw) (R5 : Rw) (R6 : Rw) (R7 : Rw) (r a b nn : Int) (tg : List Int) (ll : List Ins) (le : List Ins) (q : Int) : Sc := (.ans 110 (.tup []) ([lkB X.M X.tP X.tR X.own R1.h 2 R1.k R1.e R1.p R1.nx, .dead, .ob (ObK.gr 135 true) (List.map AV.p R1.cs)]) (.ans 134 (.tup []) ([lkB X.M X.tP X.tR X.own R2.h 2 R2.k R2.e R2.p R2.nx, .ob (ObK.gr 135 true) (List.map keepP (List.map keepP (List.map AV.p R1.cs))), .ob (ObK.gr 135 true) (List.map AV.p R2.cs)]) (.ans 33 (.tup []) ([lkB X.M X.tP X.tR X.own R3.h 2 R3.k R3.e R3.p R3.nx, .dead, .ob (ObK.gr 135 true) (List.map AV.p R3.cs)]) (.ans 34 (.tup []) ([lkB X.M X.tP X.tR X.own R4.h 2 R4.k R4.e R4.p R4.nx, .dead, .ob (ObK.gr 135 true) (List.map AV.p R4.cs)]) (.fork .fin (.ans 134 (.tup []) ([lkB X.M X.tP X.tR X.own R5.h 2 R5.k R5.e R5.p R5.nx, .dead, .ob (ObK.gr 135 true) (List.map AV.p R5.cs)]) (.ans 33 (.tup []) ([lkB X.M X.tP X.tR X.own R6.h 2 R6.k R6.e R6.p R6.nx, .dead, .ob (ObK.gr 135 true) (List.map AV.p R6.cs)]) (.ans 34 (.tup []) ([lkB X.M X.tP X.tR X.own R7.h 2 R7.k R7.e R7.p R7.nx, .dead, .ob (ObK.gr 135 true) (List.map AV.p R7.cs)]) .fin))))))))
noncomputable def opGTree (X : Lx) (R : Rw) (R1 : Rw) (R2 : Rw) (R3 : Rw) (R4 : Rw) (R5 : Rw) (R6 : Rw) (R7 : Rw) (r a b nn : Int) (tg : List Int) (ll : List Ins) (le : List Ins) (q : Int) : Tree :=
 (.call ⟨110, [.mp 0 0, sI .i64 1, sI .i64 q], [lkB X.M X.tP X.tR X.own R.h 1 R.k R.e R.p R.nx, .ob (ObK.gr 135 true) (List.map keepP (List.map AV.p R.cs))], .tup [], [lkB X.M X.tP X.tR X.own R1.h 2 R1.k R1.e R1.p R1.nx, .dead, .ob (ObK.gr 135 true) (List.map AV.p R1.cs)]⟩
 (.call ⟨134, [.mp 0 0, sI .i64 4, sI .i64 r, sI .i64 q], [lkB X.M X.tP X.tR X.own R1.h 1 R1.k R1.e R1.p R1.nx, .ob (ObK.gr 135 true) (List.map keepP (List.map keepP (List.map AV.p R1.cs)))], .tup [], [lkB X.M X.tP X.tR X.own R2.h 2 R2.k R2.e R2.p R2.nx, .ob (ObK.gr 135 true) (List.map keepP (List.map keepP (List.map AV.p R1.cs))), .ob (ObK.gr 135 true) (List.map AV.p R2.cs)]⟩
 (.call ⟨33, [.mp 0 0, .p (.ps ll.length 8 (encL ll))], [lkB X.M X.tP X.tR X.own R2.h 1 R2.k R2.e R2.p R2.nx, .ob (ObK.gr 135 true) (List.map keepP (List.map keepP (List.map AV.p R2.cs)))], .tup [], [lkB X.M X.tP X.tR X.own R3.h 2 R3.k R3.e R3.p R3.nx, .dead, .ob (ObK.gr 135 true) (List.map AV.p R3.cs)]⟩
 (.call ⟨34, [.mp 0 0, sI .i64 q], [lkB X.M X.tP X.tR X.own R3.h 1 R3.k R3.e R3.p R3.nx, .ob (ObK.gr 135 true) (List.map keepP (List.map keepP (List.map AV.p R3.cs)))], .tup [], [lkB X.M X.tP X.tR X.own R4.h 2 R4.k R4.e R4.p R4.nx, .dead, .ob (ObK.gr 135 true) (List.map AV.p R4.cs)]⟩
 (.test (R4.e != 0)
 (.out (.ret (.tup []) [lkB X.M X.tP X.tR X.own R4.h 2 R4.k R4.e R4.p R4.nx, .dead, .ob (ObK.gr 135 true) (List.map keepP (List.map keepP (List.map AV.p R4.cs)))]))
 (.call ⟨134, [.mp 0 0, sI .i64 5, sI .i64 r, sI .i64 q], [lkB X.M X.tP X.tR X.own R1.h 1 R1.k R4.e R4.p R4.nx, .ob (ObK.gr 135 true) (List.map keepP (List.map keepP (List.map keepP (List.map keepP (List.map AV.p R1.cs)))))], .tup [], [lkB X.M X.tP X.tR X.own R5.h 2 R5.k R5.e R5.p R5.nx, .dead, .ob (ObK.gr 135 true) (List.map AV.p R5.cs)]⟩
 (.call ⟨33, [.mp 0 0, .p (.ps le.length 8 (encL le))], [lkB X.M X.tP X.tR X.own R5.h 1 R5.k R5.e R5.p R5.nx, .ob (ObK.gr 135 true) (List.map keepP (List.map keepP (List.map AV.p R5.cs)))], .tup [], [lkB X.M X.tP X.tR X.own R6.h 2 R6.k R6.e R6.p R6.nx, .dead, .ob (ObK.gr 135 true) (List.map AV.p R6.cs)]⟩
 (.call ⟨34, [.mp 0 0, sI .i64 q], [lkB X.M X.tP X.tR X.own R6.h 1 R6.k R6.e R6.p R6.nx, .ob (ObK.gr 135 true) (List.map keepP (List.map keepP (List.map AV.p R6.cs)))], .tup [], [lkB X.M X.tP X.tR X.own R7.h 2 R7.k R7.e R7.p R7.nx, .dead, .ob (ObK.gr 135 true) (List.map AV.p R7.cs)]⟩
 (.out (.ret (.tup []) [lkB X.M X.tP X.tR X.own R7.h 2 R7.k R7.e R7.p R7.nx, .dead, .ob (ObK.gr 135 true) (List.map keepP (List.map keepP (List.map AV.p R7.cs)))]))))))))))
theorem opG_tree (X : Lx) (R : Rw) (R1 : Rw) (R2 : Rw) (R3 : Rw) (R4 : Rw) (R5 : Rw) (R6 : Rw) (R7 : Rw) (r a b nn : Int) (tg : List Int) (ll : List Ins) (le : List Ins) (q : Int) : growF Tryz.prog env opGOrc 1000000 108 ([AV.mp 0 0, aggI 4 r a b nn tg ll le, sI IntKind.i64 q]) (memIn X R) (opGSc X R R1 R2 R3 R4 R5 R6 R7 r a b nn tg ll le q) = opGTree X R R1 R2 R3 R4 R5 R6 R7 r a b nn tg ll le q := by kernel_rfl

end Go.Proofs.YtgbphddecpjlhaaGreatDoor.N
end

section
set_option linter.unusedSimpArgs false
namespace Go.Proofs.YtgbphddecpjlhaaGreatDoor.N
open Go Go.Am

theorem okFs_re {h h' : Int} {t : Fr} {d : Bool} : ∀ {o : List Fr} {b : Int}, okFs h b (o ++ [t]) → t.base ≤ h' → okFs h' b (o ++ [⟨t.op, t.base, t.res, d⟩]) ∧ b ≤ t.base
  | [], _, ⟨h1, h2, _, h4, h5, _⟩, hh => ⟨⟨h1, h2, hh, h4, h5, trivial⟩, h2⟩
  | f :: o, b, ⟨h1, h2, h3, h4, h5, h6⟩, hh => by
    obtain ⟨q1, q2⟩ := okFs_re (o := o) h6 hh
    exact ⟨⟨h1, h2, by omega, h4, h5, q1⟩, by omega⟩

theorem okStand_re {h h' : Int} {o : List Fr} {t : Fr} {d : Bool} (hk : okStand h (o ++ [t])) (h1 : t.base ≤ h') (h2 : h' ≤ 1073741824) : okStand h' (o ++ [⟨t.op, t.base, t.res, d⟩]) := by
  cases o with
  | nil =>
    obtain ⟨k1, k2, k3, k4, k5, k6, k7, k8⟩ := hk
    exact ⟨k1, k2, k3, k4, trivial, by omega, h2, k8⟩
  | cons f o =>
    obtain ⟨k1, k2, k3, k4, k5, k6, k7, k8⟩ := hk
    obtain ⟨q1, q2⟩ := okFs_re (d := d) k5 h1
    exact ⟨k1, k2, k3, k4, q1, by omega, h2, by simpa using k8⟩

theorem okFs_app {h op n : Int} (ho : op = 2 ∨ op = 3 ∨ op = 4 ∨ op = 5) (hn : 0 ≤ n) (hn1 : n ≤ 1) : ∀ {o : List Fr} {b : Int}, okFs h b o → b ≤ h → okFs h b (o ++ [⟨op, h, n, false⟩])
  | [], _, _, hb => ⟨ho, hb, Int.le_refl _, hn, hn1, trivial⟩
  | _ :: _, _, ⟨h1, h2, h3, h4, h5, h6⟩, _ => ⟨h1, h2, h3, h4, h5, okFs_app ho hn hn1 h6 h3⟩

theorem okStand_app {h op n : Int} {o : List Fr} (hk : okStand h o) (ho : op = 2 ∨ op = 3 ∨ op = 4 ∨ op = 5) (hn : 0 ≤ n) (hn1 : n ≤ 1) (hl : o.length < 1000) : okStand h (o ++ [⟨op, h, n, false⟩]) := by
  cases o with
  | nil => exact hk.elim
  | cons f o =>
    obtain ⟨k1, k2, k3, k4, k5, k6, k7, k8⟩ := hk
    exact ⟨k1, k2, k3, k4, okFs_app ho hn hn1 k5 k6, k6, k7, by simp at hl ⊢; omega⟩

theorem okFs_pre {h : Int} : ∀ {l m : List Fr} {b : Int}, okFs h b (l ++ m) → okFs h b l
  | [], _, _, _ => trivial
  | _ :: _, _, _, ⟨h1, h2, h3, h4, h5, h6⟩ => ⟨h1, h2, h3, h4, h5, okFs_pre h6⟩

theorem okStand_pre {h : Int} {l m : List Fr} (hk : okStand h (l ++ m)) (hl : l ≠ []) : okStand h l := by
  cases l with
  | nil => exact absurd rfl hl
  | cons f o =>
    obtain ⟨k1, k2, k3, k4, k5, k6, k7, k8⟩ := hk
    exact ⟨k1, k2, k3, k4, okFs_pre k5, k6, k7, by simp at k8; omega⟩

theorem okFs_last {h : Int} {s t : Fr} : ∀ {o : List Fr} {b : Int}, okFs h b (o ++ [s] ++ [t]) → s.base ≤ t.base
  | [], _, ⟨_, _, _, _, _, _, h2, _⟩ => h2
  | _ :: o, _, ⟨_, _, _, _, _, h6⟩ => okFs_last (o := o) h6

theorem okStand_last {h : Int} {s t : Fr} {o : List Fr} (hk : okStand h (o ++ [s] ++ [t])) : s.base ≤ t.base := by
  cases o with
  | nil =>
    obtain ⟨k1, k2, k3, k4, ⟨_, q2, _⟩, k6, k7, k8⟩ := hk
    rw [k2]; exact q2
  | cons f o =>
    obtain ⟨k1, k2, k3, k4, k5, k6, k7, k8⟩ := hk
    exact okFs_last (o := o) k5

def labs (l : List Fr) : List Nat := l.reverse.map fun f => if f.op = 3 then 0 else f.res.toNat

theorem labs_app (l : List Fr) (t : Fr) : labs (l ++ [t]) = (if t.op = 3 then 0 else t.res.toNat) :: labs l := by simp [labs]

structure Stand (R : Rw) (o : List Fr) (t : Fr) (n : Nat) : Prop where
  h : R.h = t.base + n
  k : R.k = o.length + 1
  cs : ∃ ex, R.cs = encFs (o ++ [t]) ++ ex
  ok : okStand R.h (o ++ [t])

structure Good (R : Rw) (o : List Fr) (t : Fr) (n c : Nat) : Prop extends Stand R o t n where
  e : R.e = 0
  nx : R.nx = c
  p0 : R.p = 0
  le : R.h ≤ c

def After (o : List Fr) (t : Fr) (R : Rw) : VR → Prop
  | .bad e q => R.e = e ∧ e ≠ 0 ∧ R.p = q
  | .ok n d c => Good R o ⟨t.op, t.base, t.res, d⟩ n c

theorem u64In {z : Int} (h1 : 0 ≤ z) (h2 : z ≤ 18446744073709551615) : IntKind.u64.wrap z = z := by
  show z % 18446744073709551616 = z
  omega

section
variable {X : Lx} {R : Rw} {o : List Fr} {t : Fr} {n c : Nat}

theorem Stand.nums (g : Stand R o t n) : 0 ≤ t.base ∧ 0 ≤ t.res ∧ t.res ≤ 1 ∧ R.h ≤ 1073741824 ∧ o.length + 1 ≤ 1000 := by
  obtain ⟨q1, q2, q3⟩ := okStand_num g.ok
  obtain ⟨m1, m2, m3, m4⟩ := okStand_mem g.ok t (by simp)
  exact ⟨m1, m3, m4, q2, by simpa using q3⟩

theorem pop_run (g : Good R o t n c) (m q : Nat) : ∃ R', Run X 110 [sI .i64 m, sI .i64 q] R R' ∧ After o t R' (popV q m n t.dead fun n' => .ok n' t.dead c) ∧ R'.h ≤ R.h ∧ R'.nx = R.nx := by
  obtain ⟨ex, hex⟩ := g.cs
  obtain ⟨b1, b2, b3, b4, b5⟩ := g.toStand.nums
  have hh := g.h
  have hle := g.le
  by_cases hb : n < m ∧ t.dead = false
  · have hd := pop_bad ex g.ok (n := m) (by omega) (by omega) hb.2
    rw [← g.k, ← hex] at hd
    refine ⟨_, popB (X := X) (q := q) g.e (by decide) hd, ?_, Int.le_refl _, rfl⟩
    rw [popV, if_pos hb]
    exact ⟨rfl, by decide, rfl⟩
  · rw [popV, if_neg hb]
    by_cases hm : m ≤ n
    · have hd := pop_ok ex g.ok (n := m) (by omega) (by omega)
      rw [← g.k, ← hex] at hd
      refine ⟨_, popO (X := X) (q := q) g.e hd, ⟨⟨?_, g.k, ⟨[], by simp⟩, okStand_re g.ok ?_ ?_⟩, rfl, g.nx, g.p0, ?_⟩, ?_, rfl⟩ <;> simp only <;> omega
    · have hdd : t.dead = true := by cases hd : t.dead <;> simp_all <;> omega
      have hd := pop_dead ex g.ok (n := m) (by omega) (by omega) hdd
      rw [← g.k, ← hex] at hd
      refine ⟨_, popO (X := X) (q := q) g.e hd, ⟨⟨?_, g.k, ⟨[], by simp⟩, okStand_re g.ok ?_ ?_⟩, rfl, g.nx, g.p0, ?_⟩, ?_, rfl⟩ <;> simp only <;> omega

theorem push_run (g : Good R o t n c) (m q : Nat) (hm : R.h + m ≤ c) (hc : c ≤ 1000000000) : ∃ R', Run X 111 [sI .i64 m, sI .i64 q] R R' ∧ Good R' o t (n + m) c := by
  obtain ⟨ex, hex⟩ := g.cs
  obtain ⟨b1, b2, b3, b4, b5⟩ := g.toStand.nums
  have hh := g.h
  have hd := push_ok ex g.ok (n := m) (by omega) (by omega)
  rw [← g.k, ← hex] at hd
  refine ⟨_, pusO (X := X) (q := q) g.e hd, ⟨⟨?_, g.k, ⟨[], by simp⟩, okStand_re (d := t.dead) g.ok ?_ ?_⟩, rfl, g.nx, g.p0, ?_⟩⟩ <;> simp only <;> omega

theorem dead_run (g : Good R o t n c) (q : Nat) : ∃ R', Run X 107 [sI .i64 q] R R' ∧ Good R' o ⟨t.op, t.base, t.res, true⟩ 0 c ∧ R'.h ≤ R.h := by
  obtain ⟨ex, hex⟩ := g.cs
  obtain ⟨b1, b2, b3, b4, b5⟩ := g.toStand.nums
  have hh := g.h
  have hle := g.le
  have hd := dead_ok ex g.ok
  rw [← g.k, ← hex] at hd
  refine ⟨_, deaO (X := X) (q := q) g.e hd, ⟨⟨?_, g.k, ⟨[], by simp⟩, okStand_re g.ok ?_ ?_⟩, rfl, g.nx, g.p0, ?_⟩, ?_⟩ <;> simp only <;> omega

theorem entK {n r q : Int} {h2 : Int} {k2 : Nat} {c2 : List PV} (he : R.e = 0) (hd : Does Tryz.prog env 153 [.agg [sI .i64 R.h, .ms 0 0 R.k 4 none], sI .i64 n, sI .i64 r] [frB R.cs] (.tup [.agg [sI .i64 h2, .ms 1 0 k2 4 none], sI .i64 0]) [frB R.cs, frB c2]) :
    Does Tryz.prog env 134 [.mp 0 0, sI .i64 n, sI .i64 r, sI .i64 q] (memIn X R) (.tup []) [lkB X.M X.tP X.tR X.own h2 2 k2 0 R.p R.nx, frB R.cs, frB c2] := by
  obtain ⟨h, k, cs, e, p, nx⟩ := R
  simp only at he hd
  subst he
  refine does_of_tree names (lentO_tree X.M X.tP X.tR X.own h k cs 0 p nx n q r h2 k2 c2 0) ?_
  simp only [lentOTree, Tree.ok, keep_map]
  exact ⟨hd, rfl⟩

theorem enter_run (g : Good R o t n c) {op r : Int} (q : Nat) (hop : op = 2 ∨ op = 3 ∨ op = 4 ∨ op = 5) (hr : 0 ≤ r) (hr1 : r ≤ 1) (ho : o.length + 1 < 1000) :
    ∃ R', Run X 134 [sI .i64 op, sI .i64 r, sI .i64 q] R R' ∧ Does Tryz.prog env 134 [.mp 0 0, sI .i64 op, sI .i64 r, sI .i64 q] (memIn X R) (.tup []) [lkB X.M X.tP X.tR X.own R'.h 2 R'.k R'.e R'.p R'.nx, frB R.cs, frB R'.cs] ∧
      Good R' (o ++ [t]) ⟨op, R.h, r, false⟩ 0 c := by
  obtain ⟨ex, hex⟩ := g.cs
  have hle := g.le
  have hd := enter_ok ex g.ok hop hr hr1 ho
  rw [← g.k, ← hex] at hd
  refine ⟨⟨R.h, o.length + 2, encFs (o ++ [t] ++ [⟨op, R.h, r, false⟩]), 0, R.p, R.nx⟩, entO (X := X) (q := q) g.e hd, entK (X := X) (q := q) g.e hd, ⟨⟨?_, ?_, ⟨[], by simp⟩, okStand_app g.ok hop hr hr1 (by simpa using ho)⟩, rfl, g.nx, g.p0, hle⟩⟩
  · simp
  · simp

theorem leave_run {s : Fr} (g : Good R (o ++ [s]) t n c) (q : Nat) (hb : t.base + t.res ≤ c) (hc : c ≤ 1000000000) :
    ∃ R', Run X 34 [sI .i64 q] R R' ∧ After o s R' (endV t.res.toNat n t.dead q (.ok ((t.base - s.base).toNat + t.res.toNat) s.dead c)) := by
  obtain ⟨ex, hex⟩ := g.cs
  obtain ⟨b1, b2, b3, b4, b5⟩ := g.toStand.nums
  have hh := g.h
  have hle := g.le
  have hs := okStand_last g.ok
  have hpre : okStand R.h (o ++ [s]) := okStand_pre g.ok (by simp)
  obtain ⟨s1, _⟩ := okStand_mem hpre s (by simp)
  have hk : R.k = (o ++ [s]).length + 1 := g.k
  rw [endV, popV]
  have fin : ∀ (R' : Rw), R' = ⟨t.base + t.res, (o ++ [s]).length, encFs (o ++ [s] ++ [t]), 0, R.p, R.nx⟩ → After o s R' (.ok ((t.base - s.base).toNat + t.res.toNat) s.dead c) := by
    intro R' e
    subst e
    refine ⟨⟨?_, ?_, ⟨encFs [t], by rw [← encFs_append]⟩, okStand_re (d := s.dead) hpre ?_ ?_⟩, rfl, g.nx, g.p0, hb⟩ <;> simp only [List.length_append, List.length_singleton] <;> omega
  by_cases hbad : n < t.res.toNat ∧ t.dead = false
  · have hd := leave_under ex g.ok (by omega) hbad.2
    rw [← hk, ← hex] at hd
    refine ⟨_, leaB (X := X) (q := q) g.e (by decide) hd, ?_⟩
    rw [if_pos hbad]
    exact ⟨rfl, by decide, rfl⟩
  · rw [if_neg hbad]
    by_cases hlt : t.res.toNat < n
    · have hd := leave_left ex g.ok (by omega)
      rw [← hk, ← hex] at hd
      refine ⟨_, leaB (X := X) (q := q) g.e (by decide) hd, ?_⟩
      rw [if_pos (by omega)]
      exact ⟨rfl, by decide, rfl⟩
    · rw [if_neg (by omega)]
      by_cases heq : n = t.res.toNat
      · have hd := leave_ok ex g.ok (by omega)
        rw [← hk, ← hex] at hd
        exact ⟨_, leaO (X := X) (q := q) g.e hd, fin _ rfl⟩
      · have hdd : t.dead = true := by cases hd : t.dead <;> simp_all <;> omega
        have hd := leave_dead ex g.ok (by omega) hdd
        rw [← hk, ← hex] at hd
        exact ⟨_, leaO (X := X) (q := q) g.e hd, fin _ rfl⟩

theorem leave_end (g : Good R [] t n c) (q : Nat) :
    ∃ R', Run X 34 [sI .i64 q] R R' ∧ match endV t.res.toNat n t.dead q (.ok 0 false 0) with
      | .bad e p => R'.e = e ∧ R'.p = p
      | .ok .. => R'.e = 0 ∧ R'.p = R.p := by
  obtain ⟨ex, hex⟩ := g.cs
  obtain ⟨b1, b2, b3, b4, b5⟩ := g.toStand.nums
  have hh := g.h
  have hk : R.k = ([] : List Fr).length + 1 := g.k
  rw [endV, popV]
  by_cases hbad : n < t.res.toNat ∧ t.dead = false
  · have hd := leave_under ex g.ok (by omega) hbad.2
    rw [← hk, ← hex] at hd
    refine ⟨_, leaB (X := X) (q := q) g.e (by decide) hd, ?_⟩
    rw [if_pos hbad]
    exact ⟨rfl, rfl⟩
  · rw [if_neg hbad]
    by_cases hlt : t.res.toNat < n
    · have hd := leave_left ex g.ok (by omega)
      rw [← hk, ← hex] at hd
      refine ⟨_, leaB (X := X) (q := q) g.e (by decide) hd, ?_⟩
      rw [if_pos (by omega)]
      exact ⟨rfl, rfl⟩
    · rw [if_neg (by omega)]
      by_cases heq : n = t.res.toNat
      · have hd := leave_ok ex g.ok (by omega)
        rw [← hk, ← hex] at hd
        exact ⟨_, leaO (X := X) (q := q) g.e hd, rfl, rfl⟩
      · have hdd : t.dead = true := by cases hd : t.dead <;> simp_all <;> omega
        have hd := leave_dead ex g.ok (by omega) hdd
        rw [← hk, ← hex] at hd
        exact ⟨_, leaO (X := X) (q := q) g.e hd, rfl, rfl⟩

def askS (R : Rw) (b : Bool) (ec q : Int) : Rw := if b = true ∨ R.e ≠ 0 ∨ ec = 0 then R else ⟨R.h, R.k, R.cs, ec, q, R.nx⟩

theorem ask_run (b : Bool) (ec q : Int) : Ask X 113 [sB b, sI .i64 ec, sI .i64 q] (.tup []) R (askS R b ec q) := by
  refine does_of_tree names (lask_tree X.M X.tP X.tR X.own R.h R.k R.cs R.e R.p R.nx q ec b) ?_
  simp only [laskTree, Tree.ok, keep_map]
  unfold askS
  refine ⟨fun h1 => ⟨fun h2 => ⟨fun h3 => ?_, fun h3 => ?_⟩, fun h2 => ?_⟩, fun h1 => ?_⟩
  · rw [if_neg (by simp at h1 h2 h3; simp [h1, h2, h3])]; rfl
  · rw [if_pos (.inr (.inr (by simpa using h3)))]; rfl
  · rw [if_pos (.inr (.inl (by simpa using h2)))]; rfl
  · rw [if_pos (.inl (by simpa using h1))]; rfl

theorem fr_at {l : List Fr} {a : Nat} {k : Nat} (h : (labs l)[a]? = some k) : ∃ f, l[l.length - 1 - a]? = some f ∧ k = (if f.op = 3 then 0 else f.res.toNat) ∧ a < l.length := by
  have ha : a < l.length := by
    obtain ⟨h1, _⟩ := List.getElem?_eq_some_iff.1 h
    simpa [labs] using h1
  have hk : l.length - 1 - a < l.length := by omega
  refine ⟨l[l.length - 1 - a], List.getElem?_eq_getElem hk, ?_, ha⟩
  have hr : l.reverse[a]? = some l[l.length - 1 - a] := by
    rw [List.getElem?_reverse ha, List.getElem?_eq_getElem hk]
  rw [labs, List.getElem?_map, hr] at h
  simpa using h.symm

theorem slab_does (g : Stand R o t n) {a k : Nat} (h : (labs (o ++ [t]))[a]? = some k) :
    Does Tryz.prog env 135 [.agg [sI .i64 R.h, .ms 0 0 R.k 4 none], sI .i64 a] [frB R.cs] (.tup [sI .i64 k, sI .i64 0]) [frB R.cs] := by
  obtain ⟨ex, hex⟩ := g.cs
  obtain ⟨b1, b2, b3, b4, b5⟩ := g.nums
  have hl : (o ++ [t]).length = o.length + 1 := by simp
  obtain ⟨f, hf, hk, ha⟩ := fr_at h
  obtain ⟨m1, m2, m3, m4⟩ := okStand_mem g.ok f (List.mem_of_getElem? hf)
  obtain ⟨c0, c1, c2, c3⟩ := fr_cells hf ex
  have hch := chk_does R.h (o ++ [t]) ex g.ok
  have hlen : (encFs (o ++ [t]) ++ ex).length = (o.length + 1) * 4 + ex.length := by rw [List.length_append, encFs_length, hl]
  rw [hl] at hch hf c0 c1 c2 c3 ha
  rw [hex, g.k]
  refine does_of_tree names (slab_tree R.h (o.length + 1) (o.length + 1 - 1 - a) (encFs (o ++ [t]) ++ ex) a f.op f.base f.res f.dead) ?_
  have w1 : IntKind.i64.wrap (((o.length + 1 : Nat) : Int) - 1) = (o.length : Int) := by rw [i64In (by omega) (by omega)]; omega
  have w2 : IntKind.i64.wrap ((o.length : Int) - a) = ((o.length + 1 - 1 - a : Nat) : Int) := by rw [i64In (by omega) (by omega)]; omega
  have g1 : decide ((a : Int) < 0) = false := by simp
  have g2 : decide ((a : Int) ≥ ((o.length + 1 : Nat) : Int)) = false := by simp; omega
  simp only [slabTree, Tree.ok, keep_map, w1, w2, g1, g2, Int.toNat_natCast, Nat.zero_add, c0, c1, c2, c3, normA, normP, isInt, isBool, pvInt, pvBool, ik, inB, List.length_map, hlen,
    Bool.false_eq_true, false_implies, true_implies, and_true, true_and, Bool.and_true, Bool.true_and, Nat.ble_eq, Bool.and_eq_true, decide_eq_true_eq]
  refine ⟨hch, by omega, by omega, fun h3 => ?_, fun h3 => ?_⟩
  · rw [hk, if_pos (by simpa using h3)]; rfl
  · rw [hk, if_neg (by simpa using h3), Int.toNat_of_nonneg m3]

theorem label_run (g : Stand R o t n) (a : Nat) (ha : a < 4294967296) (q : Nat) :
    Ask X 109 [sI .u32 a, sI .i64 q] (sI .i64 ((labs (o ++ [t])).getD a 0 : Nat)) R (askS R (decide (a < (o ++ [t]).length)) 6 q) := by
  have hl : (o ++ [t]).length = o.length + 1 := by simp
  have hll : (labs (o ++ [t])).length = o.length + 1 := by simp [labs]
  obtain ⟨b1, b2, b3, b4, b5⟩ := g.nums
  have hgk := g.k
  by_cases h : a < o.length + 1
  · have hs : (labs (o ++ [t]))[a]? = some ((labs (o ++ [t])).getD a 0) := by
      rw [List.getD_eq_getElem?_getD, List.getElem?_eq_getElem (by omega)]; rfl
    refine does_of_tree names (llab_tree X.M X.tP X.tR X.own R.h R.k R.cs R.e R.p R.nx a q ((labs (o ++ [t])).getD a 0 : Nat) 0) ?_
    have w1 : IntKind.u64.wrap (a : Int) = a := u64In (by omega) (by omega)
    have w2 : IntKind.u64.wrap (R.k : Int) = R.k := u64In (by omega) (by omega)
    have w3 : IntKind.i64.wrap (a : Int) = a := i64In (by omega) (by omega)
    have g1 : decide ((a : Int) ≥ (R.k : Int)) = false := by simp; omega
    have hA : askS R (decide (a < (o ++ [t]).length)) 6 q = R := by
      unfold askS; rw [if_pos (.inl (by simp; omega))]
    simp only [llabTree, Tree.ok, keep_map, w1, w2, w3, g1, hA, Bool.false_eq_true, false_implies, true_implies, true_and]
    exact ⟨slab_does g hs, fun _ => rfl, fun _ => rfl⟩
  · refine does_of_tree names (llab_tree X.M X.tP X.tR X.own R.h R.k R.cs R.e R.p R.nx a q 0 0) ?_
    have w1 : IntKind.u64.wrap (a : Int) = a := u64In (by omega) (by omega)
    have w2 : IntKind.u64.wrap (R.k : Int) = R.k := u64In (by omega) (by omega)
    have g1 : decide ((a : Int) ≥ (R.k : Int)) = true := by simp; omega
    have hz : (labs (o ++ [t])).getD a 0 = 0 := by rw [List.getD_eq_getElem?_getD, List.getElem?_eq_none (by omega)]; rfl
    have hd : decide (a < (o ++ [t]).length) = false := by simp; omega
    simp only [llabTree, Tree.ok, keep_map, w1, w2, g1, hz, hd, Bool.true_eq_false, false_implies, true_implies, and_true]
    unfold askS
    refine ⟨fun h2 => ?_, fun h2 => ?_⟩
    · rw [if_neg (by simp at h2; simp [h2])]; rfl
    · rw [if_pos (.inr (.inl (by simpa using h2)))]; rfl

end
end Go.Proofs.YtgbphddecpjlhaaGreatDoor.N
end

section
set_option linter.unusedSimpArgs false
namespace Go.Proofs.YtgbphddecpjlhaaGreatDoor.N
open Go Go.Am

section
variable {X : Lx} {R R1 R2 R3 R4 R5 R6 R7 : Rw}

theorem cal_of {P Q q : Int} (h1 : Run X 110 [sI .i64 P, sI .i64 q] R R1) (h2 : Run X 111 [sI .i64 Q, sI .i64 q] R1 R2) : Run X 114 [.agg [sI .i64 P, sI .i64 Q], sI .i64 q] R R2 := by
  refine does_of_tree names (cal_tree X R R1 R2 R R R R R P Q q) ?_
  simp only [calTree, Tree.ok, keep_map]
  exact ⟨h1, h2, trivial⟩

theorem shp_of {op q tk tl : Int} {is : Bool} (h0 : Does Tryz.prog env 157 [sI .i64 op] [] (.tup [sI .i64 tk, sI .i64 tl, sB is]) []) (h1 : Run X 110 [sI .i64 tk, sI .i64 q] R R1) (h2 : Run X 111 [sI .i64 tl, sI .i64 q] R1 R2) :
    Run X 141 [sI .i64 op, sI .i64 q] R R2 := by
  refine does_of_tree names (shp_tree X R R1 R2 R R R R R op q tk tl is) ?_
  simp only [shpTree, Tree.ok, keep_map]
  exact ⟨h0, h1, h2, trivial⟩

variable {op r a b nn q : Int} {tg : List Int} {ll le : List Ins}

theorem ins_dead (h : Run X 107 [sI .i64 q] R R1) : Run X 83 [aggI 0 r a b nn tg ll le, sI .i64 q] R R1 := by
  refine does_of_tree names (ins_tree X R R1 R R R R R R 0 r a b nn tg ll le q 0 0 0 true) ?_
  simp only [insTree, Tree.ok, keep_map, Int.reduceBEq, Bool.not_false, Bool.false_eq_true, Bool.true_eq_false, false_implies, true_implies, true_and, and_true]
  exact h

theorem ins_opens (ho : op = 2 ∨ op = 3 ∨ op = 4) (h : Run X 108 [aggI op r a b nn tg ll le, sI .i64 q] R R1) : Run X 83 [aggI op r a b nn tg ll le, sI .i64 q] R R1 := by
  refine does_of_tree names (ins_tree X R R1 R R R R R R op r a b nn tg ll le q 0 0 0 true) ?_
  rcases ho with rfl | rfl | rfl <;>
  · simp only [insTree, Tree.ok, keep_map, Int.reduceBEq, Bool.not_false, Bool.false_eq_true, Bool.true_eq_false, false_implies, true_implies, true_and, and_true]
    exact h

theorem ins_br {v : Int} (h1 : Ask X 109 [sI .u32 a, sI .i64 q] (sI .i64 v) R R1) (h2 : Run X 110 [sI .i64 v, sI .i64 q] R1 R2) (h3 : Run X 107 [sI .i64 q] R2 R3) : Run X 83 [aggI 12 r a b nn tg ll le, sI .i64 q] R R3 := by
  refine does_of_tree names (ins_tree X R R1 R2 R3 R R R R 12 r a b nn tg ll le q v 0 0 true) ?_
  simp only [insTree, Tree.ok, keep_map, Int.reduceBEq, Bool.not_false, Bool.false_eq_true, Bool.true_eq_false, false_implies, true_implies, true_and, and_true]
  exact ⟨h1, h2, h3⟩

theorem ins_brif {v : Int} (h1 : Ask X 109 [sI .u32 a, sI .i64 q] (sI .i64 v) R R1) (h2 : Run X 110 [sI .i64 1, sI .i64 q] R1 R2) (h3 : Run X 110 [sI .i64 v, sI .i64 q] R2 R3) (h4 : Run X 111 [sI .i64 v, sI .i64 q] R3 R4) : Run X 83 [aggI 13 r a b nn tg ll le, sI .i64 q] R R4 := by
  refine does_of_tree names (ins_tree X R R1 R2 R3 R4 R R R 13 r a b nn tg ll le q v 0 0 true) ?_
  simp only [insTree, Tree.ok, keep_map, Int.reduceBEq, Bool.not_false, Bool.false_eq_true, Bool.true_eq_false, false_implies, true_implies, true_and, and_true]
  exact ⟨h1, h2, h3, h4⟩

theorem ins_table (h : Run X 112 [aggI 14 r a b nn tg ll le, sI .i64 q] R R1) : Run X 83 [aggI 14 r a b nn tg ll le, sI .i64 q] R R1 := by
  refine does_of_tree names (ins_tree X R R1 R R R R R R 14 r a b nn tg ll le q 0 0 0 true) ?_
  simp only [insTree, Tree.ok, keep_map, Int.reduceBEq, Bool.not_false, Bool.false_eq_true, Bool.true_eq_false, false_implies, true_implies, true_and, and_true]
  exact h

theorem ins_ret (h1 : Run X 110 [sI .i64 X.tR, sI .i64 q] R R1) (h2 : Run X 107 [sI .i64 q] R1 R2) : Run X 83 [aggI 15 r a b nn tg ll le, sI .i64 q] R R2 := by
  refine does_of_tree names (ins_tree X R R1 R2 R R R R R 15 r a b nn tg ll le q 0 0 0 true) ?_
  simp only [insTree, Tree.ok, keep_map, Int.reduceBEq, Bool.not_false, Bool.false_eq_true, Bool.true_eq_false, false_implies, true_implies, true_and, and_true]
  exact ⟨h1, h2⟩

theorem ins_call {P Q : Int} {is : Bool} (h0 : Does Tryz.prog env 31 [.agg X.M.cells, sI .u32 a] [] (.tup [.agg [sI .i64 P, sI .i64 Q], sB is]) []) (h1 : Ask X 113 [sB is, sI .i64 6, sI .i64 q] (.tup []) R R1) (h2 : Run X 114 [.agg [sI .i64 P, sI .i64 Q], sI .i64 q] R1 R2) :
    Run X 83 [aggI 16 r a b nn tg ll le, sI .i64 q] R R2 := by
  refine does_of_tree names (ins_tree X R R R1 R2 R R R R 16 r a b nn tg ll le q 0 P Q is) ?_
  simp only [insTree, Tree.ok, keep_map, Int.reduceBEq, Bool.not_false, Bool.false_eq_true, Bool.true_eq_false, false_implies, true_implies, true_and, and_true]
  exact ⟨h0, h1, h2⟩

theorem ins_plain (ho : op ≠ 0 ∧ op ≠ 2 ∧ op ≠ 3 ∧ op ≠ 4 ∧ op ≠ 12 ∧ op ≠ 13 ∧ op ≠ 14 ∧ op ≠ 15 ∧ op ≠ 16 ∧ op ≠ 17) (h : Run X 115 [aggI op r a b nn tg ll le, sI .i64 q] R R1) : Run X 83 [aggI op r a b nn tg ll le, sI .i64 q] R R1 := by
  refine does_of_tree names (ins_tree X R R1 R R R R R R op r a b nn tg ll le q 0 0 0 true) ?_
  obtain ⟨k0, k1, k2, k3, k4, k5, k6, k7, k8, k9⟩ := ho
  have e0 : (op == 0) = false := by simpa using k0
  have e1 : (op == 2) = false := by simpa using k1
  have e2 : (op == 3) = false := by simpa using k2
  have e3 : (op == 4) = false := by simpa using k3
  have e4 : (op == 12) = false := by simpa using k4
  have e5 : (op == 13) = false := by simpa using k5
  have e6 : (op == 14) = false := by simpa using k6
  have e7 : (op == 15) = false := by simpa using k7
  have e8 : (op == 16) = false := by simpa using k8
  have e9 : (op == 17) = false := by simpa using k9
  simp only [insTree, Tree.ok, keep_map, e0, e1, e2, e3, e4, e5, e6, e7, e8, e9, Bool.not_false, Bool.false_eq_true, Bool.true_eq_false, false_implies, true_implies, true_and, and_true]
  exact h

theorem ins_indT {P Q : Int} (ht : 0 < X.M.taN) (hn : X.M.tyN ≤ 1000000000) (ha : 0 ≤ a ∧ a < 4294967296) (hc : a < X.M.tyN → X.M.tyC.getD (a.toNat * 2) .bad = .sc (.int .i64 P) ∧ X.M.tyC.getD (a.toNat * 2 + 1) .bad = .sc (.int .i64 Q))
    (h1 : Ask X 113 [sB (decide (a < X.M.tyN)), sI .i64 6, sI .i64 q] (.tup []) R R1) (h2 : Run X 110 [sI .i64 1, sI .i64 q] R1 R2) (h3 : a < X.M.tyN → Run X 114 [.agg [sI .i64 P, sI .i64 Q], sI .i64 q] R2 R3) (h4 : ¬ a < X.M.tyN → R3 = R2) :
    Run X 83 [aggI 17 r a b nn tg ll le, sI .i64 q] R R3 := by
  refine Does.fromW (rows := [(83, 110, sB true), (83, 140, .agg [sI .i64 P, sI .i64 Q])]) ?_
  refine does_of_tree names (iiT_tree X R R1 R2 R3 R R R R 17 r a b nn tg ll le q 0 P Q true) ?_
  have w1 : IntKind.u64.wrap a = a := u64In (by omega) (by omega)
  have w2 : IntKind.u64.wrap (X.M.tyN : Int) = X.M.tyN := u64In (by omega) (by omega)
  have g1 : decide ((X.M.taN : Int) > 0) = true := by simp; omega
  simp only [iiTTree, Tree.ok, keep_map, Int.reduceBEq, Bool.not_false, w1, w2, g1, eqAV_bool, eqBool, Bool.and_true, true_and, and_true]
  refine ⟨Does.toW h1, Does.toW h2, fun h => ?_, fun h => ?_⟩
  · have h := of_decide_eq_true h
    obtain ⟨c0, c1⟩ := hc h
    simp only [c0, c1, isInt, pvInt, ik, eqAV, eqAVs, eqPV, eqV, eqKind, inB, decide_true, Bool.and_true, Bool.and_eq_true, decide_eq_true_eq]
    refine ⟨?_, ?_⟩
    · exact ⟨by omega, by omega⟩
    · exact Does.toW (h3 h)
  · have h := of_decide_eq_false h
    rw [h4 h]

theorem ins_indF (ht : X.M.taN = 0) (h1 : Ask X 113 [sB false, sI .i64 6, sI .i64 q] (.tup []) R R1) (h2 : Run X 110 [sI .i64 1, sI .i64 q] R1 R2) :
    Run X 83 [aggI 17 r a b nn tg ll le, sI .i64 q] R R2 := by
  refine Does.fromW (rows := [(83, 110, sB false)]) ?_
  refine does_of_tree names (iiF_tree X R R1 R2 R R R R R 17 r a b nn tg ll le q 0 0 0 true) ?_
  have g1 : decide ((X.M.taN : Int) > 0) = false := by simp; omega
  simp only [iiFTree, Tree.ok, keep_map, Int.reduceBEq, Bool.not_false, g1, eqAV_bool, eqBool, Bool.and_true, true_and, and_true]
  exact ⟨Does.toW h1, Does.toW h2⟩

theorem opn_of (ho : op ≠ 4) (h1 : Run X 134 [sI .i64 op, sI .i64 r, sI .i64 q] R R1) (h2 : Run X 33 [aL ll] R1 R2) (h3 : Run X 34 [sI .i64 q] R2 R3) : Run X 108 [aggI op r a b nn tg ll le, sI .i64 q] R R3 := by
  refine does_of_tree names (opn_tree X R R1 R2 R3 R R R R op r a b nn tg ll le q) ?_
  have e0 : (op != 4) = true := by simpa using ho
  simp only [opnTree, Tree.ok, keep_map, e0, true_and, and_true]
  exact ⟨h1, h2, h3⟩

theorem opB_of (hE : R4.e ≠ 0) (h1 : Run X 110 [sI .i64 1, sI .i64 q] R R1) (h2 : Run X 134 [sI .i64 4, sI .i64 r, sI .i64 q] R1 R2) (h3 : Run X 33 [aL ll] R2 R3) (h4 : Run X 34 [sI .i64 q] R3 R4) : Run X 108 [aggI 4 r a b nn tg ll le, sI .i64 q] R R4 := by
  refine does_of_tree names (opB_tree X R R1 R2 R3 R4 R R R r a b nn tg ll le q) ?_
  have e0 : (R4.e != 0) = true := by simpa using hE
  simp only [opBTree, Tree.ok, keep_map, e0, true_and, and_true, true_implies, Bool.true_eq_false, false_implies]
  exact ⟨h1, h2, h3, h4⟩

theorem opG_of (h1 : Run X 110 [sI .i64 1, sI .i64 q] R R1)
    (h2 : Does Tryz.prog env 134 [.mp 0 0, sI .i64 4, sI .i64 r, sI .i64 q] (memIn X R1) (.tup []) [lkB X.M X.tP X.tR X.own R2.h 2 R2.k R2.e R2.p R2.nx, frB R1.cs, frB R2.cs]) (h3 : Run X 33 [aL ll] R2 R3) (h4 : Run X 34 [sI .i64 q] R3 R4)
    (hE : R4.e ≠ 0 → R7 = R4) (h5 : R4.e = 0 → Run X 134 [sI .i64 5, sI .i64 r, sI .i64 q] ⟨R1.h, R1.k, R1.cs, R4.e, R4.p, R4.nx⟩ R5) (h6 : R4.e = 0 → Run X 33 [aL le] R5 R6) (h7 : R4.e = 0 → Run X 34 [sI .i64 q] R6 R7) :
    Run X 108 [aggI 4 r a b nn tg ll le, sI .i64 q] R R7 := by
  refine does_of_tree names (opG_tree X R R1 R2 R3 R4 R5 R6 R7 r a b nn tg ll le q) ?_
  simp only [opGTree, Tree.ok, keep_map]
  refine ⟨h1, h2, h3, h4, fun h => ?_, fun h => ?_⟩
  · rw [hE (by simpa using h)]
  · have h : R4.e = 0 := by simpa using h
    exact ⟨h5 h, h6 h, h7 h, trivial⟩

end
end Go.Proofs.YtgbphddecpjlhaaGreatDoor.N
end
