/-
  Comparisons: what 'two' makes of two numbers there.
-/
import Derived.Test.YthllpmannpolcaaNumA
namespace Go.Proofs.Ythllpmannpolcaa.N
open Go Go.Am

/- twoEq: 188 steps -/
def twoEqOrc : Orc := orc numCall [] [(17, 0, 0)] []
def twoEqSc : Sc := .fin
def twoEqTree (a : Int) (b : Int) : Tree :=
  (.test (a == b)
   (.out (Out.ret (AV.p (PV.sc (Value.int IntKind.u32 1))) []))
   (.out (Out.ret (AV.p (PV.sc (Value.int IntKind.u32 0))) [])))
theorem twoEq_tree (a : Int) (b : Int) : growF Try.prog noGlob twoEqOrc 1000000 10 ([AV.p (PV.sc (Value.int IntKind.i64 70)), AV.p (PV.sc (Value.int IntKind.u32 a)), AV.p (PV.sc (Value.int IntKind.u32 b))]) [] twoEqSc = twoEqTree a b := by kernel_rfl

/- twoNe: 194 steps -/
def twoNeOrc : Orc := orc numCall [] [(17, 0, 0)] []
def twoNeSc : Sc := .fin
def twoNeTree (a : Int) (b : Int) : Tree :=
  (.test (a != b)
   (.out (Out.ret (AV.p (PV.sc (Value.int IntKind.u32 1))) []))
   (.out (Out.ret (AV.p (PV.sc (Value.int IntKind.u32 0))) [])))
theorem twoNe_tree (a : Int) (b : Int) : growF Try.prog noGlob twoNeOrc 1000000 10 ([AV.p (PV.sc (Value.int IntKind.i64 71)), AV.p (PV.sc (Value.int IntKind.u32 a)), AV.p (PV.sc (Value.int IntKind.u32 b))]) [] twoNeSc = twoNeTree a b := by kernel_rfl

/- twoLtS: 200 steps -/
def twoLtSOrc : Orc := orc numCall [] [(17, 0, 0)] []
def twoLtSSc : Sc := .fin
def twoLtSTree (a : Int) (b : Int) : Tree :=
  (.test (Decidable.decide (IntKind.i32.wrap a < IntKind.i32.wrap b))
   (.out (Out.ret (AV.p (PV.sc (Value.int IntKind.u32 1))) []))
   (.out (Out.ret (AV.p (PV.sc (Value.int IntKind.u32 0))) [])))
theorem twoLtS_tree (a : Int) (b : Int) : growF Try.prog noGlob twoLtSOrc 1000000 10 ([AV.p (PV.sc (Value.int IntKind.i64 72)), AV.p (PV.sc (Value.int IntKind.u32 a)), AV.p (PV.sc (Value.int IntKind.u32 b))]) [] twoLtSSc = twoLtSTree a b := by kernel_rfl

/- twoLtU: 224 steps -/
def twoLtUOrc : Orc := orc numCall [] [(17, 0, 0)] []
def twoLtUSc : Sc := .fin
def twoLtUTree (a : Int) (b : Int) : Tree :=
  (.test (Decidable.decide (a < b))
   (.out (Out.ret (AV.p (PV.sc (Value.int IntKind.u32 1))) []))
   (.out (Out.ret (AV.p (PV.sc (Value.int IntKind.u32 0))) [])))
theorem twoLtU_tree (a : Int) (b : Int) : growF Try.prog noGlob twoLtUOrc 1000000 10 ([AV.p (PV.sc (Value.int IntKind.i64 73)), AV.p (PV.sc (Value.int IntKind.u32 a)), AV.p (PV.sc (Value.int IntKind.u32 b))]) [] twoLtUSc = twoLtUTree a b := by kernel_rfl

/- twoGtS: 206 steps -/
def twoGtSOrc : Orc := orc numCall [] [(17, 0, 0)] []
def twoGtSSc : Sc := .fin
def twoGtSTree (a : Int) (b : Int) : Tree :=
  (.test (Decidable.decide (IntKind.i32.wrap a > IntKind.i32.wrap b))
   (.out (Out.ret (AV.p (PV.sc (Value.int IntKind.u32 1))) []))
   (.out (Out.ret (AV.p (PV.sc (Value.int IntKind.u32 0))) [])))
theorem twoGtS_tree (a : Int) (b : Int) : growF Try.prog noGlob twoGtSOrc 1000000 10 ([AV.p (PV.sc (Value.int IntKind.i64 74)), AV.p (PV.sc (Value.int IntKind.u32 a)), AV.p (PV.sc (Value.int IntKind.u32 b))]) [] twoGtSSc = twoGtSTree a b := by kernel_rfl

/- twoGtU: 230 steps -/
def twoGtUOrc : Orc := orc numCall [] [(17, 0, 0)] []
def twoGtUSc : Sc := .fin
def twoGtUTree (a : Int) (b : Int) : Tree :=
  (.test (Decidable.decide (a > b))
   (.out (Out.ret (AV.p (PV.sc (Value.int IntKind.u32 1))) []))
   (.out (Out.ret (AV.p (PV.sc (Value.int IntKind.u32 0))) [])))
theorem twoGtU_tree (a : Int) (b : Int) : growF Try.prog noGlob twoGtUOrc 1000000 10 ([AV.p (PV.sc (Value.int IntKind.i64 75)), AV.p (PV.sc (Value.int IntKind.u32 a)), AV.p (PV.sc (Value.int IntKind.u32 b))]) [] twoGtUSc = twoGtUTree a b := by kernel_rfl

/- twoLeS: 212 steps -/
def twoLeSOrc : Orc := orc numCall [] [(17, 0, 0)] []
def twoLeSSc : Sc := .fin
def twoLeSTree (a : Int) (b : Int) : Tree :=
  (.test (Decidable.decide (IntKind.i32.wrap a ≤ IntKind.i32.wrap b))
   (.out (Out.ret (AV.p (PV.sc (Value.int IntKind.u32 1))) []))
   (.out (Out.ret (AV.p (PV.sc (Value.int IntKind.u32 0))) [])))
theorem twoLeS_tree (a : Int) (b : Int) : growF Try.prog noGlob twoLeSOrc 1000000 10 ([AV.p (PV.sc (Value.int IntKind.i64 76)), AV.p (PV.sc (Value.int IntKind.u32 a)), AV.p (PV.sc (Value.int IntKind.u32 b))]) [] twoLeSSc = twoLeSTree a b := by kernel_rfl

/- twoLeU: 236 steps -/
def twoLeUOrc : Orc := orc numCall [] [(17, 0, 0)] []
def twoLeUSc : Sc := .fin
def twoLeUTree (a : Int) (b : Int) : Tree :=
  (.test (Decidable.decide (a ≤ b))
   (.out (Out.ret (AV.p (PV.sc (Value.int IntKind.u32 1))) []))
   (.out (Out.ret (AV.p (PV.sc (Value.int IntKind.u32 0))) [])))
theorem twoLeU_tree (a : Int) (b : Int) : growF Try.prog noGlob twoLeUOrc 1000000 10 ([AV.p (PV.sc (Value.int IntKind.i64 77)), AV.p (PV.sc (Value.int IntKind.u32 a)), AV.p (PV.sc (Value.int IntKind.u32 b))]) [] twoLeUSc = twoLeUTree a b := by kernel_rfl

/- twoGeS: 218 steps -/
def twoGeSOrc : Orc := orc numCall [] [(17, 0, 0)] []
def twoGeSSc : Sc := .fin
def twoGeSTree (a : Int) (b : Int) : Tree :=
  (.test (Decidable.decide (IntKind.i32.wrap a ≥ IntKind.i32.wrap b))
   (.out (Out.ret (AV.p (PV.sc (Value.int IntKind.u32 1))) []))
   (.out (Out.ret (AV.p (PV.sc (Value.int IntKind.u32 0))) [])))
theorem twoGeS_tree (a : Int) (b : Int) : growF Try.prog noGlob twoGeSOrc 1000000 10 ([AV.p (PV.sc (Value.int IntKind.i64 78)), AV.p (PV.sc (Value.int IntKind.u32 a)), AV.p (PV.sc (Value.int IntKind.u32 b))]) [] twoGeSSc = twoGeSTree a b := by kernel_rfl

/- twoGeU: 242 steps -/
def twoGeUOrc : Orc := orc numCall [] [(17, 0, 0)] []
def twoGeUSc : Sc := .fin
def twoGeUTree (a : Int) (b : Int) : Tree :=
  (.test (Decidable.decide (a ≥ b))
   (.out (Out.ret (AV.p (PV.sc (Value.int IntKind.u32 1))) []))
   (.out (Out.ret (AV.p (PV.sc (Value.int IntKind.u32 0))) [])))
theorem twoGeU_tree (a : Int) (b : Int) : growF Try.prog noGlob twoGeUOrc 1000000 10 ([AV.p (PV.sc (Value.int IntKind.i64 79)), AV.p (PV.sc (Value.int IntKind.u32 a)), AV.p (PV.sc (Value.int IntKind.u32 b))]) [] twoGeUSc = twoGeUTree a b := by kernel_rfl


def cmpN (op a b : Int) : Int :=
  if op = 70 then (if a = b then 1 else 0) else
  if op = 71 then (if a ≠ b then 1 else 0) else
  if op = 72 then (if (IntKind.i32.wrap a) < (IntKind.i32.wrap b) then 1 else 0) else
  if op = 73 then (if a < b then 1 else 0) else
  if op = 74 then (if (IntKind.i32.wrap b) < (IntKind.i32.wrap a) then 1 else 0) else
  if op = 75 then (if b < a then 1 else 0) else
  if op = 76 then (if (IntKind.i32.wrap a) ≤ (IntKind.i32.wrap b) then 1 else 0) else
  if op = 77 then (if a ≤ b then 1 else 0) else
  if op = 78 then (if (IntKind.i32.wrap b) ≤ (IntKind.i32.wrap a) then 1 else 0) else
  if op = 79 then (if b ≤ a then 1 else 0) else
  0

def ordCall (f : FuncId) (args : List AV) (_ : Mem) : Option (AV × Mem) := if f = 9 then some (sB true, []) else if f = 10 then (match args with
  | [.p (.sc (.int _ op)), .p (.sc (.int _ a)), .p (.sc (.int _ b))] => some (.p (.sc (.int .u32 (cmpN op a b))), [])
  | _ => none) else none

theorem twoEq_does (a b : Int) : Does Try.prog noGlob 10 [.p (.sc (.int .i64 70)), .p (.sc (.int .u32 a)), .p (.sc (.int .u32 b))] [] (.p (.sc (.int .u32 (cmpN 70 a b)))) [] := by
  refine does_of_tree names (twoEq_tree a b) ?_
  simp +contextual [twoEqTree, Tree.ok, cmpN]

theorem twoNe_does (a b : Int) : Does Try.prog noGlob 10 [.p (.sc (.int .i64 71)), .p (.sc (.int .u32 a)), .p (.sc (.int .u32 b))] [] (.p (.sc (.int .u32 (cmpN 71 a b)))) [] := by
  refine does_of_tree names (twoNe_tree a b) ?_
  simp +contextual [twoNeTree, Tree.ok, cmpN]

theorem twoLtS_does (a b : Int) : Does Try.prog noGlob 10 [.p (.sc (.int .i64 72)), .p (.sc (.int .u32 a)), .p (.sc (.int .u32 b))] [] (.p (.sc (.int .u32 (cmpN 72 a b)))) [] := by
  refine does_of_tree names (twoLtS_tree a b) ?_
  simp +contextual [twoLtSTree, Tree.ok, cmpN]

theorem twoLtU_does (a b : Int) : Does Try.prog noGlob 10 [.p (.sc (.int .i64 73)), .p (.sc (.int .u32 a)), .p (.sc (.int .u32 b))] [] (.p (.sc (.int .u32 (cmpN 73 a b)))) [] := by
  refine does_of_tree names (twoLtU_tree a b) ?_
  simp +contextual [twoLtUTree, Tree.ok, cmpN]

theorem twoGtS_does (a b : Int) : Does Try.prog noGlob 10 [.p (.sc (.int .i64 74)), .p (.sc (.int .u32 a)), .p (.sc (.int .u32 b))] [] (.p (.sc (.int .u32 (cmpN 74 a b)))) [] := by
  refine does_of_tree names (twoGtS_tree a b) ?_
  simp +contextual [twoGtSTree, Tree.ok, cmpN]

theorem twoGtU_does (a b : Int) : Does Try.prog noGlob 10 [.p (.sc (.int .i64 75)), .p (.sc (.int .u32 a)), .p (.sc (.int .u32 b))] [] (.p (.sc (.int .u32 (cmpN 75 a b)))) [] := by
  refine does_of_tree names (twoGtU_tree a b) ?_
  simp +contextual [twoGtUTree, Tree.ok, cmpN]

theorem twoLeS_does (a b : Int) : Does Try.prog noGlob 10 [.p (.sc (.int .i64 76)), .p (.sc (.int .u32 a)), .p (.sc (.int .u32 b))] [] (.p (.sc (.int .u32 (cmpN 76 a b)))) [] := by
  refine does_of_tree names (twoLeS_tree a b) ?_
  simp +contextual [twoLeSTree, Tree.ok, cmpN]

theorem twoLeU_does (a b : Int) : Does Try.prog noGlob 10 [.p (.sc (.int .i64 77)), .p (.sc (.int .u32 a)), .p (.sc (.int .u32 b))] [] (.p (.sc (.int .u32 (cmpN 77 a b)))) [] := by
  refine does_of_tree names (twoLeU_tree a b) ?_
  simp +contextual [twoLeUTree, Tree.ok, cmpN]

theorem twoGeS_does (a b : Int) : Does Try.prog noGlob 10 [.p (.sc (.int .i64 78)), .p (.sc (.int .u32 a)), .p (.sc (.int .u32 b))] [] (.p (.sc (.int .u32 (cmpN 78 a b)))) [] := by
  refine does_of_tree names (twoGeS_tree a b) ?_
  simp +contextual [twoGeSTree, Tree.ok, cmpN]

theorem twoGeU_does (a b : Int) : Does Try.prog noGlob 10 [.p (.sc (.int .i64 79)), .p (.sc (.int .u32 a)), .p (.sc (.int .u32 b))] [] (.p (.sc (.int .u32 (cmpN 79 a b)))) [] := by
  refine does_of_tree names (twoGeU_tree a b) ?_
  simp +contextual [twoGeUTree, Tree.ok, cmpN]

end Go.Proofs.Ythllpmannpolcaa.N
