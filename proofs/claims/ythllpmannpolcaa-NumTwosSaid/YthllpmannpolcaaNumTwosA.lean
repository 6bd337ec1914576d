/-
  NumTwos: trees (printed by a program of mine).
-/
import Derived.Test.YthllpmannpolcaaNumA
namespace Go.Proofs.Ythllpmannpolcaa.N
open Go Go.Am

/- lawEq: 680 steps -/
def lawEqOrc : Orc := orc numCall [] [(17, 0, 0), (20, 0, 0)] []
def lawEqSc : Sc := .fin
def lawEqTree (a : Int) (b : Int) : Tree :=
  (.test (a == b)
   (.test (IntKind.i64.wrap a == IntKind.i64.wrap b)
    (.call ⟨9, [], [], AV.p (PV.sc (Value.bool Bool.true)), []⟩
     (.out (Out.ret (AV.p (PV.sc (Value.bool Bool.true))) [])))
    (.out (Out.ret (AV.p (PV.sc (Value.bool Bool.false))) [])))
   (.test (IntKind.i64.wrap a == IntKind.i64.wrap b)
    (.out (Out.ret (AV.p (PV.sc (Value.bool Bool.false))) []))
    (.call ⟨9, [], [], AV.p (PV.sc (Value.bool Bool.true)), []⟩
     (.out (Out.ret (AV.p (PV.sc (Value.bool Bool.true))) [])))))
theorem lawEq_tree (a : Int) (b : Int) : growF Try.prog noGlob lawEqOrc 1000000 3 ([AV.p (PV.sc (Value.int IntKind.i64 70)), AV.p (PV.sc (Value.int IntKind.u32 a)), AV.p (PV.sc (Value.int IntKind.u32 b))]) [] lawEqSc = lawEqTree a b := by kernel_rfl

/- lawNe: 702 steps -/
def lawNeOrc : Orc := orc numCall [] [(17, 0, 0), (20, 0, 0)] []
def lawNeSc : Sc := .fin
def lawNeTree (a : Int) (b : Int) : Tree :=
  (.test (a != b)
   (.test (IntKind.i64.wrap a != IntKind.i64.wrap b)
    (.call ⟨9, [], [], AV.p (PV.sc (Value.bool Bool.true)), []⟩
     (.out (Out.ret (AV.p (PV.sc (Value.bool Bool.true))) [])))
    (.out (Out.ret (AV.p (PV.sc (Value.bool Bool.false))) [])))
   (.test (IntKind.i64.wrap a != IntKind.i64.wrap b)
    (.out (Out.ret (AV.p (PV.sc (Value.bool Bool.false))) []))
    (.call ⟨9, [], [], AV.p (PV.sc (Value.bool Bool.true)), []⟩
     (.out (Out.ret (AV.p (PV.sc (Value.bool Bool.true))) [])))))
theorem lawNe_tree (a : Int) (b : Int) : growF Try.prog noGlob lawNeOrc 1000000 3 ([AV.p (PV.sc (Value.int IntKind.i64 71)), AV.p (PV.sc (Value.int IntKind.u32 a)), AV.p (PV.sc (Value.int IntKind.u32 b))]) [] lawNeSc = lawNeTree a b := by kernel_rfl

/- lawLtS: 1578 steps -/
def lawLtSOrc : Orc := orc numCall [] [(17, 0, 0), (14, 0, 0), (20, 0, 0)] []
def lawLtSSc : Sc := .fin
def lawLtSTree (a : Int) (b : Int) : Tree :=
  (.test (Decidable.decide (IntKind.i32.wrap a < IntKind.i32.wrap b))
   (.test (Decidable.decide (IntKind.i64.wrap a ≥ 2147483648))
    (.test (Decidable.decide (IntKind.i64.wrap b ≥ 2147483648))
     (.test (Decidable.decide (IntKind.i64.wrap (IntKind.i64.wrap a - 4294967296) < IntKind.i64.wrap (IntKind.i64.wrap b - 4294967296)))
      (.call ⟨9, [], [], AV.p (PV.sc (Value.bool Bool.true)), []⟩
       (.out (Out.ret (AV.p (PV.sc (Value.bool Bool.true))) [])))
      (.out (Out.ret (AV.p (PV.sc (Value.bool Bool.false))) [])))
     (.test (Decidable.decide (IntKind.i64.wrap (IntKind.i64.wrap a - 4294967296) < IntKind.i64.wrap b))
      (.call ⟨9, [], [], AV.p (PV.sc (Value.bool Bool.true)), []⟩
       (.out (Out.ret (AV.p (PV.sc (Value.bool Bool.true))) [])))
      (.out (Out.ret (AV.p (PV.sc (Value.bool Bool.false))) []))))
    (.test (Decidable.decide (IntKind.i64.wrap b ≥ 2147483648))
     (.test (Decidable.decide (IntKind.i64.wrap a < IntKind.i64.wrap (IntKind.i64.wrap b - 4294967296)))
      (.call ⟨9, [], [], AV.p (PV.sc (Value.bool Bool.true)), []⟩
       (.out (Out.ret (AV.p (PV.sc (Value.bool Bool.true))) [])))
      (.out (Out.ret (AV.p (PV.sc (Value.bool Bool.false))) [])))
     (.test (Decidable.decide (IntKind.i64.wrap a < IntKind.i64.wrap b))
      (.call ⟨9, [], [], AV.p (PV.sc (Value.bool Bool.true)), []⟩
       (.out (Out.ret (AV.p (PV.sc (Value.bool Bool.true))) [])))
      (.out (Out.ret (AV.p (PV.sc (Value.bool Bool.false))) [])))))
   (.test (Decidable.decide (IntKind.i64.wrap a ≥ 2147483648))
    (.test (Decidable.decide (IntKind.i64.wrap b ≥ 2147483648))
     (.test (Decidable.decide (IntKind.i64.wrap (IntKind.i64.wrap a - 4294967296) < IntKind.i64.wrap (IntKind.i64.wrap b - 4294967296)))
      (.out (Out.ret (AV.p (PV.sc (Value.bool Bool.false))) []))
      (.call ⟨9, [], [], AV.p (PV.sc (Value.bool Bool.true)), []⟩
       (.out (Out.ret (AV.p (PV.sc (Value.bool Bool.true))) []))))
     (.test (Decidable.decide (IntKind.i64.wrap (IntKind.i64.wrap a - 4294967296) < IntKind.i64.wrap b))
      (.out (Out.ret (AV.p (PV.sc (Value.bool Bool.false))) []))
      (.call ⟨9, [], [], AV.p (PV.sc (Value.bool Bool.true)), []⟩
       (.out (Out.ret (AV.p (PV.sc (Value.bool Bool.true))) [])))))
    (.test (Decidable.decide (IntKind.i64.wrap b ≥ 2147483648))
     (.test (Decidable.decide (IntKind.i64.wrap a < IntKind.i64.wrap (IntKind.i64.wrap b - 4294967296)))
      (.out (Out.ret (AV.p (PV.sc (Value.bool Bool.false))) []))
      (.call ⟨9, [], [], AV.p (PV.sc (Value.bool Bool.true)), []⟩
       (.out (Out.ret (AV.p (PV.sc (Value.bool Bool.true))) []))))
     (.test (Decidable.decide (IntKind.i64.wrap a < IntKind.i64.wrap b))
      (.out (Out.ret (AV.p (PV.sc (Value.bool Bool.false))) []))
      (.call ⟨9, [], [], AV.p (PV.sc (Value.bool Bool.true)), []⟩
       (.out (Out.ret (AV.p (PV.sc (Value.bool Bool.true))) [])))))))
theorem lawLtS_tree (a : Int) (b : Int) : growF Try.prog noGlob lawLtSOrc 1000000 3 ([AV.p (PV.sc (Value.int IntKind.i64 72)), AV.p (PV.sc (Value.int IntKind.u32 a)), AV.p (PV.sc (Value.int IntKind.u32 b))]) [] lawLtSSc = lawLtSTree a b := by kernel_rfl

/- lawLtU: 656 steps -/
def lawLtUOrc : Orc := orc numCall [] [(17, 0, 0), (20, 0, 0)] []
def lawLtUSc : Sc := .fin
def lawLtUTree (a : Int) (b : Int) : Tree :=
  (.test (Decidable.decide (a < b))
   (.test (Decidable.decide (IntKind.i64.wrap a < IntKind.i64.wrap b))
    (.call ⟨9, [], [], AV.p (PV.sc (Value.bool Bool.true)), []⟩
     (.out (Out.ret (AV.p (PV.sc (Value.bool Bool.true))) [])))
    (.out (Out.ret (AV.p (PV.sc (Value.bool Bool.false))) [])))
   (.test (Decidable.decide (IntKind.i64.wrap a < IntKind.i64.wrap b))
    (.out (Out.ret (AV.p (PV.sc (Value.bool Bool.false))) []))
    (.call ⟨9, [], [], AV.p (PV.sc (Value.bool Bool.true)), []⟩
     (.out (Out.ret (AV.p (PV.sc (Value.bool Bool.true))) [])))))
theorem lawLtU_tree (a : Int) (b : Int) : growF Try.prog noGlob lawLtUOrc 1000000 3 ([AV.p (PV.sc (Value.int IntKind.i64 73)), AV.p (PV.sc (Value.int IntKind.u32 a)), AV.p (PV.sc (Value.int IntKind.u32 b))]) [] lawLtUSc = lawLtUTree a b := by kernel_rfl

/- lawGtS: 1692 steps -/
def lawGtSOrc : Orc := orc numCall [] [(17, 0, 0), (14, 0, 0), (20, 0, 0)] []
def lawGtSSc : Sc := .fin
def lawGtSTree (a : Int) (b : Int) : Tree :=
  (.test (Decidable.decide (IntKind.i32.wrap a > IntKind.i32.wrap b))
   (.test (Decidable.decide (IntKind.i64.wrap a ≥ 2147483648))
    (.test (Decidable.decide (IntKind.i64.wrap b ≥ 2147483648))
     (.test (Decidable.decide (IntKind.i64.wrap (IntKind.i64.wrap a - 4294967296) > IntKind.i64.wrap (IntKind.i64.wrap b - 4294967296)))
      (.call ⟨9, [], [], AV.p (PV.sc (Value.bool Bool.true)), []⟩
       (.out (Out.ret (AV.p (PV.sc (Value.bool Bool.true))) [])))
      (.out (Out.ret (AV.p (PV.sc (Value.bool Bool.false))) [])))
     (.test (Decidable.decide (IntKind.i64.wrap (IntKind.i64.wrap a - 4294967296) > IntKind.i64.wrap b))
      (.call ⟨9, [], [], AV.p (PV.sc (Value.bool Bool.true)), []⟩
       (.out (Out.ret (AV.p (PV.sc (Value.bool Bool.true))) [])))
      (.out (Out.ret (AV.p (PV.sc (Value.bool Bool.false))) []))))
    (.test (Decidable.decide (IntKind.i64.wrap b ≥ 2147483648))
     (.test (Decidable.decide (IntKind.i64.wrap a > IntKind.i64.wrap (IntKind.i64.wrap b - 4294967296)))
      (.call ⟨9, [], [], AV.p (PV.sc (Value.bool Bool.true)), []⟩
       (.out (Out.ret (AV.p (PV.sc (Value.bool Bool.true))) [])))
      (.out (Out.ret (AV.p (PV.sc (Value.bool Bool.false))) [])))
     (.test (Decidable.decide (IntKind.i64.wrap a > IntKind.i64.wrap b))
      (.call ⟨9, [], [], AV.p (PV.sc (Value.bool Bool.true)), []⟩
       (.out (Out.ret (AV.p (PV.sc (Value.bool Bool.true))) [])))
      (.out (Out.ret (AV.p (PV.sc (Value.bool Bool.false))) [])))))
   (.test (Decidable.decide (IntKind.i64.wrap a ≥ 2147483648))
    (.test (Decidable.decide (IntKind.i64.wrap b ≥ 2147483648))
     (.test (Decidable.decide (IntKind.i64.wrap (IntKind.i64.wrap a - 4294967296) > IntKind.i64.wrap (IntKind.i64.wrap b - 4294967296)))
      (.out (Out.ret (AV.p (PV.sc (Value.bool Bool.false))) []))
      (.call ⟨9, [], [], AV.p (PV.sc (Value.bool Bool.true)), []⟩
       (.out (Out.ret (AV.p (PV.sc (Value.bool Bool.true))) []))))
     (.test (Decidable.decide (IntKind.i64.wrap (IntKind.i64.wrap a - 4294967296) > IntKind.i64.wrap b))
      (.out (Out.ret (AV.p (PV.sc (Value.bool Bool.false))) []))
      (.call ⟨9, [], [], AV.p (PV.sc (Value.bool Bool.true)), []⟩
       (.out (Out.ret (AV.p (PV.sc (Value.bool Bool.true))) [])))))
    (.test (Decidable.decide (IntKind.i64.wrap b ≥ 2147483648))
     (.test (Decidable.decide (IntKind.i64.wrap a > IntKind.i64.wrap (IntKind.i64.wrap b - 4294967296)))
      (.out (Out.ret (AV.p (PV.sc (Value.bool Bool.false))) []))
      (.call ⟨9, [], [], AV.p (PV.sc (Value.bool Bool.true)), []⟩
       (.out (Out.ret (AV.p (PV.sc (Value.bool Bool.true))) []))))
     (.test (Decidable.decide (IntKind.i64.wrap a > IntKind.i64.wrap b))
      (.out (Out.ret (AV.p (PV.sc (Value.bool Bool.false))) []))
      (.call ⟨9, [], [], AV.p (PV.sc (Value.bool Bool.true)), []⟩
       (.out (Out.ret (AV.p (PV.sc (Value.bool Bool.true))) [])))))))
theorem lawGtS_tree (a : Int) (b : Int) : growF Try.prog noGlob lawGtSOrc 1000000 3 ([AV.p (PV.sc (Value.int IntKind.i64 74)), AV.p (PV.sc (Value.int IntKind.u32 a)), AV.p (PV.sc (Value.int IntKind.u32 b))]) [] lawGtSSc = lawGtSTree a b := by kernel_rfl

/- lawGtU: 698 steps -/
def lawGtUOrc : Orc := orc numCall [] [(17, 0, 0), (20, 0, 0)] []
def lawGtUSc : Sc := .fin
def lawGtUTree (a : Int) (b : Int) : Tree :=
  (.test (Decidable.decide (a > b))
   (.test (Decidable.decide (IntKind.i64.wrap a > IntKind.i64.wrap b))
    (.call ⟨9, [], [], AV.p (PV.sc (Value.bool Bool.true)), []⟩
     (.out (Out.ret (AV.p (PV.sc (Value.bool Bool.true))) [])))
    (.out (Out.ret (AV.p (PV.sc (Value.bool Bool.false))) [])))
   (.test (Decidable.decide (IntKind.i64.wrap a > IntKind.i64.wrap b))
    (.out (Out.ret (AV.p (PV.sc (Value.bool Bool.false))) []))
    (.call ⟨9, [], [], AV.p (PV.sc (Value.bool Bool.true)), []⟩
     (.out (Out.ret (AV.p (PV.sc (Value.bool Bool.true))) [])))))
theorem lawGtU_tree (a : Int) (b : Int) : growF Try.prog noGlob lawGtUOrc 1000000 3 ([AV.p (PV.sc (Value.int IntKind.i64 75)), AV.p (PV.sc (Value.int IntKind.u32 a)), AV.p (PV.sc (Value.int IntKind.u32 b))]) [] lawGtUSc = lawGtUTree a b := by kernel_rfl

/- lawLeS: 1806 steps -/
def lawLeSOrc : Orc := orc numCall [] [(17, 0, 0), (14, 0, 0), (20, 0, 0)] []
def lawLeSSc : Sc := .fin
def lawLeSTree (a : Int) (b : Int) : Tree :=
  (.test (Decidable.decide (IntKind.i32.wrap a ≤ IntKind.i32.wrap b))
   (.test (Decidable.decide (IntKind.i64.wrap a ≥ 2147483648))
    (.test (Decidable.decide (IntKind.i64.wrap b ≥ 2147483648))
     (.test (Decidable.decide (IntKind.i64.wrap (IntKind.i64.wrap a - 4294967296) ≤ IntKind.i64.wrap (IntKind.i64.wrap b - 4294967296)))
      (.call ⟨9, [], [], AV.p (PV.sc (Value.bool Bool.true)), []⟩
       (.out (Out.ret (AV.p (PV.sc (Value.bool Bool.true))) [])))
      (.out (Out.ret (AV.p (PV.sc (Value.bool Bool.false))) [])))
     (.test (Decidable.decide (IntKind.i64.wrap (IntKind.i64.wrap a - 4294967296) ≤ IntKind.i64.wrap b))
      (.call ⟨9, [], [], AV.p (PV.sc (Value.bool Bool.true)), []⟩
       (.out (Out.ret (AV.p (PV.sc (Value.bool Bool.true))) [])))
      (.out (Out.ret (AV.p (PV.sc (Value.bool Bool.false))) []))))
    (.test (Decidable.decide (IntKind.i64.wrap b ≥ 2147483648))
     (.test (Decidable.decide (IntKind.i64.wrap a ≤ IntKind.i64.wrap (IntKind.i64.wrap b - 4294967296)))
      (.call ⟨9, [], [], AV.p (PV.sc (Value.bool Bool.true)), []⟩
       (.out (Out.ret (AV.p (PV.sc (Value.bool Bool.true))) [])))
      (.out (Out.ret (AV.p (PV.sc (Value.bool Bool.false))) [])))
     (.test (Decidable.decide (IntKind.i64.wrap a ≤ IntKind.i64.wrap b))
      (.call ⟨9, [], [], AV.p (PV.sc (Value.bool Bool.true)), []⟩
       (.out (Out.ret (AV.p (PV.sc (Value.bool Bool.true))) [])))
      (.out (Out.ret (AV.p (PV.sc (Value.bool Bool.false))) [])))))
   (.test (Decidable.decide (IntKind.i64.wrap a ≥ 2147483648))
    (.test (Decidable.decide (IntKind.i64.wrap b ≥ 2147483648))
     (.test (Decidable.decide (IntKind.i64.wrap (IntKind.i64.wrap a - 4294967296) ≤ IntKind.i64.wrap (IntKind.i64.wrap b - 4294967296)))
      (.out (Out.ret (AV.p (PV.sc (Value.bool Bool.false))) []))
      (.call ⟨9, [], [], AV.p (PV.sc (Value.bool Bool.true)), []⟩
       (.out (Out.ret (AV.p (PV.sc (Value.bool Bool.true))) []))))
     (.test (Decidable.decide (IntKind.i64.wrap (IntKind.i64.wrap a - 4294967296) ≤ IntKind.i64.wrap b))
      (.out (Out.ret (AV.p (PV.sc (Value.bool Bool.false))) []))
      (.call ⟨9, [], [], AV.p (PV.sc (Value.bool Bool.true)), []⟩
       (.out (Out.ret (AV.p (PV.sc (Value.bool Bool.true))) [])))))
    (.test (Decidable.decide (IntKind.i64.wrap b ≥ 2147483648))
     (.test (Decidable.decide (IntKind.i64.wrap a ≤ IntKind.i64.wrap (IntKind.i64.wrap b - 4294967296)))
      (.out (Out.ret (AV.p (PV.sc (Value.bool Bool.false))) []))
      (.call ⟨9, [], [], AV.p (PV.sc (Value.bool Bool.true)), []⟩
       (.out (Out.ret (AV.p (PV.sc (Value.bool Bool.true))) []))))
     (.test (Decidable.decide (IntKind.i64.wrap a ≤ IntKind.i64.wrap b))
      (.out (Out.ret (AV.p (PV.sc (Value.bool Bool.false))) []))
      (.call ⟨9, [], [], AV.p (PV.sc (Value.bool Bool.true)), []⟩
       (.out (Out.ret (AV.p (PV.sc (Value.bool Bool.true))) [])))))))
theorem lawLeS_tree (a : Int) (b : Int) : growF Try.prog noGlob lawLeSOrc 1000000 3 ([AV.p (PV.sc (Value.int IntKind.i64 76)), AV.p (PV.sc (Value.int IntKind.u32 a)), AV.p (PV.sc (Value.int IntKind.u32 b))]) [] lawLeSSc = lawLeSTree a b := by kernel_rfl

/- lawLeU: 740 steps -/
def lawLeUOrc : Orc := orc numCall [] [(17, 0, 0), (20, 0, 0)] []
def lawLeUSc : Sc := .fin
def lawLeUTree (a : Int) (b : Int) : Tree :=
  (.test (Decidable.decide (a ≤ b))
   (.test (Decidable.decide (IntKind.i64.wrap a ≤ IntKind.i64.wrap b))
    (.call ⟨9, [], [], AV.p (PV.sc (Value.bool Bool.true)), []⟩
     (.out (Out.ret (AV.p (PV.sc (Value.bool Bool.true))) [])))
    (.out (Out.ret (AV.p (PV.sc (Value.bool Bool.false))) [])))
   (.test (Decidable.decide (IntKind.i64.wrap a ≤ IntKind.i64.wrap b))
    (.out (Out.ret (AV.p (PV.sc (Value.bool Bool.false))) []))
    (.call ⟨9, [], [], AV.p (PV.sc (Value.bool Bool.true)), []⟩
     (.out (Out.ret (AV.p (PV.sc (Value.bool Bool.true))) [])))))
theorem lawLeU_tree (a : Int) (b : Int) : growF Try.prog noGlob lawLeUOrc 1000000 3 ([AV.p (PV.sc (Value.int IntKind.i64 77)), AV.p (PV.sc (Value.int IntKind.u32 a)), AV.p (PV.sc (Value.int IntKind.u32 b))]) [] lawLeUSc = lawLeUTree a b := by kernel_rfl

/- lawGeS: 1914 steps -/
def lawGeSOrc : Orc := orc numCall [] [(17, 0, 0), (14, 0, 0), (20, 0, 0)] []
def lawGeSSc : Sc := .fin
def lawGeSTree (a : Int) (b : Int) : Tree :=
  (.test (Decidable.decide (IntKind.i32.wrap a ≥ IntKind.i32.wrap b))
   (.test (Decidable.decide (IntKind.i64.wrap a ≥ 2147483648))
    (.test (Decidable.decide (IntKind.i64.wrap b ≥ 2147483648))
     (.test (Decidable.decide (IntKind.i64.wrap (IntKind.i64.wrap a - 4294967296) ≥ IntKind.i64.wrap (IntKind.i64.wrap b - 4294967296)))
      (.call ⟨9, [], [], AV.p (PV.sc (Value.bool Bool.true)), []⟩
       (.out (Out.ret (AV.p (PV.sc (Value.bool Bool.true))) [])))
      (.out (Out.ret (AV.p (PV.sc (Value.bool Bool.false))) [])))
     (.test (Decidable.decide (IntKind.i64.wrap (IntKind.i64.wrap a - 4294967296) ≥ IntKind.i64.wrap b))
      (.call ⟨9, [], [], AV.p (PV.sc (Value.bool Bool.true)), []⟩
       (.out (Out.ret (AV.p (PV.sc (Value.bool Bool.true))) [])))
      (.out (Out.ret (AV.p (PV.sc (Value.bool Bool.false))) []))))
    (.test (Decidable.decide (IntKind.i64.wrap b ≥ 2147483648))
     (.test (Decidable.decide (IntKind.i64.wrap a ≥ IntKind.i64.wrap (IntKind.i64.wrap b - 4294967296)))
      (.call ⟨9, [], [], AV.p (PV.sc (Value.bool Bool.true)), []⟩
       (.out (Out.ret (AV.p (PV.sc (Value.bool Bool.true))) [])))
      (.out (Out.ret (AV.p (PV.sc (Value.bool Bool.false))) [])))
     (.test (Decidable.decide (IntKind.i64.wrap a ≥ IntKind.i64.wrap b))
      (.call ⟨9, [], [], AV.p (PV.sc (Value.bool Bool.true)), []⟩
       (.out (Out.ret (AV.p (PV.sc (Value.bool Bool.true))) [])))
      (.out (Out.ret (AV.p (PV.sc (Value.bool Bool.false))) [])))))
   (.test (Decidable.decide (IntKind.i64.wrap a ≥ 2147483648))
    (.test (Decidable.decide (IntKind.i64.wrap b ≥ 2147483648))
     (.test (Decidable.decide (IntKind.i64.wrap (IntKind.i64.wrap a - 4294967296) ≥ IntKind.i64.wrap (IntKind.i64.wrap b - 4294967296)))
      (.out (Out.ret (AV.p (PV.sc (Value.bool Bool.false))) []))
      (.call ⟨9, [], [], AV.p (PV.sc (Value.bool Bool.true)), []⟩
       (.out (Out.ret (AV.p (PV.sc (Value.bool Bool.true))) []))))
     (.test (Decidable.decide (IntKind.i64.wrap (IntKind.i64.wrap a - 4294967296) ≥ IntKind.i64.wrap b))
      (.out (Out.ret (AV.p (PV.sc (Value.bool Bool.false))) []))
      (.call ⟨9, [], [], AV.p (PV.sc (Value.bool Bool.true)), []⟩
       (.out (Out.ret (AV.p (PV.sc (Value.bool Bool.true))) [])))))
    (.test (Decidable.decide (IntKind.i64.wrap b ≥ 2147483648))
     (.test (Decidable.decide (IntKind.i64.wrap a ≥ IntKind.i64.wrap (IntKind.i64.wrap b - 4294967296)))
      (.out (Out.ret (AV.p (PV.sc (Value.bool Bool.false))) []))
      (.call ⟨9, [], [], AV.p (PV.sc (Value.bool Bool.true)), []⟩
       (.out (Out.ret (AV.p (PV.sc (Value.bool Bool.true))) []))))
     (.test (Decidable.decide (IntKind.i64.wrap a ≥ IntKind.i64.wrap b))
      (.out (Out.ret (AV.p (PV.sc (Value.bool Bool.false))) []))
      (.call ⟨9, [], [], AV.p (PV.sc (Value.bool Bool.true)), []⟩
       (.out (Out.ret (AV.p (PV.sc (Value.bool Bool.true))) [])))))))
theorem lawGeS_tree (a : Int) (b : Int) : growF Try.prog noGlob lawGeSOrc 1000000 3 ([AV.p (PV.sc (Value.int IntKind.i64 78)), AV.p (PV.sc (Value.int IntKind.u32 a)), AV.p (PV.sc (Value.int IntKind.u32 b))]) [] lawGeSSc = lawGeSTree a b := by kernel_rfl

/- lawGeU: 776 steps -/
def lawGeUOrc : Orc := orc numCall [] [(17, 0, 0), (20, 0, 0)] []
def lawGeUSc : Sc := .fin
def lawGeUTree (a : Int) (b : Int) : Tree :=
  (.test (Decidable.decide (a ≥ b))
   (.test (Decidable.decide (IntKind.i64.wrap a ≥ IntKind.i64.wrap b))
    (.call ⟨9, [], [], AV.p (PV.sc (Value.bool Bool.true)), []⟩
     (.out (Out.ret (AV.p (PV.sc (Value.bool Bool.true))) [])))
    (.out (Out.ret (AV.p (PV.sc (Value.bool Bool.false))) [])))
   (.test (Decidable.decide (IntKind.i64.wrap a ≥ IntKind.i64.wrap b))
    (.out (Out.ret (AV.p (PV.sc (Value.bool Bool.false))) []))
    (.call ⟨9, [], [], AV.p (PV.sc (Value.bool Bool.true)), []⟩
     (.out (Out.ret (AV.p (PV.sc (Value.bool Bool.true))) [])))))
theorem lawGeU_tree (a : Int) (b : Int) : growF Try.prog noGlob lawGeUOrc 1000000 3 ([AV.p (PV.sc (Value.int IntKind.i64 79)), AV.p (PV.sc (Value.int IntKind.u32 a)), AV.p (PV.sc (Value.int IntKind.u32 b))]) [] lawGeUSc = lawGeUTree a b := by kernel_rfl

/- lawAdd: 473 steps -/
def lawAddOrc : Orc := orc numCall [] [(22, 0, 0), (3, 4, 4)] []
def lawAddSc : Sc := .fin
def lawAddTree (a : Int) (b : Int) : Tree :=
  (.test (Decidable.decide ((IntKind.i64.wrap (IntKind.i64.wrap a + IntKind.i64.wrap b)).tmod 4294967296 < 0))
   (.test (IntKind.u32.wrap (a + b) == IntKind.u32.wrap (IntKind.i64.wrap ((IntKind.i64.wrap (IntKind.i64.wrap a + IntKind.i64.wrap b)).tmod 4294967296 + 4294967296)))
    (.call ⟨9, [], [], AV.p (PV.sc (Value.bool Bool.true)), []⟩
     (.out (Out.ret (AV.p (PV.sc (Value.bool Bool.true))) [])))
    (.out (Out.ret (AV.p (PV.sc (Value.bool Bool.false))) [])))
   (.test (IntKind.u32.wrap (a + b) == IntKind.u32.wrap ((IntKind.i64.wrap (IntKind.i64.wrap a + IntKind.i64.wrap b)).tmod 4294967296))
    (.call ⟨9, [], [], AV.p (PV.sc (Value.bool Bool.true)), []⟩
     (.out (Out.ret (AV.p (PV.sc (Value.bool Bool.true))) [])))
    (.out (Out.ret (AV.p (PV.sc (Value.bool Bool.false))) []))))
theorem lawAdd_tree (a : Int) (b : Int) : growF Try.prog noGlob lawAddOrc 1000000 3 ([AV.p (PV.sc (Value.int IntKind.i64 106)), AV.p (PV.sc (Value.int IntKind.u32 a)), AV.p (PV.sc (Value.int IntKind.u32 b))]) [] lawAddSc = lawAddTree a b := by kernel_rfl

/- lawSub: 485 steps -/
def lawSubOrc : Orc := orc numCall [] [(22, 0, 0), (3, 4, 4)] []
def lawSubSc : Sc := .fin
def lawSubTree (a : Int) (b : Int) : Tree :=
  (.test (Decidable.decide ((IntKind.i64.wrap (IntKind.i64.wrap a - IntKind.i64.wrap b)).tmod 4294967296 < 0))
   (.test (IntKind.u32.wrap (a - b) == IntKind.u32.wrap (IntKind.i64.wrap ((IntKind.i64.wrap (IntKind.i64.wrap a - IntKind.i64.wrap b)).tmod 4294967296 + 4294967296)))
    (.call ⟨9, [], [], AV.p (PV.sc (Value.bool Bool.true)), []⟩
     (.out (Out.ret (AV.p (PV.sc (Value.bool Bool.true))) [])))
    (.out (Out.ret (AV.p (PV.sc (Value.bool Bool.false))) [])))
   (.test (IntKind.u32.wrap (a - b) == IntKind.u32.wrap ((IntKind.i64.wrap (IntKind.i64.wrap a - IntKind.i64.wrap b)).tmod 4294967296))
    (.call ⟨9, [], [], AV.p (PV.sc (Value.bool Bool.true)), []⟩
     (.out (Out.ret (AV.p (PV.sc (Value.bool Bool.true))) [])))
    (.out (Out.ret (AV.p (PV.sc (Value.bool Bool.false))) []))))
theorem lawSub_tree (a : Int) (b : Int) : growF Try.prog noGlob lawSubOrc 1000000 3 ([AV.p (PV.sc (Value.int IntKind.i64 107)), AV.p (PV.sc (Value.int IntKind.u32 a)), AV.p (PV.sc (Value.int IntKind.u32 b))]) [] lawSubSc = lawSubTree a b := by kernel_rfl

/- lawMul: 997 steps -/
def lawMulOrc : Orc := orc numCall [] [(14, 0, 0), (22, 0, 0), (3, 4, 4)] []
def lawMulSc : Sc := .fin
def lawMulTree (a : Int) (b : Int) : Tree :=
  (.test (Decidable.decide (IntKind.i64.wrap a ≥ 2147483648))
   (.test (Decidable.decide (IntKind.i64.wrap b ≥ 2147483648))
    (.test (Decidable.decide ((IntKind.i64.wrap (IntKind.i64.wrap (IntKind.i64.wrap a - 4294967296) * IntKind.i64.wrap (IntKind.i64.wrap b - 4294967296))).tmod 4294967296 < 0))
     (.test (IntKind.u32.wrap (a * b) == IntKind.u32.wrap (IntKind.i64.wrap ((IntKind.i64.wrap (IntKind.i64.wrap (IntKind.i64.wrap a - 4294967296) * IntKind.i64.wrap (IntKind.i64.wrap b - 4294967296))).tmod 4294967296 + 4294967296)))
      (.call ⟨9, [], [], AV.p (PV.sc (Value.bool Bool.true)), []⟩
       (.out (Out.ret (AV.p (PV.sc (Value.bool Bool.true))) [])))
      (.out (Out.ret (AV.p (PV.sc (Value.bool Bool.false))) [])))
     (.test (IntKind.u32.wrap (a * b) == IntKind.u32.wrap ((IntKind.i64.wrap (IntKind.i64.wrap (IntKind.i64.wrap a - 4294967296) * IntKind.i64.wrap (IntKind.i64.wrap b - 4294967296))).tmod 4294967296))
      (.call ⟨9, [], [], AV.p (PV.sc (Value.bool Bool.true)), []⟩
       (.out (Out.ret (AV.p (PV.sc (Value.bool Bool.true))) [])))
      (.out (Out.ret (AV.p (PV.sc (Value.bool Bool.false))) []))))
    (.test (Decidable.decide ((IntKind.i64.wrap (IntKind.i64.wrap (IntKind.i64.wrap a - 4294967296) * IntKind.i64.wrap b)).tmod 4294967296 < 0))
     (.test (IntKind.u32.wrap (a * b) == IntKind.u32.wrap (IntKind.i64.wrap ((IntKind.i64.wrap (IntKind.i64.wrap (IntKind.i64.wrap a - 4294967296) * IntKind.i64.wrap b)).tmod 4294967296 + 4294967296)))
      (.call ⟨9, [], [], AV.p (PV.sc (Value.bool Bool.true)), []⟩
       (.out (Out.ret (AV.p (PV.sc (Value.bool Bool.true))) [])))
      (.out (Out.ret (AV.p (PV.sc (Value.bool Bool.false))) [])))
     (.test (IntKind.u32.wrap (a * b) == IntKind.u32.wrap ((IntKind.i64.wrap (IntKind.i64.wrap (IntKind.i64.wrap a - 4294967296) * IntKind.i64.wrap b)).tmod 4294967296))
      (.call ⟨9, [], [], AV.p (PV.sc (Value.bool Bool.true)), []⟩
       (.out (Out.ret (AV.p (PV.sc (Value.bool Bool.true))) [])))
      (.out (Out.ret (AV.p (PV.sc (Value.bool Bool.false))) [])))))
   (.test (Decidable.decide (IntKind.i64.wrap b ≥ 2147483648))
    (.test (Decidable.decide ((IntKind.i64.wrap (IntKind.i64.wrap a * IntKind.i64.wrap (IntKind.i64.wrap b - 4294967296))).tmod 4294967296 < 0))
     (.test (IntKind.u32.wrap (a * b) == IntKind.u32.wrap (IntKind.i64.wrap ((IntKind.i64.wrap (IntKind.i64.wrap a * IntKind.i64.wrap (IntKind.i64.wrap b - 4294967296))).tmod 4294967296 + 4294967296)))
      (.call ⟨9, [], [], AV.p (PV.sc (Value.bool Bool.true)), []⟩
       (.out (Out.ret (AV.p (PV.sc (Value.bool Bool.true))) [])))
      (.out (Out.ret (AV.p (PV.sc (Value.bool Bool.false))) [])))
     (.test (IntKind.u32.wrap (a * b) == IntKind.u32.wrap ((IntKind.i64.wrap (IntKind.i64.wrap a * IntKind.i64.wrap (IntKind.i64.wrap b - 4294967296))).tmod 4294967296))
      (.call ⟨9, [], [], AV.p (PV.sc (Value.bool Bool.true)), []⟩
       (.out (Out.ret (AV.p (PV.sc (Value.bool Bool.true))) [])))
      (.out (Out.ret (AV.p (PV.sc (Value.bool Bool.false))) []))))
    (.test (Decidable.decide ((IntKind.i64.wrap (IntKind.i64.wrap a * IntKind.i64.wrap b)).tmod 4294967296 < 0))
     (.test (IntKind.u32.wrap (a * b) == IntKind.u32.wrap (IntKind.i64.wrap ((IntKind.i64.wrap (IntKind.i64.wrap a * IntKind.i64.wrap b)).tmod 4294967296 + 4294967296)))
      (.call ⟨9, [], [], AV.p (PV.sc (Value.bool Bool.true)), []⟩
       (.out (Out.ret (AV.p (PV.sc (Value.bool Bool.true))) [])))
      (.out (Out.ret (AV.p (PV.sc (Value.bool Bool.false))) [])))
     (.test (IntKind.u32.wrap (a * b) == IntKind.u32.wrap ((IntKind.i64.wrap (IntKind.i64.wrap a * IntKind.i64.wrap b)).tmod 4294967296))
      (.call ⟨9, [], [], AV.p (PV.sc (Value.bool Bool.true)), []⟩
       (.out (Out.ret (AV.p (PV.sc (Value.bool Bool.true))) [])))
      (.out (Out.ret (AV.p (PV.sc (Value.bool Bool.false))) []))))))
theorem lawMul_tree (a : Int) (b : Int) : growF Try.prog noGlob lawMulOrc 1000000 3 ([AV.p (PV.sc (Value.int IntKind.i64 108)), AV.p (PV.sc (Value.int IntKind.u32 a)), AV.p (PV.sc (Value.int IntKind.u32 b))]) [] lawMulSc = lawMulTree a b := by kernel_rfl

/- lawLow: 172 steps -/
def lawLowOrc : Orc := orc numCall [] [(15, 2, 3), (19, 2, 3), (19, 2, 6), (19, 4, 3), (19, 4, 10)] []
def lawLowSc : Sc := (.yes (.no (.no (.no (.no .fin)))))
def lawLowTree (op : Int) (_ : Int) (_ : Int) : Tree :=
  (.must (Decidable.decide (op < 0))
   (.must (!(op == 69))
    (.must (!(Decidable.decide (op ≥ 103)))
     (.must (!(Decidable.decide (op ≥ 70)))
      (.must (!(Decidable.decide (op ≥ 106)))
       (.call ⟨9, [], [], AV.p (PV.sc (Value.bool Bool.true)), []⟩
        (.out (Out.ret (AV.p (PV.sc (Value.bool Bool.true))) []))))))))
theorem lawLow_tree (op : Int) (a : Int) (b : Int) : growF Try.prog noGlob lawLowOrc 1000000 3 ([AV.p (PV.sc (Value.int IntKind.i64 op)), AV.p (PV.sc (Value.int IntKind.u32 a)), AV.p (PV.sc (Value.int IntKind.u32 b))]) [] lawLowSc = lawLowTree op a b := by kernel_rfl

/- lawHigh: 172 steps -/
def lawHighOrc : Orc := orc numCall [] [(15, 2, 3), (15, 0, 0), (19, 2, 3), (19, 2, 6), (19, 0, 0), (19, 4, 3), (19, 4, 7), (19, 4, 10), (19, 0, 1)] []
def lawHighSc : Sc := (.no (.yes (.no (.yes (.no (.yes (.no (.yes (.no .fin)))))))))
def lawHighTree (op : Int) (_ : Int) (_ : Int) : Tree :=
  (.must (!(Decidable.decide (op < 0)))
   (.must (Decidable.decide (op > 120))
    (.must (!(op == 69))
     (.must (Decidable.decide (op ≥ 103))
      (.must (!(Decidable.decide (op ≤ 105)))
       (.must (Decidable.decide (op ≥ 70))
        (.must (!(Decidable.decide (op ≤ 79)))
         (.must (Decidable.decide (op ≥ 106))
          (.must (!(Decidable.decide (op ≤ 120)))
           (.call ⟨9, [], [], AV.p (PV.sc (Value.bool Bool.true)), []⟩
            (.out (Out.ret (AV.p (PV.sc (Value.bool Bool.true))) []))))))))))))
theorem lawHigh_tree (op : Int) (a : Int) (b : Int) : growF Try.prog noGlob lawHighOrc 1000000 3 ([AV.p (PV.sc (Value.int IntKind.i64 op)), AV.p (PV.sc (Value.int IntKind.u32 a)), AV.p (PV.sc (Value.int IntKind.u32 b))]) [] lawHighSc = lawHighTree op a b := by kernel_rfl

/- lawBad: 187 steps -/
def lawBadOrc : Orc := orc numCall [] [] []
def lawBadSc : Sc := .fin
def lawBadTree (_ : Int) (_ : Int) : Tree :=
  (.call ⟨9, [], [], AV.p (PV.sc (Value.bool Bool.true)), []⟩
   (.out (Out.ret (AV.p (PV.sc (Value.bool Bool.true))) [])))
theorem lawBad_tree (a : Int) (b : Int) : growF Try.prog noGlob lawBadOrc 1000000 3 ([AV.p (PV.sc (Value.int IntKind.i64 5)), AV.p (PV.sc (Value.int IntKind.u32 a)), AV.p (PV.sc (Value.int IntKind.u32 b))]) [] lawBadSc = lawBadTree a b := by kernel_rfl


end Go.Proofs.Ythllpmannpolcaa.N
