/-
  NumTwos: what 'two' makes of two numbers by divisions and by bits, on both sides.
-/
import Derived.Test.YthllpmannpolcaaNumBits
namespace Go.Proofs.Ythllpmannpolcaa.N
open Go Go.Am

def bitCall (f : FuncId) (args : List AV) (_ : Mem) : Option (AV × Mem) := if f = 9 then some (sB true, []) else if f = 24 then (match args with
  | [.p (.sc (.int _ op)), .p (.sc (.int _ a)), .p (.sc (.int _ b)), .p (.sc (.int _ i))] => some (.p (.sc (.int .i64 (bitsN op a b i))), [])
  | _ => none) else none
def divE (op a b : Int) : Int := if b = 0 then 130 else if op = 109 ∧ a = -2147483648 ∧ b = -1 then 131 else 0
def divW (op a b : Int) : Int := if b = 0 then 0 else if op = 109 ∧ a = -2147483648 ∧ b = -1 then 0 else if op = 109 ∨ op = 110 then IntKind.u32.wrap (a.tdiv b) else IntKind.u32.wrap (a.tmod b)
def pairI (w e : Int) : AV := .tup [.p (.sc (.int .u32 w)), .p (.sc (.int .i64 e))]
def divCall (f : FuncId) (args : List AV) (_ : Mem) : Option (AV × Mem) := if f = 14 then (match args with
  | [.p (.sc (.int _ a))] => some (.p (.sc (.int .i64 (IntKind.i32.wrap a))), [])
  | _ => none) else if f = 23 then (match args with
  | [.p (.sc (.int _ op)), .p (.sc (.int _ a)), .p (.sc (.int _ b))] => some (pairI (divW op a b) (divE op a b), [])
  | _ => none) else none

/- refSigned: 33 steps -/
def refSignedOrc : Orc := orc numCall [] [(14, 0, 0)] []
def refSignedSc : Sc := .fin
def refSignedTree (a : Int) : Tree :=
  (.test (Decidable.decide (IntKind.i64.wrap a ≥ 2147483648))
   (.out (Out.ret (AV.p (PV.sc (Value.int IntKind.i64 (IntKind.i64.wrap (IntKind.i64.wrap a - 4294967296))))) []))
   (.out (Out.ret (AV.p (PV.sc (Value.int IntKind.i64 (IntKind.i64.wrap a)))) [])))
theorem refSigned_tree (a : Int) : growF Try.prog noGlob refSignedOrc 1000000 14 ([AV.p (PV.sc (Value.int IntKind.u32 a))]) [] refSignedSc = refSignedTree a := by kernel_rfl

/- quDivS: 190 steps -/
def quDivSOrc : Orc := orc numCall [] [(23, 0, 0), (23, 4, 7), (23, 0, 1), (22, 0, 0)] [(23, 7, 2)]
def quDivSSc : Sc := (.fork .fin (.fork .fin (.lit .fin)))
def quDivSTree (a : Int) (b : Int) : Tree :=
  (.test (b == 0)
   (.out (Out.ret (AV.tup [AV.p (PV.sc (Value.int IntKind.u32 0)), AV.p (PV.sc (Value.int IntKind.i64 130))]) []))
   (.test (a == -2147483648)
    (.test (b == -1)
     (.out (Out.ret (AV.tup [AV.p (PV.sc (Value.int IntKind.u32 0)), AV.p (PV.sc (Value.int IntKind.i64 131))]) []))
     (.must (Bool.true && !b == 0 && Bool.true)
      (.test (Decidable.decide ((IntKind.i64.wrap (a.tdiv b)).tmod 4294967296 < 0))
       (.out (Out.ret (AV.tup [AV.p (PV.sc (Value.int IntKind.u32 (IntKind.u32.wrap (IntKind.i64.wrap ((IntKind.i64.wrap (a.tdiv b)).tmod 4294967296 + 4294967296))))), AV.p (PV.sc (Value.int IntKind.i64 0))]) []))
       (.out (Out.ret (AV.tup [AV.p (PV.sc (Value.int IntKind.u32 (IntKind.u32.wrap ((IntKind.i64.wrap (a.tdiv b)).tmod 4294967296)))), AV.p (PV.sc (Value.int IntKind.i64 0))]) [])))))
    (.must (Bool.true && !b == 0 && Bool.true)
     (.test (Decidable.decide ((IntKind.i64.wrap (a.tdiv b)).tmod 4294967296 < 0))
      (.out (Out.ret (AV.tup [AV.p (PV.sc (Value.int IntKind.u32 (IntKind.u32.wrap (IntKind.i64.wrap ((IntKind.i64.wrap (a.tdiv b)).tmod 4294967296 + 4294967296))))), AV.p (PV.sc (Value.int IntKind.i64 0))]) []))
      (.out (Out.ret (AV.tup [AV.p (PV.sc (Value.int IntKind.u32 (IntKind.u32.wrap ((IntKind.i64.wrap (a.tdiv b)).tmod 4294967296)))), AV.p (PV.sc (Value.int IntKind.i64 0))]) []))))))
theorem quDivS_tree (a : Int) (b : Int) : growF Try.prog noGlob quDivSOrc 1000000 23 ([AV.p (PV.sc (Value.int IntKind.i64 109)), AV.p (PV.sc (Value.int IntKind.i64 a)), AV.p (PV.sc (Value.int IntKind.i64 b))]) [] quDivSSc = quDivSTree a b := by kernel_rfl

/- quDivU: 108 steps -/
def quDivUOrc : Orc := orc numCall [] [(23, 0, 0), (22, 0, 0)] [(23, 7, 2)]
def quDivUSc : Sc := .fin
def quDivUTree (a : Int) (b : Int) : Tree :=
  (.test (b == 0)
   (.out (Out.ret (AV.tup [AV.p (PV.sc (Value.int IntKind.u32 0)), AV.p (PV.sc (Value.int IntKind.i64 130))]) []))
   (.must (Bool.true && !b == 0 && Bool.true)
    (.test (Decidable.decide ((IntKind.i64.wrap (a.tdiv b)).tmod 4294967296 < 0))
     (.out (Out.ret (AV.tup [AV.p (PV.sc (Value.int IntKind.u32 (IntKind.u32.wrap (IntKind.i64.wrap ((IntKind.i64.wrap (a.tdiv b)).tmod 4294967296 + 4294967296))))), AV.p (PV.sc (Value.int IntKind.i64 0))]) []))
     (.out (Out.ret (AV.tup [AV.p (PV.sc (Value.int IntKind.u32 (IntKind.u32.wrap ((IntKind.i64.wrap (a.tdiv b)).tmod 4294967296)))), AV.p (PV.sc (Value.int IntKind.i64 0))]) [])))))
theorem quDivU_tree (a : Int) (b : Int) : growF Try.prog noGlob quDivUOrc 1000000 23 ([AV.p (PV.sc (Value.int IntKind.i64 110)), AV.p (PV.sc (Value.int IntKind.i64 a)), AV.p (PV.sc (Value.int IntKind.i64 b))]) [] quDivUSc = quDivUTree a b := by kernel_rfl

/- quRemS: 109 steps -/
def quRemSOrc : Orc := orc numCall [] [(23, 0, 0), (22, 0, 0)] [(23, 8, 2)]
def quRemSSc : Sc := .fin
def quRemSTree (a : Int) (b : Int) : Tree :=
  (.test (b == 0)
   (.out (Out.ret (AV.tup [AV.p (PV.sc (Value.int IntKind.u32 0)), AV.p (PV.sc (Value.int IntKind.i64 130))]) []))
   (.must (Bool.true && !b == 0 && Bool.true)
    (.test (Decidable.decide ((a.tmod b).tmod 4294967296 < 0))
     (.out (Out.ret (AV.tup [AV.p (PV.sc (Value.int IntKind.u32 (IntKind.u32.wrap (IntKind.i64.wrap ((a.tmod b).tmod 4294967296 + 4294967296))))), AV.p (PV.sc (Value.int IntKind.i64 0))]) []))
     (.out (Out.ret (AV.tup [AV.p (PV.sc (Value.int IntKind.u32 (IntKind.u32.wrap ((a.tmod b).tmod 4294967296)))), AV.p (PV.sc (Value.int IntKind.i64 0))]) [])))))
theorem quRemS_tree (a : Int) (b : Int) : growF Try.prog noGlob quRemSOrc 1000000 23 ([AV.p (PV.sc (Value.int IntKind.i64 111)), AV.p (PV.sc (Value.int IntKind.i64 a)), AV.p (PV.sc (Value.int IntKind.i64 b))]) [] quRemSSc = quRemSTree a b := by kernel_rfl

/- quRemU: 109 steps -/
def quRemUOrc : Orc := orc numCall [] [(23, 0, 0), (22, 0, 0)] [(23, 8, 2)]
def quRemUSc : Sc := .fin
def quRemUTree (a : Int) (b : Int) : Tree :=
  (.test (b == 0)
   (.out (Out.ret (AV.tup [AV.p (PV.sc (Value.int IntKind.u32 0)), AV.p (PV.sc (Value.int IntKind.i64 130))]) []))
   (.must (Bool.true && !b == 0 && Bool.true)
    (.test (Decidable.decide ((a.tmod b).tmod 4294967296 < 0))
     (.out (Out.ret (AV.tup [AV.p (PV.sc (Value.int IntKind.u32 (IntKind.u32.wrap (IntKind.i64.wrap ((a.tmod b).tmod 4294967296 + 4294967296))))), AV.p (PV.sc (Value.int IntKind.i64 0))]) []))
     (.out (Out.ret (AV.tup [AV.p (PV.sc (Value.int IntKind.u32 (IntKind.u32.wrap ((a.tmod b).tmod 4294967296)))), AV.p (PV.sc (Value.int IntKind.i64 0))]) [])))))
theorem quRemU_tree (a : Int) (b : Int) : growF Try.prog noGlob quRemUOrc 1000000 23 ([AV.p (PV.sc (Value.int IntKind.i64 112)), AV.p (PV.sc (Value.int IntKind.i64 a)), AV.p (PV.sc (Value.int IntKind.i64 b))]) [] quRemUSc = quRemUTree a b := by kernel_rfl

/- refDivS: 181 steps -/
def refDivSOrc : Orc := orc divCall [] [] []
def refDivSSc : Sc := .fin
def refDivSTree (a : Int) (b : Int) : Tree :=
  (.call ⟨14, [AV.p (PV.sc (Value.int IntKind.u32 a))], [], AV.p (PV.sc (Value.int IntKind.i64 (IntKind.i32.wrap a))), []⟩
   (.call ⟨14, [AV.p (PV.sc (Value.int IntKind.u32 b))], [], AV.p (PV.sc (Value.int IntKind.i64 (IntKind.i32.wrap b))), []⟩
    (.call ⟨23, [AV.p (PV.sc (Value.int IntKind.i64 109)), AV.p (PV.sc (Value.int IntKind.i64 (IntKind.i32.wrap a))), AV.p (PV.sc (Value.int IntKind.i64 (IntKind.i32.wrap b)))], [], AV.tup [AV.p (PV.sc (Value.int IntKind.u32 (divW 109 (IntKind.i32.wrap a) (IntKind.i32.wrap b)))), AV.p (PV.sc (Value.int IntKind.i64 (divE 109 (IntKind.i32.wrap a) (IntKind.i32.wrap b))))], []⟩
     (.out (Out.ret (AV.tup [AV.p (PV.sc (Value.int IntKind.u32 (divW 109 (IntKind.i32.wrap a) (IntKind.i32.wrap b)))), AV.p (PV.sc (Value.int IntKind.i64 (divE 109 (IntKind.i32.wrap a) (IntKind.i32.wrap b))))]) [])))))
theorem refDivS_tree (a : Int) (b : Int) : growF Try.prog noGlob refDivSOrc 1000000 8 ([AV.p (PV.sc (Value.int IntKind.i64 109)), AV.p (PV.sc (Value.int IntKind.u32 a)), AV.p (PV.sc (Value.int IntKind.u32 b))]) [] refDivSSc = refDivSTree a b := by kernel_rfl

/- refDivU: 193 steps -/
def refDivUOrc : Orc := orc divCall [] [] []
def refDivUSc : Sc := .fin
def refDivUTree (a : Int) (b : Int) : Tree :=
  (.call ⟨23, [AV.p (PV.sc (Value.int IntKind.i64 110)), AV.p (PV.sc (Value.int IntKind.i64 (IntKind.i64.wrap a))), AV.p (PV.sc (Value.int IntKind.i64 (IntKind.i64.wrap b)))], [], AV.tup [AV.p (PV.sc (Value.int IntKind.u32 (divW 110 (IntKind.i64.wrap a) (IntKind.i64.wrap b)))), AV.p (PV.sc (Value.int IntKind.i64 (divE 110 (IntKind.i64.wrap a) (IntKind.i64.wrap b))))], []⟩
   (.out (Out.ret (AV.tup [AV.p (PV.sc (Value.int IntKind.u32 (divW 110 (IntKind.i64.wrap a) (IntKind.i64.wrap b)))), AV.p (PV.sc (Value.int IntKind.i64 (divE 110 (IntKind.i64.wrap a) (IntKind.i64.wrap b))))]) [])))
theorem refDivU_tree (a : Int) (b : Int) : growF Try.prog noGlob refDivUOrc 1000000 8 ([AV.p (PV.sc (Value.int IntKind.i64 110)), AV.p (PV.sc (Value.int IntKind.u32 a)), AV.p (PV.sc (Value.int IntKind.u32 b))]) [] refDivUSc = refDivUTree a b := by kernel_rfl

/- refRemS: 184 steps -/
def refRemSOrc : Orc := orc divCall [] [] []
def refRemSSc : Sc := .fin
def refRemSTree (a : Int) (b : Int) : Tree :=
  (.call ⟨14, [AV.p (PV.sc (Value.int IntKind.u32 a))], [], AV.p (PV.sc (Value.int IntKind.i64 (IntKind.i32.wrap a))), []⟩
   (.call ⟨14, [AV.p (PV.sc (Value.int IntKind.u32 b))], [], AV.p (PV.sc (Value.int IntKind.i64 (IntKind.i32.wrap b))), []⟩
    (.call ⟨23, [AV.p (PV.sc (Value.int IntKind.i64 111)), AV.p (PV.sc (Value.int IntKind.i64 (IntKind.i32.wrap a))), AV.p (PV.sc (Value.int IntKind.i64 (IntKind.i32.wrap b)))], [], AV.tup [AV.p (PV.sc (Value.int IntKind.u32 (divW 111 (IntKind.i32.wrap a) (IntKind.i32.wrap b)))), AV.p (PV.sc (Value.int IntKind.i64 (divE 111 (IntKind.i32.wrap a) (IntKind.i32.wrap b))))], []⟩
     (.out (Out.ret (AV.tup [AV.p (PV.sc (Value.int IntKind.u32 (divW 111 (IntKind.i32.wrap a) (IntKind.i32.wrap b)))), AV.p (PV.sc (Value.int IntKind.i64 (divE 111 (IntKind.i32.wrap a) (IntKind.i32.wrap b))))]) [])))))
theorem refRemS_tree (a : Int) (b : Int) : growF Try.prog noGlob refRemSOrc 1000000 8 ([AV.p (PV.sc (Value.int IntKind.i64 111)), AV.p (PV.sc (Value.int IntKind.u32 a)), AV.p (PV.sc (Value.int IntKind.u32 b))]) [] refRemSSc = refRemSTree a b := by kernel_rfl

/- refRemU: 196 steps -/
def refRemUOrc : Orc := orc divCall [] [] []
def refRemUSc : Sc := .fin
def refRemUTree (a : Int) (b : Int) : Tree :=
  (.call ⟨23, [AV.p (PV.sc (Value.int IntKind.i64 112)), AV.p (PV.sc (Value.int IntKind.i64 (IntKind.i64.wrap a))), AV.p (PV.sc (Value.int IntKind.i64 (IntKind.i64.wrap b)))], [], AV.tup [AV.p (PV.sc (Value.int IntKind.u32 (divW 112 (IntKind.i64.wrap a) (IntKind.i64.wrap b)))), AV.p (PV.sc (Value.int IntKind.i64 (divE 112 (IntKind.i64.wrap a) (IntKind.i64.wrap b))))], []⟩
   (.out (Out.ret (AV.tup [AV.p (PV.sc (Value.int IntKind.u32 (divW 112 (IntKind.i64.wrap a) (IntKind.i64.wrap b)))), AV.p (PV.sc (Value.int IntKind.i64 (divE 112 (IntKind.i64.wrap a) (IntKind.i64.wrap b))))]) [])))
theorem refRemU_tree (a : Int) (b : Int) : growF Try.prog noGlob refRemUOrc 1000000 8 ([AV.p (PV.sc (Value.int IntKind.i64 112)), AV.p (PV.sc (Value.int IntKind.u32 a)), AV.p (PV.sc (Value.int IntKind.u32 b))]) [] refRemUSc = refRemUTree a b := by kernel_rfl

/- refBits: 1107 steps -/
def refBitsOrc : Orc := orc bitCall [] [(19, 2, 3), (19, 2, 6), (19, 0, 0), (19, 4, 3), (19, 4, 7), (19, 4, 10), (19, 0, 1), (8, 0, 1), (8, 0, 2), (8, 0, 3), (8, 0, 4), (8, 0, 5), (8, 0, 6), (8, 0, 7), (8, 0, 8), (8, 0, 9), (8, 0, 10), (8, 0, 11), (8, 0, 12), (8, 0, 13), (8, 0, 14), (8, 0, 15), (8, 0, 16), (8, 0, 17)] []
def refBitsSc : Sc := (.no (.yes (.no (.yes (.no (.yes (.yes (.no (.no (.no (.no (.no (.no (.no (.no (.no (.no (.no (.no (.no (.no (.no (.no (.no .fin))))))))))))))))))))))))
def refBitsTree (op : Int) (a : Int) (b : Int) : Tree :=
  (.must (!(op == 69))
   (.must (Decidable.decide (op ≥ 103))
    (.must (!(Decidable.decide (op ≤ 105)))
     (.must (Decidable.decide (op ≥ 70))
      (.must (!(Decidable.decide (op ≤ 79)))
       (.must (Decidable.decide (op ≥ 106))
        (.must (Decidable.decide (op ≤ 120))
         (.must (!(op == 70))
          (.must (!(op == 71))
           (.must (!(op == 73))
            (.must (!(op == 75))
             (.must (!(op == 77))
              (.must (!(op == 79))
               (.must (!(op == 72))
                (.must (!(op == 74))
                 (.must (!(op == 76))
                  (.must (!(op == 78))
                   (.must (!(op == 106))
                    (.must (!(op == 107))
                     (.must (!(op == 108))
                      (.must (!(op == 109))
                       (.must (!(op == 111))
                        (.must (!(op == 110))
                         (.must (!(op == 112))
                          (.call ⟨24, [AV.p (PV.sc (Value.int IntKind.i64 op)), AV.p (PV.sc (Value.int IntKind.u32 a)), AV.p (PV.sc (Value.int IntKind.u32 b)), AV.p (PV.sc (Value.int IntKind.i64 31))], [], AV.p (PV.sc (Value.int IntKind.i64 (bitsN op a b 31))), []⟩
                           (.call ⟨24, [AV.p (PV.sc (Value.int IntKind.i64 op)), AV.p (PV.sc (Value.int IntKind.u32 a)), AV.p (PV.sc (Value.int IntKind.u32 b)), AV.p (PV.sc (Value.int IntKind.i64 30))], [], AV.p (PV.sc (Value.int IntKind.i64 (bitsN op a b 30))), []⟩
                            (.call ⟨24, [AV.p (PV.sc (Value.int IntKind.i64 op)), AV.p (PV.sc (Value.int IntKind.u32 a)), AV.p (PV.sc (Value.int IntKind.u32 b)), AV.p (PV.sc (Value.int IntKind.i64 29))], [], AV.p (PV.sc (Value.int IntKind.i64 (bitsN op a b 29))), []⟩
                             (.call ⟨24, [AV.p (PV.sc (Value.int IntKind.i64 op)), AV.p (PV.sc (Value.int IntKind.u32 a)), AV.p (PV.sc (Value.int IntKind.u32 b)), AV.p (PV.sc (Value.int IntKind.i64 28))], [], AV.p (PV.sc (Value.int IntKind.i64 (bitsN op a b 28))), []⟩
                              (.call ⟨24, [AV.p (PV.sc (Value.int IntKind.i64 op)), AV.p (PV.sc (Value.int IntKind.u32 a)), AV.p (PV.sc (Value.int IntKind.u32 b)), AV.p (PV.sc (Value.int IntKind.i64 27))], [], AV.p (PV.sc (Value.int IntKind.i64 (bitsN op a b 27))), []⟩
                               (.call ⟨24, [AV.p (PV.sc (Value.int IntKind.i64 op)), AV.p (PV.sc (Value.int IntKind.u32 a)), AV.p (PV.sc (Value.int IntKind.u32 b)), AV.p (PV.sc (Value.int IntKind.i64 26))], [], AV.p (PV.sc (Value.int IntKind.i64 (bitsN op a b 26))), []⟩
                                (.call ⟨24, [AV.p (PV.sc (Value.int IntKind.i64 op)), AV.p (PV.sc (Value.int IntKind.u32 a)), AV.p (PV.sc (Value.int IntKind.u32 b)), AV.p (PV.sc (Value.int IntKind.i64 25))], [], AV.p (PV.sc (Value.int IntKind.i64 (bitsN op a b 25))), []⟩
                                 (.call ⟨24, [AV.p (PV.sc (Value.int IntKind.i64 op)), AV.p (PV.sc (Value.int IntKind.u32 a)), AV.p (PV.sc (Value.int IntKind.u32 b)), AV.p (PV.sc (Value.int IntKind.i64 24))], [], AV.p (PV.sc (Value.int IntKind.i64 (bitsN op a b 24))), []⟩
                                  (.call ⟨24, [AV.p (PV.sc (Value.int IntKind.i64 op)), AV.p (PV.sc (Value.int IntKind.u32 a)), AV.p (PV.sc (Value.int IntKind.u32 b)), AV.p (PV.sc (Value.int IntKind.i64 23))], [], AV.p (PV.sc (Value.int IntKind.i64 (bitsN op a b 23))), []⟩
                                   (.call ⟨24, [AV.p (PV.sc (Value.int IntKind.i64 op)), AV.p (PV.sc (Value.int IntKind.u32 a)), AV.p (PV.sc (Value.int IntKind.u32 b)), AV.p (PV.sc (Value.int IntKind.i64 22))], [], AV.p (PV.sc (Value.int IntKind.i64 (bitsN op a b 22))), []⟩
                                    (.call ⟨24, [AV.p (PV.sc (Value.int IntKind.i64 op)), AV.p (PV.sc (Value.int IntKind.u32 a)), AV.p (PV.sc (Value.int IntKind.u32 b)), AV.p (PV.sc (Value.int IntKind.i64 21))], [], AV.p (PV.sc (Value.int IntKind.i64 (bitsN op a b 21))), []⟩
                                     (.call ⟨24, [AV.p (PV.sc (Value.int IntKind.i64 op)), AV.p (PV.sc (Value.int IntKind.u32 a)), AV.p (PV.sc (Value.int IntKind.u32 b)), AV.p (PV.sc (Value.int IntKind.i64 20))], [], AV.p (PV.sc (Value.int IntKind.i64 (bitsN op a b 20))), []⟩
                                      (.call ⟨24, [AV.p (PV.sc (Value.int IntKind.i64 op)), AV.p (PV.sc (Value.int IntKind.u32 a)), AV.p (PV.sc (Value.int IntKind.u32 b)), AV.p (PV.sc (Value.int IntKind.i64 19))], [], AV.p (PV.sc (Value.int IntKind.i64 (bitsN op a b 19))), []⟩
                                       (.call ⟨24, [AV.p (PV.sc (Value.int IntKind.i64 op)), AV.p (PV.sc (Value.int IntKind.u32 a)), AV.p (PV.sc (Value.int IntKind.u32 b)), AV.p (PV.sc (Value.int IntKind.i64 18))], [], AV.p (PV.sc (Value.int IntKind.i64 (bitsN op a b 18))), []⟩
                                        (.call ⟨24, [AV.p (PV.sc (Value.int IntKind.i64 op)), AV.p (PV.sc (Value.int IntKind.u32 a)), AV.p (PV.sc (Value.int IntKind.u32 b)), AV.p (PV.sc (Value.int IntKind.i64 17))], [], AV.p (PV.sc (Value.int IntKind.i64 (bitsN op a b 17))), []⟩
                                         (.call ⟨24, [AV.p (PV.sc (Value.int IntKind.i64 op)), AV.p (PV.sc (Value.int IntKind.u32 a)), AV.p (PV.sc (Value.int IntKind.u32 b)), AV.p (PV.sc (Value.int IntKind.i64 16))], [], AV.p (PV.sc (Value.int IntKind.i64 (bitsN op a b 16))), []⟩
                                          (.call ⟨24, [AV.p (PV.sc (Value.int IntKind.i64 op)), AV.p (PV.sc (Value.int IntKind.u32 a)), AV.p (PV.sc (Value.int IntKind.u32 b)), AV.p (PV.sc (Value.int IntKind.i64 15))], [], AV.p (PV.sc (Value.int IntKind.i64 (bitsN op a b 15))), []⟩
                                           (.call ⟨24, [AV.p (PV.sc (Value.int IntKind.i64 op)), AV.p (PV.sc (Value.int IntKind.u32 a)), AV.p (PV.sc (Value.int IntKind.u32 b)), AV.p (PV.sc (Value.int IntKind.i64 14))], [], AV.p (PV.sc (Value.int IntKind.i64 (bitsN op a b 14))), []⟩
                                            (.call ⟨24, [AV.p (PV.sc (Value.int IntKind.i64 op)), AV.p (PV.sc (Value.int IntKind.u32 a)), AV.p (PV.sc (Value.int IntKind.u32 b)), AV.p (PV.sc (Value.int IntKind.i64 13))], [], AV.p (PV.sc (Value.int IntKind.i64 (bitsN op a b 13))), []⟩
                                             (.call ⟨24, [AV.p (PV.sc (Value.int IntKind.i64 op)), AV.p (PV.sc (Value.int IntKind.u32 a)), AV.p (PV.sc (Value.int IntKind.u32 b)), AV.p (PV.sc (Value.int IntKind.i64 12))], [], AV.p (PV.sc (Value.int IntKind.i64 (bitsN op a b 12))), []⟩
                                              (.call ⟨24, [AV.p (PV.sc (Value.int IntKind.i64 op)), AV.p (PV.sc (Value.int IntKind.u32 a)), AV.p (PV.sc (Value.int IntKind.u32 b)), AV.p (PV.sc (Value.int IntKind.i64 11))], [], AV.p (PV.sc (Value.int IntKind.i64 (bitsN op a b 11))), []⟩
                                               (.call ⟨24, [AV.p (PV.sc (Value.int IntKind.i64 op)), AV.p (PV.sc (Value.int IntKind.u32 a)), AV.p (PV.sc (Value.int IntKind.u32 b)), AV.p (PV.sc (Value.int IntKind.i64 10))], [], AV.p (PV.sc (Value.int IntKind.i64 (bitsN op a b 10))), []⟩
                                                (.call ⟨24, [AV.p (PV.sc (Value.int IntKind.i64 op)), AV.p (PV.sc (Value.int IntKind.u32 a)), AV.p (PV.sc (Value.int IntKind.u32 b)), AV.p (PV.sc (Value.int IntKind.i64 9))], [], AV.p (PV.sc (Value.int IntKind.i64 (bitsN op a b 9))), []⟩
                                                 (.call ⟨24, [AV.p (PV.sc (Value.int IntKind.i64 op)), AV.p (PV.sc (Value.int IntKind.u32 a)), AV.p (PV.sc (Value.int IntKind.u32 b)), AV.p (PV.sc (Value.int IntKind.i64 8))], [], AV.p (PV.sc (Value.int IntKind.i64 (bitsN op a b 8))), []⟩
                                                  (.call ⟨24, [AV.p (PV.sc (Value.int IntKind.i64 op)), AV.p (PV.sc (Value.int IntKind.u32 a)), AV.p (PV.sc (Value.int IntKind.u32 b)), AV.p (PV.sc (Value.int IntKind.i64 7))], [], AV.p (PV.sc (Value.int IntKind.i64 (bitsN op a b 7))), []⟩
                                                   (.call ⟨24, [AV.p (PV.sc (Value.int IntKind.i64 op)), AV.p (PV.sc (Value.int IntKind.u32 a)), AV.p (PV.sc (Value.int IntKind.u32 b)), AV.p (PV.sc (Value.int IntKind.i64 6))], [], AV.p (PV.sc (Value.int IntKind.i64 (bitsN op a b 6))), []⟩
                                                    (.call ⟨24, [AV.p (PV.sc (Value.int IntKind.i64 op)), AV.p (PV.sc (Value.int IntKind.u32 a)), AV.p (PV.sc (Value.int IntKind.u32 b)), AV.p (PV.sc (Value.int IntKind.i64 5))], [], AV.p (PV.sc (Value.int IntKind.i64 (bitsN op a b 5))), []⟩
                                                     (.call ⟨24, [AV.p (PV.sc (Value.int IntKind.i64 op)), AV.p (PV.sc (Value.int IntKind.u32 a)), AV.p (PV.sc (Value.int IntKind.u32 b)), AV.p (PV.sc (Value.int IntKind.i64 4))], [], AV.p (PV.sc (Value.int IntKind.i64 (bitsN op a b 4))), []⟩
                                                      (.call ⟨24, [AV.p (PV.sc (Value.int IntKind.i64 op)), AV.p (PV.sc (Value.int IntKind.u32 a)), AV.p (PV.sc (Value.int IntKind.u32 b)), AV.p (PV.sc (Value.int IntKind.i64 3))], [], AV.p (PV.sc (Value.int IntKind.i64 (bitsN op a b 3))), []⟩
                                                       (.call ⟨24, [AV.p (PV.sc (Value.int IntKind.i64 op)), AV.p (PV.sc (Value.int IntKind.u32 a)), AV.p (PV.sc (Value.int IntKind.u32 b)), AV.p (PV.sc (Value.int IntKind.i64 2))], [], AV.p (PV.sc (Value.int IntKind.i64 (bitsN op a b 2))), []⟩
                                                        (.call ⟨24, [AV.p (PV.sc (Value.int IntKind.i64 op)), AV.p (PV.sc (Value.int IntKind.u32 a)), AV.p (PV.sc (Value.int IntKind.u32 b)), AV.p (PV.sc (Value.int IntKind.i64 1))], [], AV.p (PV.sc (Value.int IntKind.i64 (bitsN op a b 1))), []⟩
                                                         (.call ⟨24, [AV.p (PV.sc (Value.int IntKind.i64 op)), AV.p (PV.sc (Value.int IntKind.u32 a)), AV.p (PV.sc (Value.int IntKind.u32 b)), AV.p (PV.sc (Value.int IntKind.i64 0))], [], AV.p (PV.sc (Value.int IntKind.i64 (bitsN op a b 0))), []⟩
                                                          (.out (Out.ret (AV.tup [AV.p (PV.sc (Value.int IntKind.u32 (IntKind.u32.wrap (IntKind.i64.wrap (IntKind.i64.wrap (2 * IntKind.i64.wrap (IntKind.i64.wrap (2 * IntKind.i64.wrap (IntKind.i64.wrap (2 * IntKind.i64.wrap (IntKind.i64.wrap (2 * IntKind.i64.wrap (IntKind.i64.wrap (2 * IntKind.i64.wrap (IntKind.i64.wrap (2 * IntKind.i64.wrap (IntKind.i64.wrap (2 * IntKind.i64.wrap (IntKind.i64.wrap (2 * IntKind.i64.wrap (IntKind.i64.wrap (2 * IntKind.i64.wrap (IntKind.i64.wrap (2 * IntKind.i64.wrap (IntKind.i64.wrap (2 * IntKind.i64.wrap (IntKind.i64.wrap (2 * IntKind.i64.wrap (IntKind.i64.wrap (2 * IntKind.i64.wrap (IntKind.i64.wrap (2 * IntKind.i64.wrap (IntKind.i64.wrap (2 * IntKind.i64.wrap (IntKind.i64.wrap (2 * IntKind.i64.wrap (IntKind.i64.wrap (2 * IntKind.i64.wrap (IntKind.i64.wrap (2 * IntKind.i64.wrap (IntKind.i64.wrap (2 * IntKind.i64.wrap (IntKind.i64.wrap (2 * IntKind.i64.wrap (IntKind.i64.wrap (2 * IntKind.i64.wrap (IntKind.i64.wrap (2 * IntKind.i64.wrap (IntKind.i64.wrap (2 * IntKind.i64.wrap (IntKind.i64.wrap (2 * IntKind.i64.wrap (IntKind.i64.wrap (2 * IntKind.i64.wrap (IntKind.i64.wrap (2 * IntKind.i64.wrap (IntKind.i64.wrap (2 * IntKind.i64.wrap (IntKind.i64.wrap (2 * IntKind.i64.wrap (IntKind.i64.wrap (2 * IntKind.i64.wrap (IntKind.i64.wrap (2 * IntKind.i64.wrap (IntKind.i64.wrap (2 * IntKind.i64.wrap (0 + bitsN op a b 31)) + bitsN op a b 30)) + bitsN op a b 29)) + bitsN op a b 28)) + bitsN op a b 27)) + bitsN op a b 26)) + bitsN op a b 25)) + bitsN op a b 24)) + bitsN op a b 23)) + bitsN op a b 22)) + bitsN op a b 21)) + bitsN op a b 20)) + bitsN op a b 19)) + bitsN op a b 18)) + bitsN op a b 17)) + bitsN op a b 16)) + bitsN op a b 15)) + bitsN op a b 14)) + bitsN op a b 13)) + bitsN op a b 12)) + bitsN op a b 11)) + bitsN op a b 10)) + bitsN op a b 9)) + bitsN op a b 8)) + bitsN op a b 7)) + bitsN op a b 6)) + bitsN op a b 5)) + bitsN op a b 4)) + bitsN op a b 3)) + bitsN op a b 2)) + bitsN op a b 1)) + bitsN op a b 0))))), AV.p (PV.sc (Value.int IntKind.i64 0))]) []))))))))))))))))))))))))))))))))))))))))))))))))))))))))))
theorem refBits_tree (op : Int) (a : Int) (b : Int) : growF Try.prog noGlob refBitsOrc 1000000 8 ([AV.p (PV.sc (Value.int IntKind.i64 op)), AV.p (PV.sc (Value.int IntKind.u32 a)), AV.p (PV.sc (Value.int IntKind.u32 b))]) [] refBitsSc = refBitsTree op a b := by kernel_rfl

/- numAnd: 185 steps -/
def numAndOrc : Orc := orc numCall [] [] []
def numAndSc : Sc := .fin
def numAndTree (a : Int) (b : Int) : Tree :=
  (.out (Out.ret (AV.tup [AV.p (PV.sc (Value.int IntKind.u32 (IntKind.u32.wrap ↑(BitVec.ofInt IntKind.u32.bits a &&& BitVec.ofInt IntKind.u32.bits b).toNat))), AV.p (PV.sc (Value.int IntKind.i64 0))]) []))
theorem numAnd_tree (a : Int) (b : Int) : growF Try.prog noGlob numAndOrc 1000000 7 ([AV.p (PV.sc (Value.int IntKind.i64 113)), AV.p (PV.sc (Value.int IntKind.u32 a)), AV.p (PV.sc (Value.int IntKind.u32 b))]) [] numAndSc = numAndTree a b := by kernel_rfl

/- numOr: 191 steps -/
def numOrOrc : Orc := orc numCall [] [] []
def numOrSc : Sc := .fin
def numOrTree (a : Int) (b : Int) : Tree :=
  (.out (Out.ret (AV.tup [AV.p (PV.sc (Value.int IntKind.u32 (IntKind.u32.wrap ↑(BitVec.ofInt IntKind.u32.bits a ||| BitVec.ofInt IntKind.u32.bits b).toNat))), AV.p (PV.sc (Value.int IntKind.i64 0))]) []))
theorem numOr_tree (a : Int) (b : Int) : growF Try.prog noGlob numOrOrc 1000000 7 ([AV.p (PV.sc (Value.int IntKind.i64 114)), AV.p (PV.sc (Value.int IntKind.u32 a)), AV.p (PV.sc (Value.int IntKind.u32 b))]) [] numOrSc = numOrTree a b := by kernel_rfl

/- numXor: 197 steps -/
def numXorOrc : Orc := orc numCall [] [] []
def numXorSc : Sc := .fin
def numXorTree (a : Int) (b : Int) : Tree :=
  (.out (Out.ret (AV.tup [AV.p (PV.sc (Value.int IntKind.u32 (IntKind.u32.wrap ↑(BitVec.ofInt IntKind.u32.bits a ^^^ BitVec.ofInt IntKind.u32.bits b).toNat))), AV.p (PV.sc (Value.int IntKind.i64 0))]) []))
theorem numXor_tree (a : Int) (b : Int) : growF Try.prog noGlob numXorOrc 1000000 7 ([AV.p (PV.sc (Value.int IntKind.i64 115)), AV.p (PV.sc (Value.int IntKind.u32 a)), AV.p (PV.sc (Value.int IntKind.u32 b))]) [] numXorSc = numXorTree a b := by kernel_rfl

/- numShl: 204 steps -/
def numShlOrc : Orc := orc numCall [] [] []
def numShlSc : Sc := .fin
def numShlTree (a : Int) (b : Int) : Tree :=
  (.out (Out.ret (AV.tup [AV.p (PV.sc (Value.int IntKind.u32 (IntKind.u32.wrap (a * 2 ^ Min.min (IntKind.u32.wrap ↑(BitVec.ofInt IntKind.u32.bits b &&& BitVec.ofInt IntKind.u32.bits 31).toNat).toNat IntKind.u32.bits)))), AV.p (PV.sc (Value.int IntKind.i64 0))]) []))
theorem numShl_tree (a : Int) (b : Int) : growF Try.prog noGlob numShlOrc 1000000 7 ([AV.p (PV.sc (Value.int IntKind.i64 116)), AV.p (PV.sc (Value.int IntKind.u32 a)), AV.p (PV.sc (Value.int IntKind.u32 b))]) [] numShlSc = numShlTree a b := by kernel_rfl

/- numShrS: 217 steps -/
def numShrSOrc : Orc := orc numCall [] [] []
def numShrSSc : Sc := .fin
def numShrSTree (a : Int) (b : Int) : Tree :=
  (.out (Out.ret (AV.tup [AV.p (PV.sc (Value.int IntKind.u32 (IntKind.u32.wrap ((IntKind.i32.wrap a).fdiv (2 ^ Min.min (IntKind.u32.wrap ↑(BitVec.ofInt IntKind.u32.bits b &&& BitVec.ofInt IntKind.u32.bits 31).toNat).toNat IntKind.i32.bits))))), AV.p (PV.sc (Value.int IntKind.i64 0))]) []))
theorem numShrS_tree (a : Int) (b : Int) : growF Try.prog noGlob numShrSOrc 1000000 7 ([AV.p (PV.sc (Value.int IntKind.i64 117)), AV.p (PV.sc (Value.int IntKind.u32 a)), AV.p (PV.sc (Value.int IntKind.u32 b))]) [] numShrSSc = numShrSTree a b := by kernel_rfl

/- numShrU: 210 steps -/
def numShrUOrc : Orc := orc numCall [] [] []
def numShrUSc : Sc := .fin
def numShrUTree (a : Int) (b : Int) : Tree :=
  (.out (Out.ret (AV.tup [AV.p (PV.sc (Value.int IntKind.u32 (a.fdiv (2 ^ Min.min (IntKind.u32.wrap ↑(BitVec.ofInt IntKind.u32.bits b &&& BitVec.ofInt IntKind.u32.bits 31).toNat).toNat IntKind.u32.bits)))), AV.p (PV.sc (Value.int IntKind.i64 0))]) []))
theorem numShrU_tree (a : Int) (b : Int) : growF Try.prog noGlob numShrUOrc 1000000 7 ([AV.p (PV.sc (Value.int IntKind.i64 118)), AV.p (PV.sc (Value.int IntKind.u32 a)), AV.p (PV.sc (Value.int IntKind.u32 b))]) [] numShrUSc = numShrUTree a b := by kernel_rfl

/- numRotl: 248 steps -/
def numRotlOrc : Orc := orc numCall [] [] [(18, 3, 6)]
def numRotlSc : Sc := .fin
def numRotlTree (a : Int) (b : Int) : Tree :=
  (.must (Decidable.decide (0 ≤ IntKind.u64.wrap (32 - IntKind.u64.wrap ↑(BitVec.ofInt IntKind.u64.bits (IntKind.u64.wrap (IntKind.i64.wrap (IntKind.u32.wrap ↑(BitVec.ofInt IntKind.u32.bits b &&& BitVec.ofInt IntKind.u32.bits 31).toNat))) &&& BitVec.ofInt IntKind.u64.bits 31).toNat)) && Bool.true)
   (.out (Out.ret (AV.tup [AV.p (PV.sc (Value.int IntKind.u32 (IntKind.u32.wrap ↑(BitVec.ofInt IntKind.u32.bits (IntKind.u32.wrap (a * 2 ^ Min.min (IntKind.u64.wrap ↑(BitVec.ofInt IntKind.u64.bits (IntKind.u64.wrap (IntKind.i64.wrap (IntKind.u32.wrap ↑(BitVec.ofInt IntKind.u32.bits b &&& BitVec.ofInt IntKind.u32.bits 31).toNat))) &&& BitVec.ofInt IntKind.u64.bits 31).toNat).toNat IntKind.u32.bits)) ||| BitVec.ofInt IntKind.u32.bits (a.fdiv (2 ^ Min.min (IntKind.u64.wrap (32 - IntKind.u64.wrap ↑(BitVec.ofInt IntKind.u64.bits (IntKind.u64.wrap (IntKind.i64.wrap (IntKind.u32.wrap ↑(BitVec.ofInt IntKind.u32.bits b &&& BitVec.ofInt IntKind.u32.bits 31).toNat))) &&& BitVec.ofInt IntKind.u64.bits 31).toNat)).toNat IntKind.u32.bits))).toNat))), AV.p (PV.sc (Value.int IntKind.i64 0))]) [])))
theorem numRotl_tree (a : Int) (b : Int) : growF Try.prog noGlob numRotlOrc 1000000 7 ([AV.p (PV.sc (Value.int IntKind.i64 119)), AV.p (PV.sc (Value.int IntKind.u32 a)), AV.p (PV.sc (Value.int IntKind.u32 b))]) [] numRotlSc = numRotlTree a b := by kernel_rfl

/- numRotr: 251 steps -/
def numRotrOrc : Orc := orc numCall [] [] [(18, 3, 6)]
def numRotrSc : Sc := .fin
def numRotrTree (a : Int) (b : Int) : Tree :=
  (.must (Decidable.decide (0 ≤ IntKind.u64.wrap (32 - IntKind.u64.wrap ↑(BitVec.ofInt IntKind.u64.bits (IntKind.u64.wrap (IntKind.i64.wrap (0 - IntKind.i64.wrap (IntKind.u32.wrap ↑(BitVec.ofInt IntKind.u32.bits b &&& BitVec.ofInt IntKind.u32.bits 31).toNat)))) &&& BitVec.ofInt IntKind.u64.bits 31).toNat)) && Bool.true)
   (.out (Out.ret (AV.tup [AV.p (PV.sc (Value.int IntKind.u32 (IntKind.u32.wrap ↑(BitVec.ofInt IntKind.u32.bits (IntKind.u32.wrap (a * 2 ^ Min.min (IntKind.u64.wrap ↑(BitVec.ofInt IntKind.u64.bits (IntKind.u64.wrap (IntKind.i64.wrap (0 - IntKind.i64.wrap (IntKind.u32.wrap ↑(BitVec.ofInt IntKind.u32.bits b &&& BitVec.ofInt IntKind.u32.bits 31).toNat)))) &&& BitVec.ofInt IntKind.u64.bits 31).toNat).toNat IntKind.u32.bits)) ||| BitVec.ofInt IntKind.u32.bits (a.fdiv (2 ^ Min.min (IntKind.u64.wrap (32 - IntKind.u64.wrap ↑(BitVec.ofInt IntKind.u64.bits (IntKind.u64.wrap (IntKind.i64.wrap (0 - IntKind.i64.wrap (IntKind.u32.wrap ↑(BitVec.ofInt IntKind.u32.bits b &&& BitVec.ofInt IntKind.u32.bits 31).toNat)))) &&& BitVec.ofInt IntKind.u64.bits 31).toNat)).toNat IntKind.u32.bits))).toNat))), AV.p (PV.sc (Value.int IntKind.i64 0))]) [])))
theorem numRotr_tree (a : Int) (b : Int) : growF Try.prog noGlob numRotrOrc 1000000 7 ([AV.p (PV.sc (Value.int IntKind.i64 120)), AV.p (PV.sc (Value.int IntKind.u32 a)), AV.p (PV.sc (Value.int IntKind.u32 b))]) [] numRotrSc = numRotrTree a b := by kernel_rfl

/- numDivS: 295 steps -/
def numDivSOrc : Orc := orc numCall [] [(16, 3, 3), (16, 0, 0), (16, 10, 2), (16, 0, 4)] [(16, 15, 2)]
def numDivSSc : Sc := (.fork (.fork .fin (.fork .fin (.no .fin))) (.fork .fin (.lit (.lit .fin))))
def numDivSTree (a : Int) (b : Int) : Tree :=
  (.test (a == 2147483648)
   (.test (b == 0)
    (.out (Out.ret (AV.tup [AV.p (PV.sc (Value.int IntKind.u32 0)), AV.p (PV.sc (Value.int IntKind.i64 130))]) []))
    (.test (IntKind.i32.wrap b == -1)
     (.out (Out.ret (AV.tup [AV.p (PV.sc (Value.int IntKind.u32 0)), AV.p (PV.sc (Value.int IntKind.i64 131))]) []))
     (.must (!(IntKind.i32.wrap b == -1))
      (.must (Bool.true && !IntKind.i32.wrap b == 0 && Bool.true)
       (.out (Out.ret (AV.tup [AV.p (PV.sc (Value.int IntKind.u32 (IntKind.u32.wrap (IntKind.i32.wrap ((IntKind.i32.wrap a).tdiv (IntKind.i32.wrap b)))))), AV.p (PV.sc (Value.int IntKind.i64 0))]) []))))))
   (.test (b == 0)
    (.out (Out.ret (AV.tup [AV.p (PV.sc (Value.int IntKind.u32 0)), AV.p (PV.sc (Value.int IntKind.i64 130))]) []))
    (.must (Bool.true && !IntKind.i32.wrap b == 0 && Bool.true)
     (.out (Out.ret (AV.tup [AV.p (PV.sc (Value.int IntKind.u32 (IntKind.u32.wrap (IntKind.i32.wrap ((IntKind.i32.wrap a).tdiv (IntKind.i32.wrap b)))))), AV.p (PV.sc (Value.int IntKind.i64 0))]) [])))))
theorem numDivS_tree (a : Int) (b : Int) : growF Try.prog noGlob numDivSOrc 1000000 7 ([AV.p (PV.sc (Value.int IntKind.i64 109)), AV.p (PV.sc (Value.int IntKind.u32 a)), AV.p (PV.sc (Value.int IntKind.u32 b))]) [] numDivSSc = numDivSTree a b := by kernel_rfl

/- numDivU: 214 steps -/
def numDivUOrc : Orc := orc numCall [] [(16, 3, 3), (16, 0, 0)] [(16, 7, 2)]
def numDivUSc : Sc := .fin
def numDivUTree (a : Int) (b : Int) : Tree :=
  (.test (a == 2147483648)
   (.test (b == 0)
    (.out (Out.ret (AV.tup [AV.p (PV.sc (Value.int IntKind.u32 0)), AV.p (PV.sc (Value.int IntKind.i64 130))]) []))
    (.must (Bool.true && !b == 0 && Bool.true)
     (.out (Out.ret (AV.tup [AV.p (PV.sc (Value.int IntKind.u32 (IntKind.u32.wrap (a.tdiv b)))), AV.p (PV.sc (Value.int IntKind.i64 0))]) []))))
   (.test (b == 0)
    (.out (Out.ret (AV.tup [AV.p (PV.sc (Value.int IntKind.u32 0)), AV.p (PV.sc (Value.int IntKind.i64 130))]) []))
    (.must (Bool.true && !b == 0 && Bool.true)
     (.out (Out.ret (AV.tup [AV.p (PV.sc (Value.int IntKind.u32 (IntKind.u32.wrap (a.tdiv b)))), AV.p (PV.sc (Value.int IntKind.i64 0))]) [])))))
theorem numDivU_tree (a : Int) (b : Int) : growF Try.prog noGlob numDivUOrc 1000000 7 ([AV.p (PV.sc (Value.int IntKind.i64 110)), AV.p (PV.sc (Value.int IntKind.u32 a)), AV.p (PV.sc (Value.int IntKind.u32 b))]) [] numDivUSc = numDivUTree a b := by kernel_rfl

/- numRemS: 317 steps -/
def numRemSOrc : Orc := orc numCall [] [(16, 3, 3), (16, 0, 0), (16, 10, 2), (16, 0, 4)] [(16, 16, 2)]
def numRemSSc : Sc := (.fork (.fork .fin (.fork (.yes .fin) (.no .fin))) (.fork .fin (.lit (.lit .fin))))
def numRemSTree (a : Int) (b : Int) : Tree :=
  (.test (a == 2147483648)
   (.test (b == 0)
    (.out (Out.ret (AV.tup [AV.p (PV.sc (Value.int IntKind.u32 0)), AV.p (PV.sc (Value.int IntKind.i64 130))]) []))
    (.test (IntKind.i32.wrap b == -1)
     (.must (IntKind.i32.wrap b == -1)
      (.out (Out.ret (AV.tup [AV.p (PV.sc (Value.int IntKind.u32 0)), AV.p (PV.sc (Value.int IntKind.i64 0))]) [])))
     (.must (!(IntKind.i32.wrap b == -1))
      (.must (Bool.true && !IntKind.i32.wrap b == 0 && Bool.true)
       (.out (Out.ret (AV.tup [AV.p (PV.sc (Value.int IntKind.u32 (IntKind.u32.wrap ((IntKind.i32.wrap a).tmod (IntKind.i32.wrap b))))), AV.p (PV.sc (Value.int IntKind.i64 0))]) []))))))
   (.test (b == 0)
    (.out (Out.ret (AV.tup [AV.p (PV.sc (Value.int IntKind.u32 0)), AV.p (PV.sc (Value.int IntKind.i64 130))]) []))
    (.must (Bool.true && !IntKind.i32.wrap b == 0 && Bool.true)
     (.out (Out.ret (AV.tup [AV.p (PV.sc (Value.int IntKind.u32 (IntKind.u32.wrap ((IntKind.i32.wrap a).tmod (IntKind.i32.wrap b))))), AV.p (PV.sc (Value.int IntKind.i64 0))]) [])))))
theorem numRemS_tree (a : Int) (b : Int) : growF Try.prog noGlob numRemSOrc 1000000 7 ([AV.p (PV.sc (Value.int IntKind.i64 111)), AV.p (PV.sc (Value.int IntKind.u32 a)), AV.p (PV.sc (Value.int IntKind.u32 b))]) [] numRemSSc = numRemSTree a b := by kernel_rfl

/- numRemU: 237 steps -/
def numRemUOrc : Orc := orc numCall [] [(16, 3, 3), (16, 0, 0)] [(16, 9, 2)]
def numRemUSc : Sc := .fin
def numRemUTree (a : Int) (b : Int) : Tree :=
  (.test (a == 2147483648)
   (.test (b == 0)
    (.out (Out.ret (AV.tup [AV.p (PV.sc (Value.int IntKind.u32 0)), AV.p (PV.sc (Value.int IntKind.i64 130))]) []))
    (.must (Bool.true && !b == 0 && Bool.true)
     (.out (Out.ret (AV.tup [AV.p (PV.sc (Value.int IntKind.u32 (a.tmod b))), AV.p (PV.sc (Value.int IntKind.i64 0))]) []))))
   (.test (b == 0)
    (.out (Out.ret (AV.tup [AV.p (PV.sc (Value.int IntKind.u32 0)), AV.p (PV.sc (Value.int IntKind.i64 130))]) []))
    (.must (Bool.true && !b == 0 && Bool.true)
     (.out (Out.ret (AV.tup [AV.p (PV.sc (Value.int IntKind.u32 (a.tmod b))), AV.p (PV.sc (Value.int IntKind.i64 0))]) [])))))
theorem numRemU_tree (a : Int) (b : Int) : growF Try.prog noGlob numRemUOrc 1000000 7 ([AV.p (PV.sc (Value.int IntKind.i64 112)), AV.p (PV.sc (Value.int IntKind.u32 a)), AV.p (PV.sc (Value.int IntKind.u32 b))]) [] numRemUSc = numRemUTree a b := by kernel_rfl


theorem wordTail {x : Int} (h : -1099511627776 ≤ x) (h' : x ≤ 1099511627776) :
    (x.tmod 4294967296 < 0 → IntKind.u32.wrap (IntKind.i64.wrap (x.tmod 4294967296 + 4294967296)) = IntKind.u32.wrap x) ∧ (¬ x.tmod 4294967296 < 0 → IntKind.u32.wrap (x.tmod 4294967296) = IntKind.u32.wrap x) := by
  rcases Int.lt_or_le x 0 with h0 | h0
  · have e : x.tmod 4294967296 = -((-x) % 4294967296) := by
      have : x = -(-x) := by omega
      rw [this, Int.neg_tmod, tmodPos (by omega)]; omega
    rw [e]; simp only [wU32, wI64]; constructor <;> intro _ <;> omega
  · rw [tmodPos h0]; simp only [wU32, wI64]; constructor <;> intro _ <;> omega

theorem tdivIn {a b : Int} (h : -4294967296 ≤ a) (h' : a ≤ 4294967296) : -4294967296 ≤ a.tdiv b ∧ a.tdiv b ≤ 4294967296 := by
  have : (a.tdiv b).natAbs ≤ a.natAbs := by rw [Int.natAbs_tdiv]; exact Nat.div_le_self _ _
  omega

theorem tmodIn {a b : Int} (h : -4294967296 ≤ a) (h' : a ≤ 4294967296) : -4294967296 ≤ a.tmod b ∧ a.tmod b ≤ 4294967296 := by
  have : (a.tmod b).natAbs ≤ a.natAbs := by rw [Int.natAbs_tmod]; exact Nat.mod_le _ _
  omega

theorem refSigned_does {a : Int} (ha0 : 0 ≤ a) (ha : a < 4294967296) : Does Try.prog noGlob 14 [.p (.sc (.int .u32 a))] [] (.p (.sc (.int .i64 (IntKind.i32.wrap a)))) [] := by
  refine does_of_tree names (refSigned_tree a) ?_
  have e : IntKind.i64.wrap a = a := w64 (by omega) (by omega)
  have e' : IntKind.i64.wrap (a - 4294967296) = a - 4294967296 := w64 (by omega) (by omega)
  simp only [refSignedTree, Tree.ok, e, e', wI32]
  simp; constructor <;> intro _ <;> omega

theorem quDivS_does {a b : Int} (ha0 : -4294967296 ≤ a) (ha : a ≤ 4294967296) : Does Try.prog noGlob 23 [.p (.sc (.int .i64 109)), .p (.sc (.int .i64 a)), .p (.sc (.int .i64 b))] [] (pairI (divW 109 a b) (divE 109 a b)) [] := by
  refine does_of_tree names (quDivS_tree a b) ?_
  have hq := tdivIn (b := b) ha0 ha
  have ht := wordTail (x := a.tdiv b) (by omega) (by omega)
  have e : IntKind.i64.wrap (a.tdiv b) = a.tdiv b := w64 (by omega) (by omega)
  simp only [quDivSTree, Tree.ok, e, divW, divE, pairI]
  clear hq
  generalize a.tdiv b = q at *
  by_cases hb : b = 0
  · simp [hb]
  · by_cases hs : q.tmod 4294967296 < 0
    · have := ht.1 hs
      simp +contextual [hb, hs, this]
    · have := ht.2 hs
      simp +contextual [hb, hs, this]

theorem quDivU_does {a b : Int} (ha0 : -4294967296 ≤ a) (ha : a ≤ 4294967296) : Does Try.prog noGlob 23 [.p (.sc (.int .i64 110)), .p (.sc (.int .i64 a)), .p (.sc (.int .i64 b))] [] (pairI (divW 110 a b) (divE 110 a b)) [] := by
  refine does_of_tree names (quDivU_tree a b) ?_
  have hq := tdivIn (b := b) ha0 ha
  have ht := wordTail (x := a.tdiv b) (by omega) (by omega)
  have e : IntKind.i64.wrap (a.tdiv b) = a.tdiv b := w64 (by omega) (by omega)
  simp only [quDivUTree, Tree.ok, e, divW, divE, pairI]
  clear hq
  generalize a.tdiv b = q at *
  by_cases hb : b = 0
  · simp [hb]
  · by_cases hs : q.tmod 4294967296 < 0
    · have := ht.1 hs
      simp +contextual [hb, hs, this]
    · have := ht.2 hs
      simp +contextual [hb, hs, this]

theorem quRemS_does {a b : Int} (ha0 : -4294967296 ≤ a) (ha : a ≤ 4294967296) : Does Try.prog noGlob 23 [.p (.sc (.int .i64 111)), .p (.sc (.int .i64 a)), .p (.sc (.int .i64 b))] [] (pairI (divW 111 a b) (divE 111 a b)) [] := by
  refine does_of_tree names (quRemS_tree a b) ?_
  have hq := tmodIn (b := b) ha0 ha
  have ht := wordTail (x := a.tmod b) (by omega) (by omega)
  simp only [quRemSTree, Tree.ok, divW, divE, pairI]
  clear hq
  generalize a.tmod b = q at *
  by_cases hb : b = 0
  · simp [hb]
  · by_cases hs : q.tmod 4294967296 < 0
    · have := ht.1 hs
      simp +contextual [hb, hs, this]
    · have := ht.2 hs
      simp +contextual [hb, hs, this]

theorem quRemU_does {a b : Int} (ha0 : -4294967296 ≤ a) (ha : a ≤ 4294967296) : Does Try.prog noGlob 23 [.p (.sc (.int .i64 112)), .p (.sc (.int .i64 a)), .p (.sc (.int .i64 b))] [] (pairI (divW 112 a b) (divE 112 a b)) [] := by
  refine does_of_tree names (quRemU_tree a b) ?_
  have hq := tmodIn (b := b) ha0 ha
  have ht := wordTail (x := a.tmod b) (by omega) (by omega)
  simp only [quRemUTree, Tree.ok, divW, divE, pairI]
  clear hq
  generalize a.tmod b = q at *
  by_cases hb : b = 0
  · simp [hb]
  · by_cases hs : q.tmod 4294967296 < 0
    · have := ht.1 hs
      simp +contextual [hb, hs, this]
    · have := ht.2 hs
      simp +contextual [hb, hs, this]


def twoE (op a b : Int) : Int :=
  if op = 109 ∨ op = 111 then divE op (IntKind.i32.wrap a) (IntKind.i32.wrap b) else
  if op = 110 ∨ op = 112 then divE op a b else 0
def foldI (f : Int → Int) : Nat → Int
  | 0 => 0
  | k + 1 => IntKind.i64.wrap (IntKind.i64.wrap (2 * foldI f k) + f (31 - k))
def twoW (op a b : Int) : Int :=
  if op = 109 ∨ op = 111 then divW op (IntKind.i32.wrap a) (IntKind.i32.wrap b) else
  if op = 110 ∨ op = 112 then divW op a b else IntKind.u32.wrap (foldI (bitsN op a b) 32)

theorem i32In (a : Int) : -4294967296 ≤ IntKind.i32.wrap a ∧ IntKind.i32.wrap a ≤ 4294967296 := by rw [wI32]; omega

theorem refDivS_does {a b : Int} (ha0 : 0 ≤ a) (ha : a < 4294967296) (hb0 : 0 ≤ b) (hb : b < 4294967296) : Does Try.prog noGlob 8 [.p (.sc (.int .i64 109)), .p (.sc (.int .u32 a)), .p (.sc (.int .u32 b))] [] (pairI (twoW 109 a b) (twoE 109 a b)) [] := by
  refine does_of_tree names (refDivS_tree a b) ?_
  have h := i32In a
  exact ⟨refSigned_does ha0 ha, refSigned_does hb0 hb, quDivS_does h.1 h.2, rfl⟩

theorem refRemS_does {a b : Int} (ha0 : 0 ≤ a) (ha : a < 4294967296) (hb0 : 0 ≤ b) (hb : b < 4294967296) : Does Try.prog noGlob 8 [.p (.sc (.int .i64 111)), .p (.sc (.int .u32 a)), .p (.sc (.int .u32 b))] [] (pairI (twoW 111 a b) (twoE 111 a b)) [] := by
  refine does_of_tree names (refRemS_tree a b) ?_
  have h := i32In a
  exact ⟨refSigned_does ha0 ha, refSigned_does hb0 hb, quRemS_does h.1 h.2, rfl⟩

theorem refDivU_does {a b : Int} (ha0 : 0 ≤ a) (ha : a < 4294967296) (hb0 : 0 ≤ b) (hb : b < 4294967296) : Does Try.prog noGlob 8 [.p (.sc (.int .i64 110)), .p (.sc (.int .u32 a)), .p (.sc (.int .u32 b))] [] (pairI (twoW 110 a b) (twoE 110 a b)) [] := by
  refine does_of_tree names (refDivU_tree a b) ?_
  have e : IntKind.i64.wrap a = a := w64 (by omega) (by omega)
  have e' : IntKind.i64.wrap b = b := w64 (by omega) (by omega)
  simp only [refDivUTree, Tree.ok, e, e']
  exact ⟨quDivU_does (by omega) (by omega), rfl⟩

theorem refRemU_does {a b : Int} (ha0 : 0 ≤ a) (ha : a < 4294967296) (hb0 : 0 ≤ b) (hb : b < 4294967296) : Does Try.prog noGlob 8 [.p (.sc (.int .i64 112)), .p (.sc (.int .u32 a)), .p (.sc (.int .u32 b))] [] (pairI (twoW 112 a b) (twoE 112 a b)) [] := by
  refine does_of_tree names (refRemU_tree a b) ?_
  have e : IntKind.i64.wrap a = a := w64 (by omega) (by omega)
  have e' : IntKind.i64.wrap b = b := w64 (by omega) (by omega)
  simp only [refRemUTree, Tree.ok, e, e']
  exact ⟨quRemU_does (by omega) (by omega), rfl⟩

theorem numDivS_does {a b : Int} (ha0 : 0 ≤ a) (ha : a < 4294967296) (hb0 : 0 ≤ b) (hb : b < 4294967296) : Does Try.prog noGlob 7 [.p (.sc (.int .i64 109)), .p (.sc (.int .u32 a)), .p (.sc (.int .u32 b))] [] (pairI (twoW 109 a b) (twoE 109 a b)) [] := by
  refine does_of_tree names (numDivS_tree a b) ?_
  have ea : a = 2147483648 ↔ IntKind.i32.wrap a = -2147483648 := by rw [wI32]; omega
  have eb : b = 0 ↔ IntKind.i32.wrap b = 0 := by rw [wI32]; omega
  have hu : ∀ x : Int, IntKind.u32.wrap (IntKind.i32.wrap x) = IntKind.u32.wrap x := by intro x; simp only [wU32, wI32]; omega
  simp only [numDivSTree, Tree.ok, twoW, twoE]
  generalize IntKind.i32.wrap a = A at *
  generalize IntKind.i32.wrap b = B at *
  by_cases h0 : B = 0
  · simp [eb, h0, divW, divE, pairI]
  · by_cases h1 : B = -1
    · simp +contextual [eb, ea, h1, divW, divE, pairI, hu]
    · simp +contextual [eb, h0, h1, divW, divE, pairI, hu]

theorem numDivU_does {a b : Int} (_ : 0 ≤ a) (_ : a < 4294967296) (_ : 0 ≤ b) (_ : b < 4294967296) : Does Try.prog noGlob 7 [.p (.sc (.int .i64 110)), .p (.sc (.int .u32 a)), .p (.sc (.int .u32 b))] [] (pairI (twoW 110 a b) (twoE 110 a b)) [] := by
  refine does_of_tree names (numDivU_tree a b) ?_
  simp only [numDivUTree, Tree.ok]
  by_cases h0 : b = 0
  · simp [h0, twoW, twoE, divW, divE, pairI]
  · simp [h0, twoW, twoE, divW, divE, pairI]

theorem numRemS_does {a b : Int} (ha0 : 0 ≤ a) (ha : a < 4294967296) (hb0 : 0 ≤ b) (hb : b < 4294967296) : Does Try.prog noGlob 7 [.p (.sc (.int .i64 111)), .p (.sc (.int .u32 a)), .p (.sc (.int .u32 b))] [] (pairI (twoW 111 a b) (twoE 111 a b)) [] := by
  refine does_of_tree names (numRemS_tree a b) ?_
  have ea : a = 2147483648 ↔ IntKind.i32.wrap a = -2147483648 := by rw [wI32]; omega
  have eb : b = 0 ↔ IntKind.i32.wrap b = 0 := by rw [wI32]; omega
  simp only [numRemSTree, Tree.ok, twoW, twoE]
  generalize IntKind.i32.wrap a = A at *
  generalize IntKind.i32.wrap b = B at *
  by_cases h0 : B = 0
  · simp [eb, h0, divW, divE, pairI]
  · by_cases h1 : B = -1
    · simp +contextual [eb, ea, h1, divW, divE, pairI, Int.tmod_neg, Int.tmod_one]; intro _; rfl
    · simp +contextual [eb, h0, h1, divW, divE, pairI]

theorem numRemU_does {a b : Int} (ha0 : 0 ≤ a) (_ : a < 4294967296) (hb0 : 0 ≤ b) (hb : b < 4294967296) : Does Try.prog noGlob 7 [.p (.sc (.int .i64 112)), .p (.sc (.int .u32 a)), .p (.sc (.int .u32 b))] [] (pairI (twoW 112 a b) (twoE 112 a b)) [] := by
  refine does_of_tree names (numRemU_tree a b) ?_
  simp only [numRemUTree, Tree.ok]
  by_cases h0 : b = 0
  · simp [h0, twoW, twoE, divW, divE, pairI]
  · have hm : IntKind.u32.wrap (a.tmod b) = a.tmod b := by
      rw [tmodPos ha0]
      have := Int.emod_nonneg a h0
      have := Int.emod_lt_of_pos a (by omega : 0 < b)
      exact u32In (by omega) (by omega)
    simp [h0, twoW, twoE, divW, divE, pairI, hm]

end Go.Proofs.Ythllpmannpolcaa.N
