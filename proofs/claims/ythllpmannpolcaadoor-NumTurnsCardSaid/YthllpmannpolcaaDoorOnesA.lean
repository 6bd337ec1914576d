/-
  NumOnes: trees (printed by a program of mine) and what they tell: the bits ahead of the first, those behind, their number.
-/
import Derived.Test.YthllpmannpolcaaDoorNumdA
namespace Go.Proofs.YthllpmannpolcaaDoor.N
open Go Go.Am

def lenTab : List UInt8 := [0, 1, 2, 2, 3, 3, 3, 3, 4, 4, 4, 4, 4, 4, 4, 4, 5, 5, 5, 5, 5, 5, 5, 5, 5, 5, 5, 5, 5, 5, 5, 5, 6, 6, 6, 6, 6, 6, 6, 6, 6, 6, 6, 6, 6, 6, 6, 6, 6, 6, 6, 6, 6, 6, 6, 6, 6, 6, 6, 6, 6, 6, 6, 6, 7, 7, 7, 7, 7, 7, 7, 7, 7, 7, 7, 7, 7, 7, 7, 7, 7, 7, 7, 7, 7, 7, 7, 7, 7, 7, 7, 7, 7, 7, 7, 7, 7, 7, 7, 7, 7, 7, 7, 7, 7, 7, 7, 7, 7, 7, 7, 7, 7, 7, 7, 7, 7, 7, 7, 7, 7, 7, 7, 7, 7, 7, 7, 7, 8, 8, 8, 8, 8, 8, 8, 8, 8, 8, 8, 8, 8, 8, 8, 8, 8, 8, 8, 8, 8, 8, 8, 8, 8, 8, 8, 8, 8, 8, 8, 8, 8, 8, 8, 8, 8, 8, 8, 8, 8, 8, 8, 8, 8, 8, 8, 8, 8, 8, 8, 8, 8, 8, 8, 8, 8, 8, 8, 8, 8, 8, 8, 8, 8, 8, 8, 8, 8, 8, 8, 8, 8, 8, 8, 8, 8, 8, 8, 8, 8, 8, 8, 8, 8, 8, 8, 8, 8, 8, 8, 8, 8, 8, 8, 8, 8, 8, 8, 8, 8, 8, 8, 8, 8, 8, 8, 8, 8, 8, 8, 8, 8, 8, 8, 8, 8, 8, 8, 8, 8, 8, 8, 8, 8, 8, 8, 8]
def popTab : List UInt8 := [0, 1, 1, 2, 1, 2, 2, 3, 1, 2, 2, 3, 2, 3, 3, 4, 1, 2, 2, 3, 2, 3, 3, 4, 2, 3, 3, 4, 3, 4, 4, 5, 1, 2, 2, 3, 2, 3, 3, 4, 2, 3, 3, 4, 3, 4, 4, 5, 2, 3, 3, 4, 3, 4, 4, 5, 3, 4, 4, 5, 4, 5, 5, 6, 1, 2, 2, 3, 2, 3, 3, 4, 2, 3, 3, 4, 3, 4, 4, 5, 2, 3, 3, 4, 3, 4, 4, 5, 3, 4, 4, 5, 4, 5, 5, 6, 2, 3, 3, 4, 3, 4, 4, 5, 3, 4, 4, 5, 4, 5, 5, 6, 3, 4, 4, 5, 4, 5, 5, 6, 4, 5, 5, 6, 5, 6, 6, 7, 1, 2, 2, 3, 2, 3, 3, 4, 2, 3, 3, 4, 3, 4, 4, 5, 2, 3, 3, 4, 3, 4, 4, 5, 3, 4, 4, 5, 4, 5, 5, 6, 2, 3, 3, 4, 3, 4, 4, 5, 3, 4, 4, 5, 4, 5, 5, 6, 3, 4, 4, 5, 4, 5, 5, 6, 4, 5, 5, 6, 5, 6, 6, 7, 2, 3, 3, 4, 3, 4, 4, 5, 3, 4, 4, 5, 4, 5, 5, 6, 3, 4, 4, 5, 4, 5, 5, 6, 4, 5, 5, 6, 5, 6, 6, 7, 3, 4, 4, 5, 4, 5, 5, 6, 4, 5, 5, 6, 5, 6, 6, 7, 4, 5, 5, 6, 5, 6, 6, 7, 5, 6, 6, 7, 6, 7, 7, 8]
/-- A word's bit. -/
def bitI (a j : Int) : Int := ((a.toNat / 2 ^ j.toNat % 2 : Nat) : Int)
def c19 (f : FuncId) (args : List AV) (_ : Mem) : Option (AV × Mem) := if f = 10 then some (sB true, []) else if f = 19 then (match args with
  | [.p (.sc (.int _ a)), .p (.sc (.int _ i))] => some (.p (.sc (.int .i64 (bitI a i))), [])
  | _ => none) else none

/- refBit: 15 steps -/
def refBitOrc : Orc := orc c19 [] [] [(19, 2, 3)]
def refBitSc : Sc := .fin
def refBitTree (a : Int) (i : Int) : Tree :=
  (.must (Decidable.decide (0 ≤ i) && Bool.true)
   (.out (Out.ret (AV.p (PV.sc (Value.int IntKind.i64 (((IntKind.i64.wrap a).fdiv (2 ^ Min.min i.toNat IntKind.i64.bits)).tmod 2)))) [])))
theorem refBit_tree (a : Int) (i : Int) : growF Tryd.prog tabEnv refBitOrc 1000000 19 ([AV.p (PV.sc (Value.int IntKind.u32 a)), AV.p (PV.sc (Value.int IntKind.i64 i))]) [] refBitSc = refBitTree a i := by kernel_rfl

/- refClz: 1347 steps -/
def refClzOrc : Orc := orc c19 [] [(7, 0, 4)] []
def refClzSc : Sc := (.fork (.fork (.fork (.fork (.fork (.fork (.fork (.fork (.fork (.fork (.fork (.fork (.fork (.fork (.fork (.fork (.fork (.fork (.fork (.fork (.fork (.fork (.fork (.fork (.fork (.fork (.fork (.fork (.fork (.fork (.fork (.fork (.lit .fin) .fin) .fin) .fin) .fin) .fin) .fin) .fin) .fin) .fin) .fin) .fin) .fin) .fin) .fin) .fin) .fin) .fin) .fin) .fin) .fin) .fin) .fin) .fin) .fin) .fin) .fin) .fin) .fin) .fin) .fin) .fin) .fin)
def refClzTree (a : Int) : Tree :=
  (.call ⟨19, [AV.p (PV.sc (Value.int IntKind.u32 a)), AV.p (PV.sc (Value.int IntKind.i64 31))], [], AV.p (PV.sc (Value.int IntKind.i64 (bitI a 31))), []⟩
   (.test (bitI a 31 == 0)
    (.call ⟨19, [AV.p (PV.sc (Value.int IntKind.u32 a)), AV.p (PV.sc (Value.int IntKind.i64 30))], [], AV.p (PV.sc (Value.int IntKind.i64 (bitI a 30))), []⟩
     (.test (bitI a 30 == 0)
      (.call ⟨19, [AV.p (PV.sc (Value.int IntKind.u32 a)), AV.p (PV.sc (Value.int IntKind.i64 29))], [], AV.p (PV.sc (Value.int IntKind.i64 (bitI a 29))), []⟩
       (.test (bitI a 29 == 0)
        (.call ⟨19, [AV.p (PV.sc (Value.int IntKind.u32 a)), AV.p (PV.sc (Value.int IntKind.i64 28))], [], AV.p (PV.sc (Value.int IntKind.i64 (bitI a 28))), []⟩
         (.test (bitI a 28 == 0)
          (.call ⟨19, [AV.p (PV.sc (Value.int IntKind.u32 a)), AV.p (PV.sc (Value.int IntKind.i64 27))], [], AV.p (PV.sc (Value.int IntKind.i64 (bitI a 27))), []⟩
           (.test (bitI a 27 == 0)
            (.call ⟨19, [AV.p (PV.sc (Value.int IntKind.u32 a)), AV.p (PV.sc (Value.int IntKind.i64 26))], [], AV.p (PV.sc (Value.int IntKind.i64 (bitI a 26))), []⟩
             (.test (bitI a 26 == 0)
              (.call ⟨19, [AV.p (PV.sc (Value.int IntKind.u32 a)), AV.p (PV.sc (Value.int IntKind.i64 25))], [], AV.p (PV.sc (Value.int IntKind.i64 (bitI a 25))), []⟩
               (.test (bitI a 25 == 0)
                (.call ⟨19, [AV.p (PV.sc (Value.int IntKind.u32 a)), AV.p (PV.sc (Value.int IntKind.i64 24))], [], AV.p (PV.sc (Value.int IntKind.i64 (bitI a 24))), []⟩
                 (.test (bitI a 24 == 0)
                  (.call ⟨19, [AV.p (PV.sc (Value.int IntKind.u32 a)), AV.p (PV.sc (Value.int IntKind.i64 23))], [], AV.p (PV.sc (Value.int IntKind.i64 (bitI a 23))), []⟩
                   (.test (bitI a 23 == 0)
                    (.call ⟨19, [AV.p (PV.sc (Value.int IntKind.u32 a)), AV.p (PV.sc (Value.int IntKind.i64 22))], [], AV.p (PV.sc (Value.int IntKind.i64 (bitI a 22))), []⟩
                     (.test (bitI a 22 == 0)
                      (.call ⟨19, [AV.p (PV.sc (Value.int IntKind.u32 a)), AV.p (PV.sc (Value.int IntKind.i64 21))], [], AV.p (PV.sc (Value.int IntKind.i64 (bitI a 21))), []⟩
                       (.test (bitI a 21 == 0)
                        (.call ⟨19, [AV.p (PV.sc (Value.int IntKind.u32 a)), AV.p (PV.sc (Value.int IntKind.i64 20))], [], AV.p (PV.sc (Value.int IntKind.i64 (bitI a 20))), []⟩
                         (.test (bitI a 20 == 0)
                          (.call ⟨19, [AV.p (PV.sc (Value.int IntKind.u32 a)), AV.p (PV.sc (Value.int IntKind.i64 19))], [], AV.p (PV.sc (Value.int IntKind.i64 (bitI a 19))), []⟩
                           (.test (bitI a 19 == 0)
                            (.call ⟨19, [AV.p (PV.sc (Value.int IntKind.u32 a)), AV.p (PV.sc (Value.int IntKind.i64 18))], [], AV.p (PV.sc (Value.int IntKind.i64 (bitI a 18))), []⟩
                             (.test (bitI a 18 == 0)
                              (.call ⟨19, [AV.p (PV.sc (Value.int IntKind.u32 a)), AV.p (PV.sc (Value.int IntKind.i64 17))], [], AV.p (PV.sc (Value.int IntKind.i64 (bitI a 17))), []⟩
                               (.test (bitI a 17 == 0)
                                (.call ⟨19, [AV.p (PV.sc (Value.int IntKind.u32 a)), AV.p (PV.sc (Value.int IntKind.i64 16))], [], AV.p (PV.sc (Value.int IntKind.i64 (bitI a 16))), []⟩
                                 (.test (bitI a 16 == 0)
                                  (.call ⟨19, [AV.p (PV.sc (Value.int IntKind.u32 a)), AV.p (PV.sc (Value.int IntKind.i64 15))], [], AV.p (PV.sc (Value.int IntKind.i64 (bitI a 15))), []⟩
                                   (.test (bitI a 15 == 0)
                                    (.call ⟨19, [AV.p (PV.sc (Value.int IntKind.u32 a)), AV.p (PV.sc (Value.int IntKind.i64 14))], [], AV.p (PV.sc (Value.int IntKind.i64 (bitI a 14))), []⟩
                                     (.test (bitI a 14 == 0)
                                      (.call ⟨19, [AV.p (PV.sc (Value.int IntKind.u32 a)), AV.p (PV.sc (Value.int IntKind.i64 13))], [], AV.p (PV.sc (Value.int IntKind.i64 (bitI a 13))), []⟩
                                       (.test (bitI a 13 == 0)
                                        (.call ⟨19, [AV.p (PV.sc (Value.int IntKind.u32 a)), AV.p (PV.sc (Value.int IntKind.i64 12))], [], AV.p (PV.sc (Value.int IntKind.i64 (bitI a 12))), []⟩
                                         (.test (bitI a 12 == 0)
                                          (.call ⟨19, [AV.p (PV.sc (Value.int IntKind.u32 a)), AV.p (PV.sc (Value.int IntKind.i64 11))], [], AV.p (PV.sc (Value.int IntKind.i64 (bitI a 11))), []⟩
                                           (.test (bitI a 11 == 0)
                                            (.call ⟨19, [AV.p (PV.sc (Value.int IntKind.u32 a)), AV.p (PV.sc (Value.int IntKind.i64 10))], [], AV.p (PV.sc (Value.int IntKind.i64 (bitI a 10))), []⟩
                                             (.test (bitI a 10 == 0)
                                              (.call ⟨19, [AV.p (PV.sc (Value.int IntKind.u32 a)), AV.p (PV.sc (Value.int IntKind.i64 9))], [], AV.p (PV.sc (Value.int IntKind.i64 (bitI a 9))), []⟩
                                               (.test (bitI a 9 == 0)
                                                (.call ⟨19, [AV.p (PV.sc (Value.int IntKind.u32 a)), AV.p (PV.sc (Value.int IntKind.i64 8))], [], AV.p (PV.sc (Value.int IntKind.i64 (bitI a 8))), []⟩
                                                 (.test (bitI a 8 == 0)
                                                  (.call ⟨19, [AV.p (PV.sc (Value.int IntKind.u32 a)), AV.p (PV.sc (Value.int IntKind.i64 7))], [], AV.p (PV.sc (Value.int IntKind.i64 (bitI a 7))), []⟩
                                                   (.test (bitI a 7 == 0)
                                                    (.call ⟨19, [AV.p (PV.sc (Value.int IntKind.u32 a)), AV.p (PV.sc (Value.int IntKind.i64 6))], [], AV.p (PV.sc (Value.int IntKind.i64 (bitI a 6))), []⟩
                                                     (.test (bitI a 6 == 0)
                                                      (.call ⟨19, [AV.p (PV.sc (Value.int IntKind.u32 a)), AV.p (PV.sc (Value.int IntKind.i64 5))], [], AV.p (PV.sc (Value.int IntKind.i64 (bitI a 5))), []⟩
                                                       (.test (bitI a 5 == 0)
                                                        (.call ⟨19, [AV.p (PV.sc (Value.int IntKind.u32 a)), AV.p (PV.sc (Value.int IntKind.i64 4))], [], AV.p (PV.sc (Value.int IntKind.i64 (bitI a 4))), []⟩
                                                         (.test (bitI a 4 == 0)
                                                          (.call ⟨19, [AV.p (PV.sc (Value.int IntKind.u32 a)), AV.p (PV.sc (Value.int IntKind.i64 3))], [], AV.p (PV.sc (Value.int IntKind.i64 (bitI a 3))), []⟩
                                                           (.test (bitI a 3 == 0)
                                                            (.call ⟨19, [AV.p (PV.sc (Value.int IntKind.u32 a)), AV.p (PV.sc (Value.int IntKind.i64 2))], [], AV.p (PV.sc (Value.int IntKind.i64 (bitI a 2))), []⟩
                                                             (.test (bitI a 2 == 0)
                                                              (.call ⟨19, [AV.p (PV.sc (Value.int IntKind.u32 a)), AV.p (PV.sc (Value.int IntKind.i64 1))], [], AV.p (PV.sc (Value.int IntKind.i64 (bitI a 1))), []⟩
                                                               (.test (bitI a 1 == 0)
                                                                (.call ⟨19, [AV.p (PV.sc (Value.int IntKind.u32 a)), AV.p (PV.sc (Value.int IntKind.i64 0))], [], AV.p (PV.sc (Value.int IntKind.i64 (bitI a 0))), []⟩
                                                                 (.test (bitI a 0 == 0)
                                                                  (.out (Out.ret (AV.tup [AV.p (PV.sc (Value.int IntKind.u32 32)), AV.p (PV.sc (Value.int IntKind.i64 0))]) []))
                                                                  (.out (Out.ret (AV.tup [AV.p (PV.sc (Value.int IntKind.u32 31)), AV.p (PV.sc (Value.int IntKind.i64 0))]) []))))
                                                                (.out (Out.ret (AV.tup [AV.p (PV.sc (Value.int IntKind.u32 30)), AV.p (PV.sc (Value.int IntKind.i64 0))]) []))))
                                                              (.out (Out.ret (AV.tup [AV.p (PV.sc (Value.int IntKind.u32 29)), AV.p (PV.sc (Value.int IntKind.i64 0))]) []))))
                                                            (.out (Out.ret (AV.tup [AV.p (PV.sc (Value.int IntKind.u32 28)), AV.p (PV.sc (Value.int IntKind.i64 0))]) []))))
                                                          (.out (Out.ret (AV.tup [AV.p (PV.sc (Value.int IntKind.u32 27)), AV.p (PV.sc (Value.int IntKind.i64 0))]) []))))
                                                        (.out (Out.ret (AV.tup [AV.p (PV.sc (Value.int IntKind.u32 26)), AV.p (PV.sc (Value.int IntKind.i64 0))]) []))))
                                                      (.out (Out.ret (AV.tup [AV.p (PV.sc (Value.int IntKind.u32 25)), AV.p (PV.sc (Value.int IntKind.i64 0))]) []))))
                                                    (.out (Out.ret (AV.tup [AV.p (PV.sc (Value.int IntKind.u32 24)), AV.p (PV.sc (Value.int IntKind.i64 0))]) []))))
                                                  (.out (Out.ret (AV.tup [AV.p (PV.sc (Value.int IntKind.u32 23)), AV.p (PV.sc (Value.int IntKind.i64 0))]) []))))
                                                (.out (Out.ret (AV.tup [AV.p (PV.sc (Value.int IntKind.u32 22)), AV.p (PV.sc (Value.int IntKind.i64 0))]) []))))
                                              (.out (Out.ret (AV.tup [AV.p (PV.sc (Value.int IntKind.u32 21)), AV.p (PV.sc (Value.int IntKind.i64 0))]) []))))
                                            (.out (Out.ret (AV.tup [AV.p (PV.sc (Value.int IntKind.u32 20)), AV.p (PV.sc (Value.int IntKind.i64 0))]) []))))
                                          (.out (Out.ret (AV.tup [AV.p (PV.sc (Value.int IntKind.u32 19)), AV.p (PV.sc (Value.int IntKind.i64 0))]) []))))
                                        (.out (Out.ret (AV.tup [AV.p (PV.sc (Value.int IntKind.u32 18)), AV.p (PV.sc (Value.int IntKind.i64 0))]) []))))
                                      (.out (Out.ret (AV.tup [AV.p (PV.sc (Value.int IntKind.u32 17)), AV.p (PV.sc (Value.int IntKind.i64 0))]) []))))
                                    (.out (Out.ret (AV.tup [AV.p (PV.sc (Value.int IntKind.u32 16)), AV.p (PV.sc (Value.int IntKind.i64 0))]) []))))
                                  (.out (Out.ret (AV.tup [AV.p (PV.sc (Value.int IntKind.u32 15)), AV.p (PV.sc (Value.int IntKind.i64 0))]) []))))
                                (.out (Out.ret (AV.tup [AV.p (PV.sc (Value.int IntKind.u32 14)), AV.p (PV.sc (Value.int IntKind.i64 0))]) []))))
                              (.out (Out.ret (AV.tup [AV.p (PV.sc (Value.int IntKind.u32 13)), AV.p (PV.sc (Value.int IntKind.i64 0))]) []))))
                            (.out (Out.ret (AV.tup [AV.p (PV.sc (Value.int IntKind.u32 12)), AV.p (PV.sc (Value.int IntKind.i64 0))]) []))))
                          (.out (Out.ret (AV.tup [AV.p (PV.sc (Value.int IntKind.u32 11)), AV.p (PV.sc (Value.int IntKind.i64 0))]) []))))
                        (.out (Out.ret (AV.tup [AV.p (PV.sc (Value.int IntKind.u32 10)), AV.p (PV.sc (Value.int IntKind.i64 0))]) []))))
                      (.out (Out.ret (AV.tup [AV.p (PV.sc (Value.int IntKind.u32 9)), AV.p (PV.sc (Value.int IntKind.i64 0))]) []))))
                    (.out (Out.ret (AV.tup [AV.p (PV.sc (Value.int IntKind.u32 8)), AV.p (PV.sc (Value.int IntKind.i64 0))]) []))))
                  (.out (Out.ret (AV.tup [AV.p (PV.sc (Value.int IntKind.u32 7)), AV.p (PV.sc (Value.int IntKind.i64 0))]) []))))
                (.out (Out.ret (AV.tup [AV.p (PV.sc (Value.int IntKind.u32 6)), AV.p (PV.sc (Value.int IntKind.i64 0))]) []))))
              (.out (Out.ret (AV.tup [AV.p (PV.sc (Value.int IntKind.u32 5)), AV.p (PV.sc (Value.int IntKind.i64 0))]) []))))
            (.out (Out.ret (AV.tup [AV.p (PV.sc (Value.int IntKind.u32 4)), AV.p (PV.sc (Value.int IntKind.i64 0))]) []))))
          (.out (Out.ret (AV.tup [AV.p (PV.sc (Value.int IntKind.u32 3)), AV.p (PV.sc (Value.int IntKind.i64 0))]) []))))
        (.out (Out.ret (AV.tup [AV.p (PV.sc (Value.int IntKind.u32 2)), AV.p (PV.sc (Value.int IntKind.i64 0))]) []))))
      (.out (Out.ret (AV.tup [AV.p (PV.sc (Value.int IntKind.u32 1)), AV.p (PV.sc (Value.int IntKind.i64 0))]) []))))
    (.out (Out.ret (AV.tup [AV.p (PV.sc (Value.int IntKind.u32 0)), AV.p (PV.sc (Value.int IntKind.i64 0))]) []))))
theorem refClz_tree (a : Int) : growF Tryd.prog tabEnv refClzOrc 1000000 7 ([AV.p (PV.sc (Value.int IntKind.i64 103)), AV.p (PV.sc (Value.int IntKind.u32 a))]) [] refClzSc = refClzTree a := by kernel_rfl

/- refCtz: 1287 steps -/
def refCtzOrc : Orc := orc c19 [] [(7, 0, 7)] []
def refCtzSc : Sc := (.fork (.fork (.fork (.fork (.fork (.fork (.fork (.fork (.fork (.fork (.fork (.fork (.fork (.fork (.fork (.fork (.fork (.fork (.fork (.fork (.fork (.fork (.fork (.fork (.fork (.fork (.fork (.fork (.fork (.fork (.fork (.fork (.lit .fin) .fin) .fin) .fin) .fin) .fin) .fin) .fin) .fin) .fin) .fin) .fin) .fin) .fin) .fin) .fin) .fin) .fin) .fin) .fin) .fin) .fin) .fin) .fin) .fin) .fin) .fin) .fin) .fin) .fin) .fin) .fin) .fin)
def refCtzTree (a : Int) : Tree :=
  (.call ⟨19, [AV.p (PV.sc (Value.int IntKind.u32 a)), AV.p (PV.sc (Value.int IntKind.i64 0))], [], AV.p (PV.sc (Value.int IntKind.i64 (bitI a 0))), []⟩
   (.test (bitI a 0 == 0)
    (.call ⟨19, [AV.p (PV.sc (Value.int IntKind.u32 a)), AV.p (PV.sc (Value.int IntKind.i64 1))], [], AV.p (PV.sc (Value.int IntKind.i64 (bitI a 1))), []⟩
     (.test (bitI a 1 == 0)
      (.call ⟨19, [AV.p (PV.sc (Value.int IntKind.u32 a)), AV.p (PV.sc (Value.int IntKind.i64 2))], [], AV.p (PV.sc (Value.int IntKind.i64 (bitI a 2))), []⟩
       (.test (bitI a 2 == 0)
        (.call ⟨19, [AV.p (PV.sc (Value.int IntKind.u32 a)), AV.p (PV.sc (Value.int IntKind.i64 3))], [], AV.p (PV.sc (Value.int IntKind.i64 (bitI a 3))), []⟩
         (.test (bitI a 3 == 0)
          (.call ⟨19, [AV.p (PV.sc (Value.int IntKind.u32 a)), AV.p (PV.sc (Value.int IntKind.i64 4))], [], AV.p (PV.sc (Value.int IntKind.i64 (bitI a 4))), []⟩
           (.test (bitI a 4 == 0)
            (.call ⟨19, [AV.p (PV.sc (Value.int IntKind.u32 a)), AV.p (PV.sc (Value.int IntKind.i64 5))], [], AV.p (PV.sc (Value.int IntKind.i64 (bitI a 5))), []⟩
             (.test (bitI a 5 == 0)
              (.call ⟨19, [AV.p (PV.sc (Value.int IntKind.u32 a)), AV.p (PV.sc (Value.int IntKind.i64 6))], [], AV.p (PV.sc (Value.int IntKind.i64 (bitI a 6))), []⟩
               (.test (bitI a 6 == 0)
                (.call ⟨19, [AV.p (PV.sc (Value.int IntKind.u32 a)), AV.p (PV.sc (Value.int IntKind.i64 7))], [], AV.p (PV.sc (Value.int IntKind.i64 (bitI a 7))), []⟩
                 (.test (bitI a 7 == 0)
                  (.call ⟨19, [AV.p (PV.sc (Value.int IntKind.u32 a)), AV.p (PV.sc (Value.int IntKind.i64 8))], [], AV.p (PV.sc (Value.int IntKind.i64 (bitI a 8))), []⟩
                   (.test (bitI a 8 == 0)
                    (.call ⟨19, [AV.p (PV.sc (Value.int IntKind.u32 a)), AV.p (PV.sc (Value.int IntKind.i64 9))], [], AV.p (PV.sc (Value.int IntKind.i64 (bitI a 9))), []⟩
                     (.test (bitI a 9 == 0)
                      (.call ⟨19, [AV.p (PV.sc (Value.int IntKind.u32 a)), AV.p (PV.sc (Value.int IntKind.i64 10))], [], AV.p (PV.sc (Value.int IntKind.i64 (bitI a 10))), []⟩
                       (.test (bitI a 10 == 0)
                        (.call ⟨19, [AV.p (PV.sc (Value.int IntKind.u32 a)), AV.p (PV.sc (Value.int IntKind.i64 11))], [], AV.p (PV.sc (Value.int IntKind.i64 (bitI a 11))), []⟩
                         (.test (bitI a 11 == 0)
                          (.call ⟨19, [AV.p (PV.sc (Value.int IntKind.u32 a)), AV.p (PV.sc (Value.int IntKind.i64 12))], [], AV.p (PV.sc (Value.int IntKind.i64 (bitI a 12))), []⟩
                           (.test (bitI a 12 == 0)
                            (.call ⟨19, [AV.p (PV.sc (Value.int IntKind.u32 a)), AV.p (PV.sc (Value.int IntKind.i64 13))], [], AV.p (PV.sc (Value.int IntKind.i64 (bitI a 13))), []⟩
                             (.test (bitI a 13 == 0)
                              (.call ⟨19, [AV.p (PV.sc (Value.int IntKind.u32 a)), AV.p (PV.sc (Value.int IntKind.i64 14))], [], AV.p (PV.sc (Value.int IntKind.i64 (bitI a 14))), []⟩
                               (.test (bitI a 14 == 0)
                                (.call ⟨19, [AV.p (PV.sc (Value.int IntKind.u32 a)), AV.p (PV.sc (Value.int IntKind.i64 15))], [], AV.p (PV.sc (Value.int IntKind.i64 (bitI a 15))), []⟩
                                 (.test (bitI a 15 == 0)
                                  (.call ⟨19, [AV.p (PV.sc (Value.int IntKind.u32 a)), AV.p (PV.sc (Value.int IntKind.i64 16))], [], AV.p (PV.sc (Value.int IntKind.i64 (bitI a 16))), []⟩
                                   (.test (bitI a 16 == 0)
                                    (.call ⟨19, [AV.p (PV.sc (Value.int IntKind.u32 a)), AV.p (PV.sc (Value.int IntKind.i64 17))], [], AV.p (PV.sc (Value.int IntKind.i64 (bitI a 17))), []⟩
                                     (.test (bitI a 17 == 0)
                                      (.call ⟨19, [AV.p (PV.sc (Value.int IntKind.u32 a)), AV.p (PV.sc (Value.int IntKind.i64 18))], [], AV.p (PV.sc (Value.int IntKind.i64 (bitI a 18))), []⟩
                                       (.test (bitI a 18 == 0)
                                        (.call ⟨19, [AV.p (PV.sc (Value.int IntKind.u32 a)), AV.p (PV.sc (Value.int IntKind.i64 19))], [], AV.p (PV.sc (Value.int IntKind.i64 (bitI a 19))), []⟩
                                         (.test (bitI a 19 == 0)
                                          (.call ⟨19, [AV.p (PV.sc (Value.int IntKind.u32 a)), AV.p (PV.sc (Value.int IntKind.i64 20))], [], AV.p (PV.sc (Value.int IntKind.i64 (bitI a 20))), []⟩
                                           (.test (bitI a 20 == 0)
                                            (.call ⟨19, [AV.p (PV.sc (Value.int IntKind.u32 a)), AV.p (PV.sc (Value.int IntKind.i64 21))], [], AV.p (PV.sc (Value.int IntKind.i64 (bitI a 21))), []⟩
                                             (.test (bitI a 21 == 0)
                                              (.call ⟨19, [AV.p (PV.sc (Value.int IntKind.u32 a)), AV.p (PV.sc (Value.int IntKind.i64 22))], [], AV.p (PV.sc (Value.int IntKind.i64 (bitI a 22))), []⟩
                                               (.test (bitI a 22 == 0)
                                                (.call ⟨19, [AV.p (PV.sc (Value.int IntKind.u32 a)), AV.p (PV.sc (Value.int IntKind.i64 23))], [], AV.p (PV.sc (Value.int IntKind.i64 (bitI a 23))), []⟩
                                                 (.test (bitI a 23 == 0)
                                                  (.call ⟨19, [AV.p (PV.sc (Value.int IntKind.u32 a)), AV.p (PV.sc (Value.int IntKind.i64 24))], [], AV.p (PV.sc (Value.int IntKind.i64 (bitI a 24))), []⟩
                                                   (.test (bitI a 24 == 0)
                                                    (.call ⟨19, [AV.p (PV.sc (Value.int IntKind.u32 a)), AV.p (PV.sc (Value.int IntKind.i64 25))], [], AV.p (PV.sc (Value.int IntKind.i64 (bitI a 25))), []⟩
                                                     (.test (bitI a 25 == 0)
                                                      (.call ⟨19, [AV.p (PV.sc (Value.int IntKind.u32 a)), AV.p (PV.sc (Value.int IntKind.i64 26))], [], AV.p (PV.sc (Value.int IntKind.i64 (bitI a 26))), []⟩
                                                       (.test (bitI a 26 == 0)
                                                        (.call ⟨19, [AV.p (PV.sc (Value.int IntKind.u32 a)), AV.p (PV.sc (Value.int IntKind.i64 27))], [], AV.p (PV.sc (Value.int IntKind.i64 (bitI a 27))), []⟩
                                                         (.test (bitI a 27 == 0)
                                                          (.call ⟨19, [AV.p (PV.sc (Value.int IntKind.u32 a)), AV.p (PV.sc (Value.int IntKind.i64 28))], [], AV.p (PV.sc (Value.int IntKind.i64 (bitI a 28))), []⟩
                                                           (.test (bitI a 28 == 0)
                                                            (.call ⟨19, [AV.p (PV.sc (Value.int IntKind.u32 a)), AV.p (PV.sc (Value.int IntKind.i64 29))], [], AV.p (PV.sc (Value.int IntKind.i64 (bitI a 29))), []⟩
                                                             (.test (bitI a 29 == 0)
                                                              (.call ⟨19, [AV.p (PV.sc (Value.int IntKind.u32 a)), AV.p (PV.sc (Value.int IntKind.i64 30))], [], AV.p (PV.sc (Value.int IntKind.i64 (bitI a 30))), []⟩
                                                               (.test (bitI a 30 == 0)
                                                                (.call ⟨19, [AV.p (PV.sc (Value.int IntKind.u32 a)), AV.p (PV.sc (Value.int IntKind.i64 31))], [], AV.p (PV.sc (Value.int IntKind.i64 (bitI a 31))), []⟩
                                                                 (.test (bitI a 31 == 0)
                                                                  (.out (Out.ret (AV.tup [AV.p (PV.sc (Value.int IntKind.u32 32)), AV.p (PV.sc (Value.int IntKind.i64 0))]) []))
                                                                  (.out (Out.ret (AV.tup [AV.p (PV.sc (Value.int IntKind.u32 31)), AV.p (PV.sc (Value.int IntKind.i64 0))]) []))))
                                                                (.out (Out.ret (AV.tup [AV.p (PV.sc (Value.int IntKind.u32 30)), AV.p (PV.sc (Value.int IntKind.i64 0))]) []))))
                                                              (.out (Out.ret (AV.tup [AV.p (PV.sc (Value.int IntKind.u32 29)), AV.p (PV.sc (Value.int IntKind.i64 0))]) []))))
                                                            (.out (Out.ret (AV.tup [AV.p (PV.sc (Value.int IntKind.u32 28)), AV.p (PV.sc (Value.int IntKind.i64 0))]) []))))
                                                          (.out (Out.ret (AV.tup [AV.p (PV.sc (Value.int IntKind.u32 27)), AV.p (PV.sc (Value.int IntKind.i64 0))]) []))))
                                                        (.out (Out.ret (AV.tup [AV.p (PV.sc (Value.int IntKind.u32 26)), AV.p (PV.sc (Value.int IntKind.i64 0))]) []))))
                                                      (.out (Out.ret (AV.tup [AV.p (PV.sc (Value.int IntKind.u32 25)), AV.p (PV.sc (Value.int IntKind.i64 0))]) []))))
                                                    (.out (Out.ret (AV.tup [AV.p (PV.sc (Value.int IntKind.u32 24)), AV.p (PV.sc (Value.int IntKind.i64 0))]) []))))
                                                  (.out (Out.ret (AV.tup [AV.p (PV.sc (Value.int IntKind.u32 23)), AV.p (PV.sc (Value.int IntKind.i64 0))]) []))))
                                                (.out (Out.ret (AV.tup [AV.p (PV.sc (Value.int IntKind.u32 22)), AV.p (PV.sc (Value.int IntKind.i64 0))]) []))))
                                              (.out (Out.ret (AV.tup [AV.p (PV.sc (Value.int IntKind.u32 21)), AV.p (PV.sc (Value.int IntKind.i64 0))]) []))))
                                            (.out (Out.ret (AV.tup [AV.p (PV.sc (Value.int IntKind.u32 20)), AV.p (PV.sc (Value.int IntKind.i64 0))]) []))))
                                          (.out (Out.ret (AV.tup [AV.p (PV.sc (Value.int IntKind.u32 19)), AV.p (PV.sc (Value.int IntKind.i64 0))]) []))))
                                        (.out (Out.ret (AV.tup [AV.p (PV.sc (Value.int IntKind.u32 18)), AV.p (PV.sc (Value.int IntKind.i64 0))]) []))))
                                      (.out (Out.ret (AV.tup [AV.p (PV.sc (Value.int IntKind.u32 17)), AV.p (PV.sc (Value.int IntKind.i64 0))]) []))))
                                    (.out (Out.ret (AV.tup [AV.p (PV.sc (Value.int IntKind.u32 16)), AV.p (PV.sc (Value.int IntKind.i64 0))]) []))))
                                  (.out (Out.ret (AV.tup [AV.p (PV.sc (Value.int IntKind.u32 15)), AV.p (PV.sc (Value.int IntKind.i64 0))]) []))))
                                (.out (Out.ret (AV.tup [AV.p (PV.sc (Value.int IntKind.u32 14)), AV.p (PV.sc (Value.int IntKind.i64 0))]) []))))
                              (.out (Out.ret (AV.tup [AV.p (PV.sc (Value.int IntKind.u32 13)), AV.p (PV.sc (Value.int IntKind.i64 0))]) []))))
                            (.out (Out.ret (AV.tup [AV.p (PV.sc (Value.int IntKind.u32 12)), AV.p (PV.sc (Value.int IntKind.i64 0))]) []))))
                          (.out (Out.ret (AV.tup [AV.p (PV.sc (Value.int IntKind.u32 11)), AV.p (PV.sc (Value.int IntKind.i64 0))]) []))))
                        (.out (Out.ret (AV.tup [AV.p (PV.sc (Value.int IntKind.u32 10)), AV.p (PV.sc (Value.int IntKind.i64 0))]) []))))
                      (.out (Out.ret (AV.tup [AV.p (PV.sc (Value.int IntKind.u32 9)), AV.p (PV.sc (Value.int IntKind.i64 0))]) []))))
                    (.out (Out.ret (AV.tup [AV.p (PV.sc (Value.int IntKind.u32 8)), AV.p (PV.sc (Value.int IntKind.i64 0))]) []))))
                  (.out (Out.ret (AV.tup [AV.p (PV.sc (Value.int IntKind.u32 7)), AV.p (PV.sc (Value.int IntKind.i64 0))]) []))))
                (.out (Out.ret (AV.tup [AV.p (PV.sc (Value.int IntKind.u32 6)), AV.p (PV.sc (Value.int IntKind.i64 0))]) []))))
              (.out (Out.ret (AV.tup [AV.p (PV.sc (Value.int IntKind.u32 5)), AV.p (PV.sc (Value.int IntKind.i64 0))]) []))))
            (.out (Out.ret (AV.tup [AV.p (PV.sc (Value.int IntKind.u32 4)), AV.p (PV.sc (Value.int IntKind.i64 0))]) []))))
          (.out (Out.ret (AV.tup [AV.p (PV.sc (Value.int IntKind.u32 3)), AV.p (PV.sc (Value.int IntKind.i64 0))]) []))))
        (.out (Out.ret (AV.tup [AV.p (PV.sc (Value.int IntKind.u32 2)), AV.p (PV.sc (Value.int IntKind.i64 0))]) []))))
      (.out (Out.ret (AV.tup [AV.p (PV.sc (Value.int IntKind.u32 1)), AV.p (PV.sc (Value.int IntKind.i64 0))]) []))))
    (.out (Out.ret (AV.tup [AV.p (PV.sc (Value.int IntKind.u32 0)), AV.p (PV.sc (Value.int IntKind.i64 0))]) []))))
theorem refCtz_tree (a : Int) : growF Tryd.prog tabEnv refCtzOrc 1000000 7 ([AV.p (PV.sc (Value.int IntKind.i64 104)), AV.p (PV.sc (Value.int IntKind.u32 a))]) [] refCtzSc = refCtzTree a := by kernel_rfl

/- refPop: 897 steps -/
def refPopOrc : Orc := orc c19 [] [] []
def refPopSc : Sc := .fin
def refPopTree (a : Int) : Tree :=
  (.call ⟨19, [AV.p (PV.sc (Value.int IntKind.u32 a)), AV.p (PV.sc (Value.int IntKind.i64 0))], [], AV.p (PV.sc (Value.int IntKind.i64 (bitI a 0))), []⟩
   (.call ⟨19, [AV.p (PV.sc (Value.int IntKind.u32 a)), AV.p (PV.sc (Value.int IntKind.i64 1))], [], AV.p (PV.sc (Value.int IntKind.i64 (bitI a 1))), []⟩
    (.call ⟨19, [AV.p (PV.sc (Value.int IntKind.u32 a)), AV.p (PV.sc (Value.int IntKind.i64 2))], [], AV.p (PV.sc (Value.int IntKind.i64 (bitI a 2))), []⟩
     (.call ⟨19, [AV.p (PV.sc (Value.int IntKind.u32 a)), AV.p (PV.sc (Value.int IntKind.i64 3))], [], AV.p (PV.sc (Value.int IntKind.i64 (bitI a 3))), []⟩
      (.call ⟨19, [AV.p (PV.sc (Value.int IntKind.u32 a)), AV.p (PV.sc (Value.int IntKind.i64 4))], [], AV.p (PV.sc (Value.int IntKind.i64 (bitI a 4))), []⟩
       (.call ⟨19, [AV.p (PV.sc (Value.int IntKind.u32 a)), AV.p (PV.sc (Value.int IntKind.i64 5))], [], AV.p (PV.sc (Value.int IntKind.i64 (bitI a 5))), []⟩
        (.call ⟨19, [AV.p (PV.sc (Value.int IntKind.u32 a)), AV.p (PV.sc (Value.int IntKind.i64 6))], [], AV.p (PV.sc (Value.int IntKind.i64 (bitI a 6))), []⟩
         (.call ⟨19, [AV.p (PV.sc (Value.int IntKind.u32 a)), AV.p (PV.sc (Value.int IntKind.i64 7))], [], AV.p (PV.sc (Value.int IntKind.i64 (bitI a 7))), []⟩
          (.call ⟨19, [AV.p (PV.sc (Value.int IntKind.u32 a)), AV.p (PV.sc (Value.int IntKind.i64 8))], [], AV.p (PV.sc (Value.int IntKind.i64 (bitI a 8))), []⟩
           (.call ⟨19, [AV.p (PV.sc (Value.int IntKind.u32 a)), AV.p (PV.sc (Value.int IntKind.i64 9))], [], AV.p (PV.sc (Value.int IntKind.i64 (bitI a 9))), []⟩
            (.call ⟨19, [AV.p (PV.sc (Value.int IntKind.u32 a)), AV.p (PV.sc (Value.int IntKind.i64 10))], [], AV.p (PV.sc (Value.int IntKind.i64 (bitI a 10))), []⟩
             (.call ⟨19, [AV.p (PV.sc (Value.int IntKind.u32 a)), AV.p (PV.sc (Value.int IntKind.i64 11))], [], AV.p (PV.sc (Value.int IntKind.i64 (bitI a 11))), []⟩
              (.call ⟨19, [AV.p (PV.sc (Value.int IntKind.u32 a)), AV.p (PV.sc (Value.int IntKind.i64 12))], [], AV.p (PV.sc (Value.int IntKind.i64 (bitI a 12))), []⟩
               (.call ⟨19, [AV.p (PV.sc (Value.int IntKind.u32 a)), AV.p (PV.sc (Value.int IntKind.i64 13))], [], AV.p (PV.sc (Value.int IntKind.i64 (bitI a 13))), []⟩
                (.call ⟨19, [AV.p (PV.sc (Value.int IntKind.u32 a)), AV.p (PV.sc (Value.int IntKind.i64 14))], [], AV.p (PV.sc (Value.int IntKind.i64 (bitI a 14))), []⟩
                 (.call ⟨19, [AV.p (PV.sc (Value.int IntKind.u32 a)), AV.p (PV.sc (Value.int IntKind.i64 15))], [], AV.p (PV.sc (Value.int IntKind.i64 (bitI a 15))), []⟩
                  (.call ⟨19, [AV.p (PV.sc (Value.int IntKind.u32 a)), AV.p (PV.sc (Value.int IntKind.i64 16))], [], AV.p (PV.sc (Value.int IntKind.i64 (bitI a 16))), []⟩
                   (.call ⟨19, [AV.p (PV.sc (Value.int IntKind.u32 a)), AV.p (PV.sc (Value.int IntKind.i64 17))], [], AV.p (PV.sc (Value.int IntKind.i64 (bitI a 17))), []⟩
                    (.call ⟨19, [AV.p (PV.sc (Value.int IntKind.u32 a)), AV.p (PV.sc (Value.int IntKind.i64 18))], [], AV.p (PV.sc (Value.int IntKind.i64 (bitI a 18))), []⟩
                     (.call ⟨19, [AV.p (PV.sc (Value.int IntKind.u32 a)), AV.p (PV.sc (Value.int IntKind.i64 19))], [], AV.p (PV.sc (Value.int IntKind.i64 (bitI a 19))), []⟩
                      (.call ⟨19, [AV.p (PV.sc (Value.int IntKind.u32 a)), AV.p (PV.sc (Value.int IntKind.i64 20))], [], AV.p (PV.sc (Value.int IntKind.i64 (bitI a 20))), []⟩
                       (.call ⟨19, [AV.p (PV.sc (Value.int IntKind.u32 a)), AV.p (PV.sc (Value.int IntKind.i64 21))], [], AV.p (PV.sc (Value.int IntKind.i64 (bitI a 21))), []⟩
                        (.call ⟨19, [AV.p (PV.sc (Value.int IntKind.u32 a)), AV.p (PV.sc (Value.int IntKind.i64 22))], [], AV.p (PV.sc (Value.int IntKind.i64 (bitI a 22))), []⟩
                         (.call ⟨19, [AV.p (PV.sc (Value.int IntKind.u32 a)), AV.p (PV.sc (Value.int IntKind.i64 23))], [], AV.p (PV.sc (Value.int IntKind.i64 (bitI a 23))), []⟩
                          (.call ⟨19, [AV.p (PV.sc (Value.int IntKind.u32 a)), AV.p (PV.sc (Value.int IntKind.i64 24))], [], AV.p (PV.sc (Value.int IntKind.i64 (bitI a 24))), []⟩
                           (.call ⟨19, [AV.p (PV.sc (Value.int IntKind.u32 a)), AV.p (PV.sc (Value.int IntKind.i64 25))], [], AV.p (PV.sc (Value.int IntKind.i64 (bitI a 25))), []⟩
                            (.call ⟨19, [AV.p (PV.sc (Value.int IntKind.u32 a)), AV.p (PV.sc (Value.int IntKind.i64 26))], [], AV.p (PV.sc (Value.int IntKind.i64 (bitI a 26))), []⟩
                             (.call ⟨19, [AV.p (PV.sc (Value.int IntKind.u32 a)), AV.p (PV.sc (Value.int IntKind.i64 27))], [], AV.p (PV.sc (Value.int IntKind.i64 (bitI a 27))), []⟩
                              (.call ⟨19, [AV.p (PV.sc (Value.int IntKind.u32 a)), AV.p (PV.sc (Value.int IntKind.i64 28))], [], AV.p (PV.sc (Value.int IntKind.i64 (bitI a 28))), []⟩
                               (.call ⟨19, [AV.p (PV.sc (Value.int IntKind.u32 a)), AV.p (PV.sc (Value.int IntKind.i64 29))], [], AV.p (PV.sc (Value.int IntKind.i64 (bitI a 29))), []⟩
                                (.call ⟨19, [AV.p (PV.sc (Value.int IntKind.u32 a)), AV.p (PV.sc (Value.int IntKind.i64 30))], [], AV.p (PV.sc (Value.int IntKind.i64 (bitI a 30))), []⟩
                                 (.call ⟨19, [AV.p (PV.sc (Value.int IntKind.u32 a)), AV.p (PV.sc (Value.int IntKind.i64 31))], [], AV.p (PV.sc (Value.int IntKind.i64 (bitI a 31))), []⟩
                                  (.out (Out.ret (AV.tup [AV.p (PV.sc (Value.int IntKind.u32 (IntKind.u32.wrap (IntKind.i64.wrap (IntKind.i64.wrap (IntKind.i64.wrap (IntKind.i64.wrap (IntKind.i64.wrap (IntKind.i64.wrap (IntKind.i64.wrap (IntKind.i64.wrap (IntKind.i64.wrap (IntKind.i64.wrap (IntKind.i64.wrap (IntKind.i64.wrap (IntKind.i64.wrap (IntKind.i64.wrap (IntKind.i64.wrap (IntKind.i64.wrap (IntKind.i64.wrap (IntKind.i64.wrap (IntKind.i64.wrap (IntKind.i64.wrap (IntKind.i64.wrap (IntKind.i64.wrap (IntKind.i64.wrap (IntKind.i64.wrap (IntKind.i64.wrap (IntKind.i64.wrap (IntKind.i64.wrap (IntKind.i64.wrap (IntKind.i64.wrap (IntKind.i64.wrap (IntKind.i64.wrap (IntKind.i64.wrap (0 + bitI a 0) + bitI a 1) + bitI a 2) + bitI a 3) + bitI a 4) + bitI a 5) + bitI a 6) + bitI a 7) + bitI a 8) + bitI a 9) + bitI a 10) + bitI a 11) + bitI a 12) + bitI a 13) + bitI a 14) + bitI a 15) + bitI a 16) + bitI a 17) + bitI a 18) + bitI a 19) + bitI a 20) + bitI a 21) + bitI a 22) + bitI a 23) + bitI a 24) + bitI a 25) + bitI a 26) + bitI a 27) + bitI a 28) + bitI a 29) + bitI a 30) + bitI a 31))))), AV.p (PV.sc (Value.int IntKind.i64 0))]) []))))))))))))))))))))))))))))))))))
theorem refPop_tree (a : Int) : growF Tryd.prog tabEnv refPopOrc 1000000 7 ([AV.p (PV.sc (Value.int IntKind.i64 105)), AV.p (PV.sc (Value.int IntKind.u32 a))]) [] refPopSc = refPopTree a := by kernel_rfl

/- numClz: 186 steps -/
def numClzOrc : Orc := orc c19 [] [(24, 0, 0), (24, 0, 1)] [(24, 8, 3)]
def numClzSc : Sc := .fin
def numClzTree (a : Int) : Tree :=
  (.test (Decidable.decide (a ≥ 65536))
   (.test (Decidable.decide (a.fdiv (2 ^ Min.min (Int.toNat 16) IntKind.u32.bits) ≥ 256))
    (.must (inB (IntKind.u8.wrap ((a.fdiv (2 ^ Min.min (Int.toNat 16) IntKind.u32.bits)).fdiv (2 ^ Min.min (Int.toNat 8) IntKind.u32.bits))) lenTab.length && Bool.true)
     (.out (Out.ret (AV.tup [AV.p (PV.sc (Value.int IntKind.u32 (IntKind.u32.wrap (IntKind.i64.wrap (32 - IntKind.i64.wrap (24 + IntKind.i64.wrap ↑(lenTab.getD (IntKind.u8.wrap ((a.fdiv (2 ^ Min.min (Int.toNat 16) IntKind.u32.bits)).fdiv (2 ^ Min.min (Int.toNat 8) IntKind.u32.bits))).toNat 0).toNat)))))), AV.p (PV.sc (Value.int IntKind.i64 0))]) [])))
    (.must (inB (IntKind.u8.wrap (a.fdiv (2 ^ Min.min (Int.toNat 16) IntKind.u32.bits))) lenTab.length && Bool.true)
     (.out (Out.ret (AV.tup [AV.p (PV.sc (Value.int IntKind.u32 (IntKind.u32.wrap (IntKind.i64.wrap (32 - IntKind.i64.wrap (16 + IntKind.i64.wrap ↑(lenTab.getD (IntKind.u8.wrap (a.fdiv (2 ^ Min.min (Int.toNat 16) IntKind.u32.bits))).toNat 0).toNat)))))), AV.p (PV.sc (Value.int IntKind.i64 0))]) []))))
   (.test (Decidable.decide (a ≥ 256))
    (.must (inB (IntKind.u8.wrap (a.fdiv (2 ^ Min.min (Int.toNat 8) IntKind.u32.bits))) lenTab.length && Bool.true)
     (.out (Out.ret (AV.tup [AV.p (PV.sc (Value.int IntKind.u32 (IntKind.u32.wrap (IntKind.i64.wrap (32 - IntKind.i64.wrap (8 + IntKind.i64.wrap ↑(lenTab.getD (IntKind.u8.wrap (a.fdiv (2 ^ Min.min (Int.toNat 8) IntKind.u32.bits))).toNat 0).toNat)))))), AV.p (PV.sc (Value.int IntKind.i64 0))]) [])))
    (.must (inB (IntKind.u8.wrap a) lenTab.length && Bool.true)
     (.out (Out.ret (AV.tup [AV.p (PV.sc (Value.int IntKind.u32 (IntKind.u32.wrap (IntKind.i64.wrap (32 - IntKind.i64.wrap (0 + IntKind.i64.wrap ↑(lenTab.getD (IntKind.u8.wrap a).toNat 0).toNat)))))), AV.p (PV.sc (Value.int IntKind.i64 0))]) [])))))
theorem numClz_tree (a : Int) : growF Tryd.prog tabEnv numClzOrc 1000000 6 ([AV.p (PV.sc (Value.int IntKind.i64 103)), AV.p (PV.sc (Value.int IntKind.u32 a))]) [] numClzSc = numClzTree a := by kernel_rfl

/- numPop: 53 steps -/
def numPopOrc : Orc := orc c19 [] [] [(17, 0, 0)]
def numPopSc : Sc := .fin
def numPopTree (a : Int) : Tree :=
  (.must (Bool.true && (Bool.true && (Bool.true && (Bool.true && (inB (a.fdiv (2 ^ Min.min (Int.toNat 24) IntKind.u32.bits)) popTab.length && (Bool.true && (Bool.true && (Bool.true && (Bool.true && (Bool.true && (Bool.true && (Bool.true && (inB (IntKind.u32.wrap ↑(BitVec.ofInt IntKind.u32.bits (a.fdiv (2 ^ Min.min (Int.toNat 16) IntKind.u32.bits)) &&& BitVec.ofInt IntKind.u32.bits 255).toNat) popTab.length && (Bool.true && (Bool.true && (Bool.true && (Bool.true && (Bool.true && (Bool.true && (Bool.true && (Bool.true && (Bool.true && (inB (IntKind.u32.wrap ↑(BitVec.ofInt IntKind.u32.bits (a.fdiv (2 ^ Min.min (Int.toNat 8) IntKind.u32.bits)) &&& BitVec.ofInt IntKind.u32.bits 255).toNat) popTab.length && (Bool.true && (Bool.true && (Bool.true && (Bool.true && (Bool.true && (Bool.true && (Bool.true && (inB (IntKind.u32.wrap ↑(BitVec.ofInt IntKind.u32.bits a &&& BitVec.ofInt IntKind.u32.bits 255).toNat) popTab.length && Bool.true)))))))))))))))))))))))))))))) && Bool.true)
   (.must true
    (.out (Out.ret (AV.tup [AV.p (PV.sc (Value.int IntKind.u32 (IntKind.u32.wrap (IntKind.i64.wrap (IntKind.u8.wrap (IntKind.u8.wrap (IntKind.u8.wrap (↑(popTab.getD (a.fdiv (2 ^ Min.min (Int.toNat 24) IntKind.u32.bits)).toNat 0).toNat + ↑(popTab.getD (IntKind.u32.wrap ↑(BitVec.ofInt IntKind.u32.bits (a.fdiv (2 ^ Min.min (Int.toNat 16) IntKind.u32.bits)) &&& BitVec.ofInt IntKind.u32.bits 255).toNat).toNat 0).toNat) + ↑(popTab.getD (IntKind.u32.wrap ↑(BitVec.ofInt IntKind.u32.bits (a.fdiv (2 ^ Min.min (Int.toNat 8) IntKind.u32.bits)) &&& BitVec.ofInt IntKind.u32.bits 255).toNat).toNat 0).toNat) + ↑(popTab.getD (IntKind.u32.wrap ↑(BitVec.ofInt IntKind.u32.bits a &&& BitVec.ofInt IntKind.u32.bits 255).toNat).toNat 0).toNat)))))), AV.p (PV.sc (Value.int IntKind.i64 0))]) []))))
theorem numPop_tree (a : Int) : growF Tryd.prog tabEnv numPopOrc 1000000 6 ([AV.p (PV.sc (Value.int IntKind.i64 105)), AV.p (PV.sc (Value.int IntKind.u32 a))]) [] numPopSc = numPopTree a := by kernel_rfl


def tzOrc (n : Nat) : Orc := { orc c19 [] [(16, 0, 0)] [] with shape := fun f r i => cond (isAt [(16, 4, 3)] f r i) (some fun _ => sI .u32 (2 ^ n)) none }
def tzTree (n : Nat) (a : Int) : Tree :=
  .test (a == 0) (.out (Out.ret (.p (.sc (.int .i64 32))) []))
    (.need (.p (.sc (.int .u32 (IntKind.u32.wrap ↑(BitVec.ofInt IntKind.u32.bits a &&& BitVec.ofInt IntKind.u32.bits (IntKind.u32.wrap (0 - a))).toNat))) = sI .u32 (2 ^ n))
      (.out (Out.ret (.p (.sc (.int .i64 (n : Int)))) [])))
theorem tz_tree0 (a : Int) : growF Tryd.prog tabEnv (tzOrc 0) 1000000 16 [.p (.sc (.int .u32 a))] [] .fin = tzTree 0 a := by kernel_rfl
theorem tz_tree1 (a : Int) : growF Tryd.prog tabEnv (tzOrc 1) 1000000 16 [.p (.sc (.int .u32 a))] [] .fin = tzTree 1 a := by kernel_rfl
theorem tz_tree2 (a : Int) : growF Tryd.prog tabEnv (tzOrc 2) 1000000 16 [.p (.sc (.int .u32 a))] [] .fin = tzTree 2 a := by kernel_rfl
theorem tz_tree3 (a : Int) : growF Tryd.prog tabEnv (tzOrc 3) 1000000 16 [.p (.sc (.int .u32 a))] [] .fin = tzTree 3 a := by kernel_rfl
theorem tz_tree4 (a : Int) : growF Tryd.prog tabEnv (tzOrc 4) 1000000 16 [.p (.sc (.int .u32 a))] [] .fin = tzTree 4 a := by kernel_rfl
theorem tz_tree5 (a : Int) : growF Tryd.prog tabEnv (tzOrc 5) 1000000 16 [.p (.sc (.int .u32 a))] [] .fin = tzTree 5 a := by kernel_rfl
theorem tz_tree6 (a : Int) : growF Tryd.prog tabEnv (tzOrc 6) 1000000 16 [.p (.sc (.int .u32 a))] [] .fin = tzTree 6 a := by kernel_rfl
theorem tz_tree7 (a : Int) : growF Tryd.prog tabEnv (tzOrc 7) 1000000 16 [.p (.sc (.int .u32 a))] [] .fin = tzTree 7 a := by kernel_rfl
theorem tz_tree8 (a : Int) : growF Tryd.prog tabEnv (tzOrc 8) 1000000 16 [.p (.sc (.int .u32 a))] [] .fin = tzTree 8 a := by kernel_rfl
theorem tz_tree9 (a : Int) : growF Tryd.prog tabEnv (tzOrc 9) 1000000 16 [.p (.sc (.int .u32 a))] [] .fin = tzTree 9 a := by kernel_rfl
theorem tz_tree10 (a : Int) : growF Tryd.prog tabEnv (tzOrc 10) 1000000 16 [.p (.sc (.int .u32 a))] [] .fin = tzTree 10 a := by kernel_rfl
theorem tz_tree11 (a : Int) : growF Tryd.prog tabEnv (tzOrc 11) 1000000 16 [.p (.sc (.int .u32 a))] [] .fin = tzTree 11 a := by kernel_rfl
theorem tz_tree12 (a : Int) : growF Tryd.prog tabEnv (tzOrc 12) 1000000 16 [.p (.sc (.int .u32 a))] [] .fin = tzTree 12 a := by kernel_rfl
theorem tz_tree13 (a : Int) : growF Tryd.prog tabEnv (tzOrc 13) 1000000 16 [.p (.sc (.int .u32 a))] [] .fin = tzTree 13 a := by kernel_rfl
theorem tz_tree14 (a : Int) : growF Tryd.prog tabEnv (tzOrc 14) 1000000 16 [.p (.sc (.int .u32 a))] [] .fin = tzTree 14 a := by kernel_rfl
theorem tz_tree15 (a : Int) : growF Tryd.prog tabEnv (tzOrc 15) 1000000 16 [.p (.sc (.int .u32 a))] [] .fin = tzTree 15 a := by kernel_rfl
theorem tz_tree16 (a : Int) : growF Tryd.prog tabEnv (tzOrc 16) 1000000 16 [.p (.sc (.int .u32 a))] [] .fin = tzTree 16 a := by kernel_rfl
theorem tz_tree17 (a : Int) : growF Tryd.prog tabEnv (tzOrc 17) 1000000 16 [.p (.sc (.int .u32 a))] [] .fin = tzTree 17 a := by kernel_rfl
theorem tz_tree18 (a : Int) : growF Tryd.prog tabEnv (tzOrc 18) 1000000 16 [.p (.sc (.int .u32 a))] [] .fin = tzTree 18 a := by kernel_rfl
theorem tz_tree19 (a : Int) : growF Tryd.prog tabEnv (tzOrc 19) 1000000 16 [.p (.sc (.int .u32 a))] [] .fin = tzTree 19 a := by kernel_rfl
theorem tz_tree20 (a : Int) : growF Tryd.prog tabEnv (tzOrc 20) 1000000 16 [.p (.sc (.int .u32 a))] [] .fin = tzTree 20 a := by kernel_rfl
theorem tz_tree21 (a : Int) : growF Tryd.prog tabEnv (tzOrc 21) 1000000 16 [.p (.sc (.int .u32 a))] [] .fin = tzTree 21 a := by kernel_rfl
theorem tz_tree22 (a : Int) : growF Tryd.prog tabEnv (tzOrc 22) 1000000 16 [.p (.sc (.int .u32 a))] [] .fin = tzTree 22 a := by kernel_rfl
theorem tz_tree23 (a : Int) : growF Tryd.prog tabEnv (tzOrc 23) 1000000 16 [.p (.sc (.int .u32 a))] [] .fin = tzTree 23 a := by kernel_rfl
theorem tz_tree24 (a : Int) : growF Tryd.prog tabEnv (tzOrc 24) 1000000 16 [.p (.sc (.int .u32 a))] [] .fin = tzTree 24 a := by kernel_rfl
theorem tz_tree25 (a : Int) : growF Tryd.prog tabEnv (tzOrc 25) 1000000 16 [.p (.sc (.int .u32 a))] [] .fin = tzTree 25 a := by kernel_rfl
theorem tz_tree26 (a : Int) : growF Tryd.prog tabEnv (tzOrc 26) 1000000 16 [.p (.sc (.int .u32 a))] [] .fin = tzTree 26 a := by kernel_rfl
theorem tz_tree27 (a : Int) : growF Tryd.prog tabEnv (tzOrc 27) 1000000 16 [.p (.sc (.int .u32 a))] [] .fin = tzTree 27 a := by kernel_rfl
theorem tz_tree28 (a : Int) : growF Tryd.prog tabEnv (tzOrc 28) 1000000 16 [.p (.sc (.int .u32 a))] [] .fin = tzTree 28 a := by kernel_rfl
theorem tz_tree29 (a : Int) : growF Tryd.prog tabEnv (tzOrc 29) 1000000 16 [.p (.sc (.int .u32 a))] [] .fin = tzTree 29 a := by kernel_rfl
theorem tz_tree30 (a : Int) : growF Tryd.prog tabEnv (tzOrc 30) 1000000 16 [.p (.sc (.int .u32 a))] [] .fin = tzTree 30 a := by kernel_rfl
theorem tz_tree31 (a : Int) : growF Tryd.prog tabEnv (tzOrc 31) 1000000 16 [.p (.sc (.int .u32 a))] [] .fin = tzTree 31 a := by kernel_rfl

end Go.Proofs.YthllpmannpolcaaDoor.N
