/-
  NumOrders: its tree (printed by a program of mine), and that it is right.
-/
import Derived.Test.YthllpmannpolcaaNumCmp
namespace Go.Proofs.Ythllpmannpolcaa.N
open Go Go.Am

/- orders: 949 steps -/
def ordersOrc : Orc := orc ordCall [] [(5, 5, 9), (5, 5, 19), (5, 5, 29), (5, 6, 6), (5, 6, 10), (5, 6, 13), (5, 6, 23)] []
def ordersSc : Sc := (.fork (.fork (.fork (.fork (.fork (.fork .fin (.lit .fin)) (.lit (.lit .fin))) (.lit (.lit (.lit .fin)))) (.fork (.fork (.lit (.lit .fin)) (.lit (.lit .fin))) (.lit (.lit (.lit .fin))))) (.lit (.fork (.fork (.lit (.lit .fin)) (.lit (.lit .fin))) (.lit (.lit (.lit .fin)))))) (.lit (.lit (.fork (.fork (.lit (.lit .fin)) (.lit (.lit .fin))) (.lit (.lit (.lit .fin)))))))
def ordersTree (a : Int) (b : Int) : Tree :=
  (.call ⟨9, [], [], AV.p (PV.sc (Value.bool Bool.true)), []⟩
   (.call ⟨10, [AV.p (PV.sc (Value.int IntKind.i64 73)), AV.p (PV.sc (Value.int IntKind.u32 a)), AV.p (PV.sc (Value.int IntKind.u32 b))], [], AV.p (PV.sc (Value.int IntKind.u32 (cmpN 73 a b))), []⟩
    (.call ⟨10, [AV.p (PV.sc (Value.int IntKind.i64 70)), AV.p (PV.sc (Value.int IntKind.u32 a)), AV.p (PV.sc (Value.int IntKind.u32 b))], [], AV.p (PV.sc (Value.int IntKind.u32 (cmpN 70 a b))), []⟩
     (.call ⟨10, [AV.p (PV.sc (Value.int IntKind.i64 75)), AV.p (PV.sc (Value.int IntKind.u32 a)), AV.p (PV.sc (Value.int IntKind.u32 b))], [], AV.p (PV.sc (Value.int IntKind.u32 (cmpN 75 a b))), []⟩
      (.call ⟨10, [AV.p (PV.sc (Value.int IntKind.i64 72)), AV.p (PV.sc (Value.int IntKind.u32 a)), AV.p (PV.sc (Value.int IntKind.u32 b))], [], AV.p (PV.sc (Value.int IntKind.u32 (cmpN 72 a b))), []⟩
       (.call ⟨10, [AV.p (PV.sc (Value.int IntKind.i64 70)), AV.p (PV.sc (Value.int IntKind.u32 a)), AV.p (PV.sc (Value.int IntKind.u32 b))], [], AV.p (PV.sc (Value.int IntKind.u32 (cmpN 70 a b))), []⟩
        (.call ⟨10, [AV.p (PV.sc (Value.int IntKind.i64 74)), AV.p (PV.sc (Value.int IntKind.u32 a)), AV.p (PV.sc (Value.int IntKind.u32 b))], [], AV.p (PV.sc (Value.int IntKind.u32 (cmpN 74 a b))), []⟩
         (.call ⟨10, [AV.p (PV.sc (Value.int IntKind.i64 77)), AV.p (PV.sc (Value.int IntKind.u32 a)), AV.p (PV.sc (Value.int IntKind.u32 b))], [], AV.p (PV.sc (Value.int IntKind.u32 (cmpN 77 a b))), []⟩
          (.call ⟨10, [AV.p (PV.sc (Value.int IntKind.i64 75)), AV.p (PV.sc (Value.int IntKind.u32 a)), AV.p (PV.sc (Value.int IntKind.u32 b))], [], AV.p (PV.sc (Value.int IntKind.u32 (cmpN 75 a b))), []⟩
           (.test (IntKind.u32.wrap (cmpN 77 a b + cmpN 75 a b) == 1)
            (.call ⟨10, [AV.p (PV.sc (Value.int IntKind.i64 79)), AV.p (PV.sc (Value.int IntKind.u32 a)), AV.p (PV.sc (Value.int IntKind.u32 b))], [], AV.p (PV.sc (Value.int IntKind.u32 (cmpN 79 a b))), []⟩
             (.call ⟨10, [AV.p (PV.sc (Value.int IntKind.i64 73)), AV.p (PV.sc (Value.int IntKind.u32 a)), AV.p (PV.sc (Value.int IntKind.u32 b))], [], AV.p (PV.sc (Value.int IntKind.u32 (cmpN 73 a b))), []⟩
              (.test (IntKind.u32.wrap (cmpN 79 a b + cmpN 73 a b) == 1)
               (.call ⟨10, [AV.p (PV.sc (Value.int IntKind.i64 76)), AV.p (PV.sc (Value.int IntKind.u32 a)), AV.p (PV.sc (Value.int IntKind.u32 b))], [], AV.p (PV.sc (Value.int IntKind.u32 (cmpN 76 a b))), []⟩
                (.call ⟨10, [AV.p (PV.sc (Value.int IntKind.i64 74)), AV.p (PV.sc (Value.int IntKind.u32 a)), AV.p (PV.sc (Value.int IntKind.u32 b))], [], AV.p (PV.sc (Value.int IntKind.u32 (cmpN 74 a b))), []⟩
                 (.test (IntKind.u32.wrap (cmpN 76 a b + cmpN 74 a b) == 1)
                  (.call ⟨10, [AV.p (PV.sc (Value.int IntKind.i64 78)), AV.p (PV.sc (Value.int IntKind.u32 a)), AV.p (PV.sc (Value.int IntKind.u32 b))], [], AV.p (PV.sc (Value.int IntKind.u32 (cmpN 78 a b))), []⟩
                   (.call ⟨10, [AV.p (PV.sc (Value.int IntKind.i64 72)), AV.p (PV.sc (Value.int IntKind.u32 a)), AV.p (PV.sc (Value.int IntKind.u32 b))], [], AV.p (PV.sc (Value.int IntKind.u32 (cmpN 72 a b))), []⟩
                    (.test (IntKind.u32.wrap (IntKind.u32.wrap (cmpN 73 a b + cmpN 70 a b) + cmpN 75 a b) == 1)
                     (.test (IntKind.u32.wrap (IntKind.u32.wrap (cmpN 72 a b + cmpN 70 a b) + cmpN 74 a b) == 1)
                      (.test (IntKind.u32.wrap (cmpN 78 a b + cmpN 72 a b) == 1)
                       (.call ⟨10, [AV.p (PV.sc (Value.int IntKind.i64 71)), AV.p (PV.sc (Value.int IntKind.u32 a)), AV.p (PV.sc (Value.int IntKind.u32 b))], [], AV.p (PV.sc (Value.int IntKind.u32 (cmpN 71 a b))), []⟩
                        (.call ⟨10, [AV.p (PV.sc (Value.int IntKind.i64 70)), AV.p (PV.sc (Value.int IntKind.u32 a)), AV.p (PV.sc (Value.int IntKind.u32 b))], [], AV.p (PV.sc (Value.int IntKind.u32 (cmpN 70 a b))), []⟩
                         (.test (IntKind.u32.wrap (cmpN 71 a b + cmpN 70 a b) == 1)
                          (.call ⟨10, [AV.p (PV.sc (Value.int IntKind.i64 72)), AV.p (PV.sc (Value.int IntKind.u32 a)), AV.p (PV.sc (Value.int IntKind.u32 b))], [], AV.p (PV.sc (Value.int IntKind.u32 (cmpN 72 a b))), []⟩
                           (.out (Out.ret (AV.p (PV.sc (Value.bool ((cmpN 72 a b == 1) == Decidable.decide (IntKind.i64.wrap (IntKind.i32.wrap a) < IntKind.i64.wrap (IntKind.i32.wrap b)))))) [])))
                          (.out (Out.ret (AV.p (PV.sc (Value.bool Bool.false))) [])))))
                       (.out (Out.ret (AV.p (PV.sc (Value.bool Bool.false))) [])))
                      (.out (Out.ret (AV.p (PV.sc (Value.bool Bool.false))) [])))
                     (.out (Out.ret (AV.p (PV.sc (Value.bool Bool.false))) [])))))
                  (.test (IntKind.u32.wrap (IntKind.u32.wrap (cmpN 73 a b + cmpN 70 a b) + cmpN 75 a b) == 1)
                   (.test (IntKind.u32.wrap (IntKind.u32.wrap (cmpN 72 a b + cmpN 70 a b) + cmpN 74 a b) == 1)
                    (.out (Out.ret (AV.p (PV.sc (Value.bool Bool.false))) []))
                    (.out (Out.ret (AV.p (PV.sc (Value.bool Bool.false))) [])))
                   (.out (Out.ret (AV.p (PV.sc (Value.bool Bool.false))) []))))))
               (.test (IntKind.u32.wrap (IntKind.u32.wrap (cmpN 73 a b + cmpN 70 a b) + cmpN 75 a b) == 1)
                (.test (IntKind.u32.wrap (IntKind.u32.wrap (cmpN 72 a b + cmpN 70 a b) + cmpN 74 a b) == 1)
                 (.out (Out.ret (AV.p (PV.sc (Value.bool Bool.false))) []))
                 (.out (Out.ret (AV.p (PV.sc (Value.bool Bool.false))) [])))
                (.out (Out.ret (AV.p (PV.sc (Value.bool Bool.false))) []))))))
            (.test (IntKind.u32.wrap (IntKind.u32.wrap (cmpN 73 a b + cmpN 70 a b) + cmpN 75 a b) == 1)
             (.test (IntKind.u32.wrap (IntKind.u32.wrap (cmpN 72 a b + cmpN 70 a b) + cmpN 74 a b) == 1)
              (.out (Out.ret (AV.p (PV.sc (Value.bool Bool.false))) []))
              (.out (Out.ret (AV.p (PV.sc (Value.bool Bool.false))) [])))
             (.out (Out.ret (AV.p (PV.sc (Value.bool Bool.false))) [])))))))))))))
theorem orders_tree (a : Int) (b : Int) : growF Try.prog noGlob ordersOrc 1000000 5 ([AV.p (PV.sc (Value.int IntKind.u32 a)), AV.p (PV.sc (Value.int IntKind.u32 b))]) [] ordersSc = ordersTree a b := by kernel_rfl


theorem orders_ok {a b : Int} (h : 0 ≤ a ∧ a ≤ 4294967295) (h' : 0 ≤ b ∧ b ≤ 4294967295) : (ordersTree a b).ok Try.prog noGlob (.ret (sB true) []) := by
  have hx : IntKind.i32.wrap a = IntKind.i32.wrap b ↔ a = b := by rw [wI32, wI32]; omega
  have e1 : IntKind.u32.wrap (cmpN 77 a b + cmpN 75 a b) = 1 := by simp [cmpN, wU32]; split <;> split <;> omega
  have e2 : IntKind.u32.wrap (cmpN 79 a b + cmpN 73 a b) = 1 := by simp [cmpN, wU32]; split <;> split <;> omega
  have e3 : IntKind.u32.wrap (cmpN 76 a b + cmpN 74 a b) = 1 := by simp [cmpN, wU32]; split <;> split <;> omega
  have e4 : IntKind.u32.wrap (cmpN 78 a b + cmpN 72 a b) = 1 := by simp [cmpN, wU32]; split <;> split <;> omega
  have e5 : IntKind.u32.wrap (IntKind.u32.wrap (cmpN 73 a b + cmpN 70 a b) + cmpN 75 a b) = 1 := by simp [cmpN, wU32]; split <;> split <;> split <;> omega
  have e6 : IntKind.u32.wrap (IntKind.u32.wrap (cmpN 72 a b + cmpN 70 a b) + cmpN 74 a b) = 1 := by simp [cmpN, wU32]; split <;> split <;> split <;> omega
  have e7 : IntKind.u32.wrap (cmpN 71 a b + cmpN 70 a b) = 1 := by simp [cmpN, wU32]; split <;> omega
  have e8 : ((cmpN 72 a b == 1) == decide (IntKind.i64.wrap (IntKind.i32.wrap a) < IntKind.i64.wrap (IntKind.i32.wrap b))) = true := by
    rw [i64In (n := IntKind.i32.wrap a) (by rw [wI32]; omega) (by rw [wI32]; omega), i64In (n := IntKind.i32.wrap b) (by rw [wI32]; omega) (by rw [wI32]; omega)]
    simp [cmpN]
    split <;> simp_all
  simp only [ordersTree, Tree.ok, e1, e2, e3, e4, e5, e6, e7, e8, awake, twoEq_does, twoNe_does, twoLtS_does, twoLtU_does, twoGtS_does, twoGtU_does, twoLeS_does, twoLeU_does, twoGeS_does, twoGeU_does, sB]
  simp

theorem orders_does {a b : Int} (h : 0 ≤ a ∧ a ≤ 4294967295) (h' : 0 ≤ b ∧ b ≤ 4294967295) : Does Try.prog noGlob 5 [.p (.sc (.int .u32 a)), .p (.sc (.int .u32 b))] [] (sB true) [] :=
  does_of_tree names (orders_tree a b) (orders_ok h h')

end Go.Proofs.Ythllpmannpolcaa.N
