/-
  One instruction: whether it may be, as the document says.
-/
import Derived.Test.YtjjloibfhgofcaaDoorICG
namespace Go.Proofs.YtjjloibfhgofcaaDoor.N
open Go Go.Am

def rigC (_op _r _a _b _nn : Int) (_tg : List Int) (_ll _le : List Ins) (s : ByteArray) (n : Int) (st li wh : Bool) (f : FuncId) (_ : List AV) (_ : Mem) : Option (AV × Mem) := cond (Nat.beq f 79) (some (.p (.sc (.string s)), [])) (cond (Nat.beq f 78) (some (.tup [sI .u32 n, sB st], [])) (cond (Nat.beq f 80) (some (sB li, [])) (cond (Nat.beq f 81) (some (sB wh, [])) none)))
/- rig: 4200 steps -/
noncomputable def rigOrc (op : Int) (r : Int) (a : Int) (b : Int) (nn : Int) (tg : List Int) (ll : List Ins) (le : List Ins) (s : ByteArray) (n : Int) (st : Bool) (li : Bool) (wh : Bool) : Orc := orcL (rigC op r a b nn tg ll le s n st li wh) noLed [] [(64, 3, 5), (64, 3, 10), (64, 3, 15), (64, 3, 19), (64, 3, 26), (64, 3, 31), (64, 3, 38), (64, 3, 43), (64, 0, 0), (64, 5, 5), (64, 5, 10), (64, 5, 14), (64, 5, 20), (64, 5, 24), (64, 0, 1), (64, 7, 4), (64, 7, 7), (64, 7, 12)] []
def rigSc : Sc := (.fork (.lit (.lit (.lit (.lit (.lit .fin))))) (.fork (.lit (.lit (.lit (.lit .fin)))) (.fork (.lit (.lit (.lit .fin))) (.fork (.fork (.lit (.lit .fin)) (.fork (.no (.fork (.fork .fin (.fork (.yes (.lit (.lit .fin))) (.lit (.fork (.yes (.lit .fin)) (.lit (.fork (.fork .fin (.fork (.lit (.lit .fin)) (.yes (.lit .fin)))) (.lit (.fork (.lit (.lit .fin)) (.fork (.lit .fin) .fin))))))))) (.lit (.fork (.fork (.lit (.lit .fin)) (.fork (.yes (.lit .fin)) (.lit (.fork (.fork .fin (.fork (.lit (.lit .fin)) (.yes (.lit .fin)))) (.lit (.fork (.lit (.lit .fin)) (.fork (.lit .fin) .fin))))))) (.lit (.fork (.fork (.lit .fin) (.fork (.fork .fin (.fork (.lit (.lit .fin)) (.yes (.lit .fin)))) (.lit (.fork (.lit (.lit .fin)) (.fork (.lit .fin) .fin))))) (.lit (.fork (.fork .fin (.fork (.lit (.lit .fin)) (.yes (.lit .fin)))) (.lit (.fork (.lit (.lit .fin)) (.fork (.lit .fin) .fin))))))))))) (.lit (.fork (.fork .fin (.fork (.yes (.lit (.lit .fin))) (.lit (.fork (.yes (.lit .fin)) (.lit (.fork (.fork .fin (.fork (.lit (.lit .fin)) (.yes (.lit .fin)))) (.lit (.fork (.lit (.lit .fin)) (.fork (.lit .fin) .fin))))))))) (.lit (.fork (.fork (.lit (.lit .fin)) (.fork (.yes (.lit .fin)) (.lit (.fork (.fork .fin (.fork (.lit (.lit .fin)) (.yes (.lit .fin)))) (.lit (.fork (.lit (.lit .fin)) (.fork (.lit .fin) .fin))))))) (.lit (.fork (.fork (.lit .fin) (.fork (.fork .fin (.fork (.lit (.lit .fin)) (.yes (.lit .fin)))) (.lit (.fork (.lit (.lit .fin)) (.fork (.lit .fin) .fin))))) (.lit (.fork (.fork .fin (.fork (.lit (.lit .fin)) (.yes (.lit .fin)))) (.lit (.fork (.lit (.lit .fin)) (.fork (.lit .fin) .fin))))))))))))) (.lit (.fork (.fork (.lit .fin) (.fork (.fork .fin (.fork (.yes (.lit (.lit .fin))) (.lit (.fork (.yes (.lit .fin)) (.lit (.fork (.fork .fin (.fork (.lit (.lit .fin)) (.yes (.lit .fin)))) (.lit (.fork (.lit (.lit .fin)) (.fork (.lit .fin) .fin))))))))) (.lit (.fork (.fork (.lit (.lit .fin)) (.fork (.yes (.lit .fin)) (.lit (.fork (.fork .fin (.fork (.lit (.lit .fin)) (.yes (.lit .fin)))) (.lit (.fork (.lit (.lit .fin)) (.fork (.lit .fin) .fin))))))) (.lit (.fork (.fork (.lit .fin) (.fork (.fork .fin (.fork (.lit (.lit .fin)) (.yes (.lit .fin)))) (.lit (.fork (.lit (.lit .fin)) (.fork (.lit .fin) .fin))))) (.lit (.fork (.fork .fin (.fork (.lit (.lit .fin)) (.yes (.lit .fin)))) (.lit (.fork (.lit (.lit .fin)) (.fork (.lit .fin) .fin))))))))))) (.lit (.fork (.fork .fin (.fork (.yes (.lit (.lit .fin))) (.lit (.fork (.yes (.lit .fin)) (.lit (.fork (.fork .fin (.fork (.lit (.lit .fin)) (.yes (.lit .fin)))) (.lit (.fork (.lit (.lit .fin)) (.fork (.lit .fin) .fin))))))))) (.lit (.fork (.fork (.lit (.lit .fin)) (.fork (.yes (.lit .fin)) (.lit (.fork (.fork .fin (.fork (.lit (.lit .fin)) (.yes (.lit .fin)))) (.lit (.fork (.lit (.lit .fin)) (.fork (.lit .fin) .fin))))))) (.lit (.fork (.fork (.lit .fin) (.fork (.fork .fin (.fork (.lit (.lit .fin)) (.yes (.lit .fin)))) (.lit (.fork (.lit (.lit .fin)) (.fork (.lit .fin) .fin))))) (.lit (.fork (.fork .fin (.fork (.lit (.lit .fin)) (.yes (.lit .fin)))) (.lit (.fork (.lit (.lit .fin)) (.fork (.lit .fin) .fin)))))))))))))))))
noncomputable def rigTree (op : Int) (r : Int) (a : Int) (b : Int) (nn : Int) (tg : List Int) (ll : List Ins) (le : List Ins) (s : ByteArray) (n : Int) (st : Bool) (li : Bool) (wh : Bool) : Tree :=
  (.call ⟨78, [AV.p (PV.sc (Value.int IntKind.i64 op))], [], AV.tup [AV.p (PV.sc (Value.int IntKind.u32 n)), AV.p (PV.sc (Value.bool st))], []⟩
   (.call ⟨79, [AV.p (PV.sc (Value.int IntKind.i64 op))], [], AV.p (PV.sc (Value.string s)), []⟩
    (.test (s.data.toList == (ByteArray.mk #[]).data.toList)
     (.out (Out.ret (AV.p (PV.sc (Value.bool false))) []))
     (.test (decide (r < 0))
      (.out (Out.ret (AV.p (PV.sc (Value.bool false))) []))
      (.test (decide (r > 1))
       (.out (Out.ret (AV.p (PV.sc (Value.bool false))) []))
       (.test (decide (r > 0))
        (.call ⟨80, [AV.p (PV.sc (Value.int IntKind.i64 op))], [], AV.p (PV.sc (Value.bool li)), []⟩
         (.test (!li)
          (.out (Out.ret (AV.p (PV.sc (Value.bool false))) []))
          (.test (decide ((↑ll.length : Int) > 0))
           (.call ⟨80, [AV.p (PV.sc (Value.int IntKind.i64 op))], [], AV.p (PV.sc (Value.bool li)), []⟩
            (.must (!(!li))
             (.test (decide ((↑le.length : Int) > 0))
              (.test (op != 4)
               (.out (Out.ret (AV.p (PV.sc (Value.bool false))) []))
               (.test (decide ((↑tg.length : Int) > 0))
                (.must (op != 14)
                 (.out (Out.ret (AV.p (PV.sc (Value.bool false))) [])))
                (.test (nn != 0)
                 (.must (op != 65)
                  (.out (Out.ret (AV.p (PV.sc (Value.bool false))) [])))
                 (.test (b != 0)
                  (.test (!st)
                   (.out (Out.ret (AV.p (PV.sc (Value.bool false))) []))
                   (.test (a == 0)
                    (.out (Out.ret (AV.p (PV.sc (Value.bool true))) []))
                    (.must (st)
                     (.out (Out.ret (AV.p (PV.sc (Value.bool true))) [])))))
                  (.test (a == 0)
                   (.out (Out.ret (AV.p (PV.sc (Value.bool true))) []))
                   (.test (st)
                    (.out (Out.ret (AV.p (PV.sc (Value.bool true))) []))
                    (.call ⟨81, [AV.p (PV.sc (Value.int IntKind.i64 op))], [], AV.p (PV.sc (Value.bool wh)), []⟩
                     (.test (wh)
                      (.out (Out.ret (AV.p (PV.sc (Value.bool true))) []))
                      (.out (Out.ret (AV.p (PV.sc (Value.bool (op == 14)))) []))))))))))
              (.test (decide ((↑tg.length : Int) > 0))
               (.test (op != 14)
                (.out (Out.ret (AV.p (PV.sc (Value.bool false))) []))
                (.test (nn != 0)
                 (.must (op != 65)
                  (.out (Out.ret (AV.p (PV.sc (Value.bool false))) [])))
                 (.test (b != 0)
                  (.test (!st)
                   (.out (Out.ret (AV.p (PV.sc (Value.bool false))) []))
                   (.test (a == 0)
                    (.out (Out.ret (AV.p (PV.sc (Value.bool true))) []))
                    (.must (st)
                     (.out (Out.ret (AV.p (PV.sc (Value.bool true))) [])))))
                  (.test (a == 0)
                   (.out (Out.ret (AV.p (PV.sc (Value.bool true))) []))
                   (.test (st)
                    (.out (Out.ret (AV.p (PV.sc (Value.bool true))) []))
                    (.call ⟨81, [AV.p (PV.sc (Value.int IntKind.i64 op))], [], AV.p (PV.sc (Value.bool wh)), []⟩
                     (.test (wh)
                      (.out (Out.ret (AV.p (PV.sc (Value.bool true))) []))
                      (.out (Out.ret (AV.p (PV.sc (Value.bool (op == 14)))) [])))))))))
               (.test (nn != 0)
                (.test (op != 65)
                 (.out (Out.ret (AV.p (PV.sc (Value.bool false))) []))
                 (.test (b != 0)
                  (.test (!st)
                   (.out (Out.ret (AV.p (PV.sc (Value.bool false))) []))
                   (.test (a == 0)
                    (.out (Out.ret (AV.p (PV.sc (Value.bool true))) []))
                    (.must (st)
                     (.out (Out.ret (AV.p (PV.sc (Value.bool true))) [])))))
                  (.test (a == 0)
                   (.out (Out.ret (AV.p (PV.sc (Value.bool true))) []))
                   (.test (st)
                    (.out (Out.ret (AV.p (PV.sc (Value.bool true))) []))
                    (.call ⟨81, [AV.p (PV.sc (Value.int IntKind.i64 op))], [], AV.p (PV.sc (Value.bool wh)), []⟩
                     (.test (wh)
                      (.out (Out.ret (AV.p (PV.sc (Value.bool true))) []))
                      (.out (Out.ret (AV.p (PV.sc (Value.bool (op == 14)))) []))))))))
                (.test (b != 0)
                 (.test (!st)
                  (.out (Out.ret (AV.p (PV.sc (Value.bool false))) []))
                  (.test (a == 0)
                   (.out (Out.ret (AV.p (PV.sc (Value.bool true))) []))
                   (.must (st)
                    (.out (Out.ret (AV.p (PV.sc (Value.bool true))) [])))))
                 (.test (a == 0)
                  (.out (Out.ret (AV.p (PV.sc (Value.bool true))) []))
                  (.test (st)
                   (.out (Out.ret (AV.p (PV.sc (Value.bool true))) []))
                   (.call ⟨81, [AV.p (PV.sc (Value.int IntKind.i64 op))], [], AV.p (PV.sc (Value.bool wh)), []⟩
                    (.test (wh)
                     (.out (Out.ret (AV.p (PV.sc (Value.bool true))) []))
                     (.out (Out.ret (AV.p (PV.sc (Value.bool (op == 14)))) []))))))))))))
           (.test (decide ((↑le.length : Int) > 0))
            (.test (op != 4)
             (.out (Out.ret (AV.p (PV.sc (Value.bool false))) []))
             (.test (decide ((↑tg.length : Int) > 0))
              (.must (op != 14)
               (.out (Out.ret (AV.p (PV.sc (Value.bool false))) [])))
              (.test (nn != 0)
               (.must (op != 65)
                (.out (Out.ret (AV.p (PV.sc (Value.bool false))) [])))
               (.test (b != 0)
                (.test (!st)
                 (.out (Out.ret (AV.p (PV.sc (Value.bool false))) []))
                 (.test (a == 0)
                  (.out (Out.ret (AV.p (PV.sc (Value.bool true))) []))
                  (.must (st)
                   (.out (Out.ret (AV.p (PV.sc (Value.bool true))) [])))))
                (.test (a == 0)
                 (.out (Out.ret (AV.p (PV.sc (Value.bool true))) []))
                 (.test (st)
                  (.out (Out.ret (AV.p (PV.sc (Value.bool true))) []))
                  (.call ⟨81, [AV.p (PV.sc (Value.int IntKind.i64 op))], [], AV.p (PV.sc (Value.bool wh)), []⟩
                   (.test (wh)
                    (.out (Out.ret (AV.p (PV.sc (Value.bool true))) []))
                    (.out (Out.ret (AV.p (PV.sc (Value.bool (op == 14)))) []))))))))))
            (.test (decide ((↑tg.length : Int) > 0))
             (.test (op != 14)
              (.out (Out.ret (AV.p (PV.sc (Value.bool false))) []))
              (.test (nn != 0)
               (.must (op != 65)
                (.out (Out.ret (AV.p (PV.sc (Value.bool false))) [])))
               (.test (b != 0)
                (.test (!st)
                 (.out (Out.ret (AV.p (PV.sc (Value.bool false))) []))
                 (.test (a == 0)
                  (.out (Out.ret (AV.p (PV.sc (Value.bool true))) []))
                  (.must (st)
                   (.out (Out.ret (AV.p (PV.sc (Value.bool true))) [])))))
                (.test (a == 0)
                 (.out (Out.ret (AV.p (PV.sc (Value.bool true))) []))
                 (.test (st)
                  (.out (Out.ret (AV.p (PV.sc (Value.bool true))) []))
                  (.call ⟨81, [AV.p (PV.sc (Value.int IntKind.i64 op))], [], AV.p (PV.sc (Value.bool wh)), []⟩
                   (.test (wh)
                    (.out (Out.ret (AV.p (PV.sc (Value.bool true))) []))
                    (.out (Out.ret (AV.p (PV.sc (Value.bool (op == 14)))) [])))))))))
             (.test (nn != 0)
              (.test (op != 65)
               (.out (Out.ret (AV.p (PV.sc (Value.bool false))) []))
               (.test (b != 0)
                (.test (!st)
                 (.out (Out.ret (AV.p (PV.sc (Value.bool false))) []))
                 (.test (a == 0)
                  (.out (Out.ret (AV.p (PV.sc (Value.bool true))) []))
                  (.must (st)
                   (.out (Out.ret (AV.p (PV.sc (Value.bool true))) [])))))
                (.test (a == 0)
                 (.out (Out.ret (AV.p (PV.sc (Value.bool true))) []))
                 (.test (st)
                  (.out (Out.ret (AV.p (PV.sc (Value.bool true))) []))
                  (.call ⟨81, [AV.p (PV.sc (Value.int IntKind.i64 op))], [], AV.p (PV.sc (Value.bool wh)), []⟩
                   (.test (wh)
                    (.out (Out.ret (AV.p (PV.sc (Value.bool true))) []))
                    (.out (Out.ret (AV.p (PV.sc (Value.bool (op == 14)))) []))))))))
              (.test (b != 0)
               (.test (!st)
                (.out (Out.ret (AV.p (PV.sc (Value.bool false))) []))
                (.test (a == 0)
                 (.out (Out.ret (AV.p (PV.sc (Value.bool true))) []))
                 (.must (st)
                  (.out (Out.ret (AV.p (PV.sc (Value.bool true))) [])))))
               (.test (a == 0)
                (.out (Out.ret (AV.p (PV.sc (Value.bool true))) []))
                (.test (st)
                 (.out (Out.ret (AV.p (PV.sc (Value.bool true))) []))
                 (.call ⟨81, [AV.p (PV.sc (Value.int IntKind.i64 op))], [], AV.p (PV.sc (Value.bool wh)), []⟩
                  (.test (wh)
                   (.out (Out.ret (AV.p (PV.sc (Value.bool true))) []))
                   (.out (Out.ret (AV.p (PV.sc (Value.bool (op == 14)))) [])))))))))))))
        (.test (decide ((↑ll.length : Int) > 0))
         (.call ⟨80, [AV.p (PV.sc (Value.int IntKind.i64 op))], [], AV.p (PV.sc (Value.bool li)), []⟩
          (.test (!li)
           (.out (Out.ret (AV.p (PV.sc (Value.bool false))) []))
           (.test (decide ((↑le.length : Int) > 0))
            (.test (op != 4)
             (.out (Out.ret (AV.p (PV.sc (Value.bool false))) []))
             (.test (decide ((↑tg.length : Int) > 0))
              (.must (op != 14)
               (.out (Out.ret (AV.p (PV.sc (Value.bool false))) [])))
              (.test (nn != 0)
               (.must (op != 65)
                (.out (Out.ret (AV.p (PV.sc (Value.bool false))) [])))
               (.test (b != 0)
                (.test (!st)
                 (.out (Out.ret (AV.p (PV.sc (Value.bool false))) []))
                 (.test (a == 0)
                  (.out (Out.ret (AV.p (PV.sc (Value.bool true))) []))
                  (.must (st)
                   (.out (Out.ret (AV.p (PV.sc (Value.bool true))) [])))))
                (.test (a == 0)
                 (.out (Out.ret (AV.p (PV.sc (Value.bool true))) []))
                 (.test (st)
                  (.out (Out.ret (AV.p (PV.sc (Value.bool true))) []))
                  (.call ⟨81, [AV.p (PV.sc (Value.int IntKind.i64 op))], [], AV.p (PV.sc (Value.bool wh)), []⟩
                   (.test (wh)
                    (.out (Out.ret (AV.p (PV.sc (Value.bool true))) []))
                    (.out (Out.ret (AV.p (PV.sc (Value.bool (op == 14)))) []))))))))))
            (.test (decide ((↑tg.length : Int) > 0))
             (.test (op != 14)
              (.out (Out.ret (AV.p (PV.sc (Value.bool false))) []))
              (.test (nn != 0)
               (.must (op != 65)
                (.out (Out.ret (AV.p (PV.sc (Value.bool false))) [])))
               (.test (b != 0)
                (.test (!st)
                 (.out (Out.ret (AV.p (PV.sc (Value.bool false))) []))
                 (.test (a == 0)
                  (.out (Out.ret (AV.p (PV.sc (Value.bool true))) []))
                  (.must (st)
                   (.out (Out.ret (AV.p (PV.sc (Value.bool true))) [])))))
                (.test (a == 0)
                 (.out (Out.ret (AV.p (PV.sc (Value.bool true))) []))
                 (.test (st)
                  (.out (Out.ret (AV.p (PV.sc (Value.bool true))) []))
                  (.call ⟨81, [AV.p (PV.sc (Value.int IntKind.i64 op))], [], AV.p (PV.sc (Value.bool wh)), []⟩
                   (.test (wh)
                    (.out (Out.ret (AV.p (PV.sc (Value.bool true))) []))
                    (.out (Out.ret (AV.p (PV.sc (Value.bool (op == 14)))) [])))))))))
             (.test (nn != 0)
              (.test (op != 65)
               (.out (Out.ret (AV.p (PV.sc (Value.bool false))) []))
               (.test (b != 0)
                (.test (!st)
                 (.out (Out.ret (AV.p (PV.sc (Value.bool false))) []))
                 (.test (a == 0)
                  (.out (Out.ret (AV.p (PV.sc (Value.bool true))) []))
                  (.must (st)
                   (.out (Out.ret (AV.p (PV.sc (Value.bool true))) [])))))
                (.test (a == 0)
                 (.out (Out.ret (AV.p (PV.sc (Value.bool true))) []))
                 (.test (st)
                  (.out (Out.ret (AV.p (PV.sc (Value.bool true))) []))
                  (.call ⟨81, [AV.p (PV.sc (Value.int IntKind.i64 op))], [], AV.p (PV.sc (Value.bool wh)), []⟩
                   (.test (wh)
                    (.out (Out.ret (AV.p (PV.sc (Value.bool true))) []))
                    (.out (Out.ret (AV.p (PV.sc (Value.bool (op == 14)))) []))))))))
              (.test (b != 0)
               (.test (!st)
                (.out (Out.ret (AV.p (PV.sc (Value.bool false))) []))
                (.test (a == 0)
                 (.out (Out.ret (AV.p (PV.sc (Value.bool true))) []))
                 (.must (st)
                  (.out (Out.ret (AV.p (PV.sc (Value.bool true))) [])))))
               (.test (a == 0)
                (.out (Out.ret (AV.p (PV.sc (Value.bool true))) []))
                (.test (st)
                 (.out (Out.ret (AV.p (PV.sc (Value.bool true))) []))
                 (.call ⟨81, [AV.p (PV.sc (Value.int IntKind.i64 op))], [], AV.p (PV.sc (Value.bool wh)), []⟩
                  (.test (wh)
                   (.out (Out.ret (AV.p (PV.sc (Value.bool true))) []))
                   (.out (Out.ret (AV.p (PV.sc (Value.bool (op == 14)))) []))))))))))))
         (.test (decide ((↑le.length : Int) > 0))
          (.test (op != 4)
           (.out (Out.ret (AV.p (PV.sc (Value.bool false))) []))
           (.test (decide ((↑tg.length : Int) > 0))
            (.must (op != 14)
             (.out (Out.ret (AV.p (PV.sc (Value.bool false))) [])))
            (.test (nn != 0)
             (.must (op != 65)
              (.out (Out.ret (AV.p (PV.sc (Value.bool false))) [])))
             (.test (b != 0)
              (.test (!st)
               (.out (Out.ret (AV.p (PV.sc (Value.bool false))) []))
               (.test (a == 0)
                (.out (Out.ret (AV.p (PV.sc (Value.bool true))) []))
                (.must (st)
                 (.out (Out.ret (AV.p (PV.sc (Value.bool true))) [])))))
              (.test (a == 0)
               (.out (Out.ret (AV.p (PV.sc (Value.bool true))) []))
               (.test (st)
                (.out (Out.ret (AV.p (PV.sc (Value.bool true))) []))
                (.call ⟨81, [AV.p (PV.sc (Value.int IntKind.i64 op))], [], AV.p (PV.sc (Value.bool wh)), []⟩
                 (.test (wh)
                  (.out (Out.ret (AV.p (PV.sc (Value.bool true))) []))
                  (.out (Out.ret (AV.p (PV.sc (Value.bool (op == 14)))) []))))))))))
          (.test (decide ((↑tg.length : Int) > 0))
           (.test (op != 14)
            (.out (Out.ret (AV.p (PV.sc (Value.bool false))) []))
            (.test (nn != 0)
             (.must (op != 65)
              (.out (Out.ret (AV.p (PV.sc (Value.bool false))) [])))
             (.test (b != 0)
              (.test (!st)
               (.out (Out.ret (AV.p (PV.sc (Value.bool false))) []))
               (.test (a == 0)
                (.out (Out.ret (AV.p (PV.sc (Value.bool true))) []))
                (.must (st)
                 (.out (Out.ret (AV.p (PV.sc (Value.bool true))) [])))))
              (.test (a == 0)
               (.out (Out.ret (AV.p (PV.sc (Value.bool true))) []))
               (.test (st)
                (.out (Out.ret (AV.p (PV.sc (Value.bool true))) []))
                (.call ⟨81, [AV.p (PV.sc (Value.int IntKind.i64 op))], [], AV.p (PV.sc (Value.bool wh)), []⟩
                 (.test (wh)
                  (.out (Out.ret (AV.p (PV.sc (Value.bool true))) []))
                  (.out (Out.ret (AV.p (PV.sc (Value.bool (op == 14)))) [])))))))))
           (.test (nn != 0)
            (.test (op != 65)
             (.out (Out.ret (AV.p (PV.sc (Value.bool false))) []))
             (.test (b != 0)
              (.test (!st)
               (.out (Out.ret (AV.p (PV.sc (Value.bool false))) []))
               (.test (a == 0)
                (.out (Out.ret (AV.p (PV.sc (Value.bool true))) []))
                (.must (st)
                 (.out (Out.ret (AV.p (PV.sc (Value.bool true))) [])))))
              (.test (a == 0)
               (.out (Out.ret (AV.p (PV.sc (Value.bool true))) []))
               (.test (st)
                (.out (Out.ret (AV.p (PV.sc (Value.bool true))) []))
                (.call ⟨81, [AV.p (PV.sc (Value.int IntKind.i64 op))], [], AV.p (PV.sc (Value.bool wh)), []⟩
                 (.test (wh)
                  (.out (Out.ret (AV.p (PV.sc (Value.bool true))) []))
                  (.out (Out.ret (AV.p (PV.sc (Value.bool (op == 14)))) []))))))))
            (.test (b != 0)
             (.test (!st)
              (.out (Out.ret (AV.p (PV.sc (Value.bool false))) []))
              (.test (a == 0)
               (.out (Out.ret (AV.p (PV.sc (Value.bool true))) []))
               (.must (st)
                (.out (Out.ret (AV.p (PV.sc (Value.bool true))) [])))))
             (.test (a == 0)
              (.out (Out.ret (AV.p (PV.sc (Value.bool true))) []))
              (.test (st)
               (.out (Out.ret (AV.p (PV.sc (Value.bool true))) []))
               (.call ⟨81, [AV.p (PV.sc (Value.int IntKind.i64 op))], [], AV.p (PV.sc (Value.bool wh)), []⟩
                (.test (wh)
                 (.out (Out.ret (AV.p (PV.sc (Value.bool true))) []))
                 (.out (Out.ret (AV.p (PV.sc (Value.bool (op == 14)))) [])))))))))))))))))
theorem rig_tree (op : Int) (r : Int) (a : Int) (b : Int) (nn : Int) (tg : List Int) (ll : List Ins) (le : List Ins) (s : ByteArray) (n : Int) (st : Bool) (li : Bool) (wh : Bool) : growF Tryd.prog env (rigOrc op r a b nn tg ll le s n st li wh) 1000000 64 ([aggI op r a b nn tg ll le]) ([]) rigSc = rigTree op r a b nn tg ll le s n st li wh := by kernel_rfl

/-- As the document says it. -/
def rigF (e0 e1 e2 e3 e4 e5 li n4 e6 n14 e8 n65 e7 st a0 wh : Bool) : Bool :=
  !e0 && (!e1 && (!e2 && (!(e3 && !li) && (!(e4 && !li) && (!(e5 && n4) && (!(e6 && n14) && (!(e8 && n65) && (!(e7 && !st) && (a0 || (st || (wh || !n14))))))))))) 

set_option maxHeartbeats 8000000 in
theorem rig_of (op r a b nn : Int) (tg : List Int) (ll le : List Ins) (s : ByteArray) (n : Int) (st li wh : Bool) (h1 : Does Tryd.prog env 78 [sI .i64 op] [] (.tup [sI .u32 n, sB st]) []) (h2 : Does Tryd.prog env 79 [sI .i64 op] [] (.p (.sc (.string s))) [])
    (h3 : Does Tryd.prog env 80 [sI .i64 op] [] (sB li) []) (h4 : Does Tryd.prog env 81 [sI .i64 op] [] (sB wh) []) :
    Does Tryd.prog env 64 [aggI op r a b nn tg ll le] [] (sB (rigF (s.data.toList == (ByteArray.mk #[]).data.toList) (decide (r < 0)) (decide (r > 1)) (decide (r > 0)) (decide ((ll.length : Int) > 0)) (decide ((le.length : Int) > 0)) li (op != 4) (decide ((tg.length : Int) > 0)) (op != 14) (nn != 0) (op != 65) (b != 0) st (a == 0) wh)) [] := by
  refine does_of_tree names (rig_tree op r a b nn tg ll le s n st li wh) ?_
  simp only [rigTree, Tree.ok]
  have e14 : (op == 14) = !(op != 14) := by simp [bne]
  simp only [e14]
  have c1 : (op != 14) = false → (op != 65) = true := by simp only [bne_eq_false_iff_eq, bne_iff_ne, ne_eq]; omega
  have c2 : (op != 4) = false → (op != 14) = true := by simp only [bne_eq_false_iff_eq, bne_iff_ne, ne_eq]; omega
  have c3 : (op != 4) = false → (op != 65) = true := by simp only [bne_eq_false_iff_eq, bne_iff_ne, ne_eq]; omega
  clear e14
  generalize (s.data.toList == (ByteArray.mk #[]).data.toList) = e0
  generalize decide (r < 0) = e1
  generalize decide (r > 1) = e2
  generalize decide (r > 0) = e3
  generalize decide ((ll.length : Int) > 0) = e4
  generalize decide ((le.length : Int) > 0) = e5
  generalize (op != 4) = n4 at c2 c3 ⊢
  generalize decide ((tg.length : Int) > 0) = e6
  generalize (op != 14) = n14 at c1 c2 ⊢
  generalize (nn != 0) = e8
  generalize (op != 65) = n65 at c1 c3 ⊢
  generalize (b != 0) = e7
  generalize (a == 0) = a0
  refine ⟨h1, h2, ?_⟩
  cases e0
  case true => simp [rigF]
  cases e1
  case true => simp [rigF]
  cases e2
  case true => simp [rigF]
  cases n4
  case false =>
    obtain rfl := c2 rfl
    obtain rfl := c3 rfl
    clear c1 c2 c3
    cases e3 <;> cases li <;> (try (simp [rigF, h3]; done)) <;> cases e4 <;> (try (simp [rigF, h3]; done)) <;> cases e5 <;> cases e6 <;> (try (simp [rigF, h3]; done)) <;> cases e8 <;> (try (simp [rigF, h3]; done)) <;> cases e7 <;> cases st <;> (try (simp [rigF, h3]; done)) <;> cases a0 <;> (try (simp [rigF, h3]; done)) <;> cases wh <;> simp [rigF, h3, h4]
  clear c2 c3
  cases n14
  case false =>
    obtain rfl := c1 rfl
    clear c1
    cases e3 <;> cases li <;> (try (simp [rigF, h3]; done)) <;> cases e4 <;> (try (simp [rigF, h3]; done)) <;> cases e5 <;> (try (simp [rigF, h3]; done)) <;> cases e6 <;> cases e8 <;> (try (simp [rigF, h3]; done)) <;> cases e7 <;> cases st <;> (try (simp [rigF, h3]; done)) <;> cases a0 <;> (try (simp [rigF, h3]; done)) <;> cases wh <;> simp [rigF, h3, h4]
  clear c1
  cases e3 <;> cases li <;> (try (simp [rigF, h3]; done)) <;> cases e4 <;> (try (simp [rigF, h3]; done)) <;> cases e5 <;> (try (simp [rigF, h3]; done)) <;> cases e6 <;> (try (simp [rigF, h3]; done)) <;> cases e8 <;> cases n65 <;> (try (simp [rigF, h3]; done)) <;> cases e7 <;> cases st <;> (try (simp [rigF, h3]; done)) <;> cases a0 <;> (try (simp [rigF, h3]; done)) <;> cases wh <;> simp [rigF, h3, h4]

end Go.Proofs.YtjjloibfhgofcaaDoor.N
