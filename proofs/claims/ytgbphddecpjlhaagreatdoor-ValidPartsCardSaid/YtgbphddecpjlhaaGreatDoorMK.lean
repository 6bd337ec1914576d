/-
  One instruction: whether it may be, as the document says.
  The document's check of instructions: what its parts tell, of any instructions.
-/
import Derived.Test.YtgbphddecpjlhaaGreatDoorMJ

section
namespace Go.Proofs.YtgbphddecpjlhaaGreatDoor.N
open Go Go.Am

def rigC (_op _r _a _b _nn : Int) (_tg : List Int) (_ll _le : List Ins) (s : ByteArray) (n : Int) (st li wh : Bool) (f : FuncId) (_ : List AV) (_ : Mem) : Option (AV × Mem) := cond (Nat.beq f 164) (some (.p (.sc (.string s)), [])) (cond (Nat.beq f 146) (some (.tup [sI .u32 n, sB st], [])) (cond (Nat.beq f 165) (some (sB li, [])) (cond (Nat.beq f 166) (some (sB wh, [])) none)))
/- rig: 4200 steps -/
noncomputable def rigOrc (op : Int) (r : Int) (a : Int) (b : Int) (nn : Int) (tg : List Int) (ll : List Ins) (le : List Ins) (s : ByteArray) (n : Int) (st : Bool) (li : Bool) (wh : Bool) : Orc := orcL (rigC op r a b nn tg ll le s n st li wh) noLed [] [(150, 3, 5), (150, 3, 10), (150, 3, 15), (150, 3, 19), (150, 3, 26), (150, 3, 31), (150, 3, 38), (150, 3, 43), (150, 0, 0), (150, 5, 5), (150, 5, 10), (150, 5, 14), (150, 5, 20), (150, 5, 24), (150, 0, 1), (150, 7, 4), (150, 7, 7), (150, 7, 12)] []
def rigSc : Sc := (.fork (.lit (.lit (.lit (.lit (.lit .fin))))) (.fork (.lit (.lit (.lit (.lit .fin)))) (.fork (.lit (.lit (.lit .fin))) (.fork (.fork (.lit (.lit .fin)) (.fork (.no (.fork (.fork .fin (.fork (.yes (.lit (.lit .fin))) (.lit (.fork (.yes (.lit .fin)) (.lit (.fork (.fork .fin (.fork (.lit (.lit .fin)) (.yes (.lit .fin)))) (.lit (.fork (.lit (.lit .fin)) (.fork (.lit .fin) .fin))))))))) (.lit (.fork (.fork (.lit (.lit .fin)) (.fork (.yes (.lit .fin)) (.lit (.fork (.fork .fin (.fork (.lit (.lit .fin)) (.yes (.lit .fin)))) (.lit (.fork (.lit (.lit .fin)) (.fork (.lit .fin) .fin))))))) (.lit (.fork (.fork (.lit .fin) (.fork (.fork .fin (.fork (.lit (.lit .fin)) (.yes (.lit .fin)))) (.lit (.fork (.lit (.lit .fin)) (.fork (.lit .fin) .fin))))) (.lit (.fork (.fork .fin (.fork (.lit (.lit .fin)) (.yes (.lit .fin)))) (.lit (.fork (.lit (.lit .fin)) (.fork (.lit .fin) .fin))))))))))) (.lit (.fork (.fork .fin (.fork (.yes (.lit (.lit .fin))) (.lit (.fork (.yes (.lit .fin)) (.lit (.fork (.fork .fin (.fork (.lit (.lit .fin)) (.yes (.lit .fin)))) (.lit (.fork (.lit (.lit .fin)) (.fork (.lit .fin) .fin))))))))) (.lit (.fork (.fork (.lit (.lit .fin)) (.fork (.yes (.lit .fin)) (.lit (.fork (.fork .fin (.fork (.lit (.lit .fin)) (.yes (.lit .fin)))) (.lit (.fork (.lit (.lit .fin)) (.fork (.lit .fin) .fin))))))) (.lit (.fork (.fork (.lit .fin) (.fork (.fork .fin (.fork (.lit (.lit .fin)) (.yes (.lit .fin)))) (.lit (.fork (.lit (.lit .fin)) (.fork (.lit .fin) .fin))))) (.lit (.fork (.fork .fin (.fork (.lit (.lit .fin)) (.yes (.lit .fin)))) (.lit (.fork (.lit (.lit .fin)) (.fork (.lit .fin) .fin))))))))))))) (.lit (.fork (.fork (.lit .fin) (.fork (.fork .fin (.fork (.yes (.lit (.lit .fin))) (.lit (.fork (.yes (.lit .fin)) (.lit (.fork (.fork .fin (.fork (.lit (.lit .fin)) (.yes (.lit .fin)))) (.lit (.fork (.lit (.lit .fin)) (.fork (.lit .fin) .fin))))))))) (.lit (.fork (.fork (.lit (.lit .fin)) (.fork (.yes (.lit .fin)) (.lit (.fork (.fork .fin (.fork (.lit (.lit .fin)) (.yes (.lit .fin)))) (.lit (.fork (.lit (.lit .fin)) (.fork (.lit .fin) .fin))))))) (.lit (.fork (.fork (.lit .fin) (.fork (.fork .fin (.fork (.lit (.lit .fin)) (.yes (.lit .fin)))) (.lit (.fork (.lit (.lit .fin)) (.fork (.lit .fin) .fin))))) (.lit (.fork (.fork .fin (.fork (.lit (.lit .fin)) (.yes (.lit .fin)))) (.lit (.fork (.lit (.lit .fin)) (.fork (.lit .fin) .fin))))))))))) (.lit (.fork (.fork .fin (.fork (.yes (.lit (.lit .fin))) (.lit (.fork (.yes (.lit .fin)) (.lit (.fork (.fork .fin (.fork (.lit (.lit .fin)) (.yes (.lit .fin)))) (.lit (.fork (.lit (.lit .fin)) (.fork (.lit .fin) .fin))))))))) (.lit (.fork (.fork (.lit (.lit .fin)) (.fork (.yes (.lit .fin)) (.lit (.fork (.fork .fin (.fork (.lit (.lit .fin)) (.yes (.lit .fin)))) (.lit (.fork (.lit (.lit .fin)) (.fork (.lit .fin) .fin))))))) (.lit (.fork (.fork (.lit .fin) (.fork (.fork .fin (.fork (.lit (.lit .fin)) (.yes (.lit .fin)))) (.lit (.fork (.lit (.lit .fin)) (.fork (.lit .fin) .fin))))) (.lit (.fork (.fork .fin (.fork (.lit (.lit .fin)) (.yes (.lit .fin)))) (.lit (.fork (.lit (.lit .fin)) (.fork (.lit .fin) .fin)))))))))))))))))
noncomputable def rigTree (op : Int) (r : Int) (a : Int) (b : Int) (nn : Int) (tg : List Int) (ll : List Ins) (le : List Ins) (s : ByteArray) (n : Int) (st : Bool) (li : Bool) (wh : Bool) : Tree :=
  (.call ⟨146, [AV.p (PV.sc (Value.int IntKind.i64 op))], [], AV.tup [AV.p (PV.sc (Value.int IntKind.u32 n)), AV.p (PV.sc (Value.bool st))], []⟩
   (.call ⟨164, [AV.p (PV.sc (Value.int IntKind.i64 op))], [], AV.p (PV.sc (Value.string s)), []⟩
    (.test (s.data.toList == (ByteArray.mk #[]).data.toList)
     (.out (Out.ret (AV.p (PV.sc (Value.bool false))) []))
     (.test (decide (r < 0))
      (.out (Out.ret (AV.p (PV.sc (Value.bool false))) []))
      (.test (decide (r > 1))
       (.out (Out.ret (AV.p (PV.sc (Value.bool false))) []))
       (.test (decide (r > 0))
        (.call ⟨165, [AV.p (PV.sc (Value.int IntKind.i64 op))], [], AV.p (PV.sc (Value.bool li)), []⟩
         (.test (!li)
          (.out (Out.ret (AV.p (PV.sc (Value.bool false))) []))
          (.test (decide ((↑ll.length : Int) > 0))
           (.call ⟨165, [AV.p (PV.sc (Value.int IntKind.i64 op))], [], AV.p (PV.sc (Value.bool li)), []⟩
            (.must (!(!li))
             (.test (decide ((↑le.length : Int) > 0))
              (.test (op != 4)
               (.out (Out.ret (AV.p (PV.sc (Value.bool false))) []))
               (.test (decide ((↑tg.length : Int) > 0))
                (.must (op != 14)
                 (.out (Out.ret (AV.p (PV.sc (Value.bool false))) [])))
                (.test (nn != 0)
                 (.must (op != 65)
                  (.out (Out.ret (AV.p (PV.sc (Value.bool false))) [])))
                 (.test (b != 0)
                  (.test (!st)
                   (.out (Out.ret (AV.p (PV.sc (Value.bool false))) []))
                   (.test (a == 0)
                    (.out (Out.ret (AV.p (PV.sc (Value.bool true))) []))
                    (.must (st)
                     (.out (Out.ret (AV.p (PV.sc (Value.bool true))) [])))))
                  (.test (a == 0)
                   (.out (Out.ret (AV.p (PV.sc (Value.bool true))) []))
                   (.test (st)
                    (.out (Out.ret (AV.p (PV.sc (Value.bool true))) []))
                    (.call ⟨166, [AV.p (PV.sc (Value.int IntKind.i64 op))], [], AV.p (PV.sc (Value.bool wh)), []⟩
                     (.test (wh)
                      (.out (Out.ret (AV.p (PV.sc (Value.bool true))) []))
                      (.out (Out.ret (AV.p (PV.sc (Value.bool (op == 14)))) []))))))))))
              (.test (decide ((↑tg.length : Int) > 0))
               (.test (op != 14)
                (.out (Out.ret (AV.p (PV.sc (Value.bool false))) []))
                (.test (nn != 0)
                 (.must (op != 65)
                  (.out (Out.ret (AV.p (PV.sc (Value.bool false))) [])))
                 (.test (b != 0)
                  (.test (!st)
                   (.out (Out.ret (AV.p (PV.sc (Value.bool false))) []))
                   (.test (a == 0)
                    (.out (Out.ret (AV.p (PV.sc (Value.bool true))) []))
                    (.must (st)
                     (.out (Out.ret (AV.p (PV.sc (Value.bool true))) [])))))
                  (.test (a == 0)
                   (.out (Out.ret (AV.p (PV.sc (Value.bool true))) []))
                   (.test (st)
                    (.out (Out.ret (AV.p (PV.sc (Value.bool true))) []))
                    (.call ⟨166, [AV.p (PV.sc (Value.int IntKind.i64 op))], [], AV.p (PV.sc (Value.bool wh)), []⟩
                     (.test (wh)
                      (.out (Out.ret (AV.p (PV.sc (Value.bool true))) []))
                      (.out (Out.ret (AV.p (PV.sc (Value.bool (op == 14)))) [])))))))))
               (.test (nn != 0)
                (.test (op != 65)
                 (.out (Out.ret (AV.p (PV.sc (Value.bool false))) []))
                 (.test (b != 0)
                  (.test (!st)
                   (.out (Out.ret (AV.p (PV.sc (Value.bool false))) []))
                   (.test (a == 0)
                    (.out (Out.ret (AV.p (PV.sc (Value.bool true))) []))
                    (.must (st)
                     (.out (Out.ret (AV.p (PV.sc (Value.bool true))) [])))))
                  (.test (a == 0)
                   (.out (Out.ret (AV.p (PV.sc (Value.bool true))) []))
                   (.test (st)
                    (.out (Out.ret (AV.p (PV.sc (Value.bool true))) []))
                    (.call ⟨166, [AV.p (PV.sc (Value.int IntKind.i64 op))], [], AV.p (PV.sc (Value.bool wh)), []⟩
                     (.test (wh)
                      (.out (Out.ret (AV.p (PV.sc (Value.bool true))) []))
                      (.out (Out.ret (AV.p (PV.sc (Value.bool (op == 14)))) []))))))))
                (.test (b != 0)
                 (.test (!st)
                  (.out (Out.ret (AV.p (PV.sc (Value.bool false))) []))
                  (.test (a == 0)
                   (.out (Out.ret (AV.p (PV.sc (Value.bool true))) []))
                   (.must (st)
                    (.out (Out.ret (AV.p (PV.sc (Value.bool true))) [])))))
                 (.test (a == 0)
                  (.out (Out.ret (AV.p (PV.sc (Value.bool true))) []))
                  (.test (st)
                   (.out (Out.ret (AV.p (PV.sc (Value.bool true))) []))
                   (.call ⟨166, [AV.p (PV.sc (Value.int IntKind.i64 op))], [], AV.p (PV.sc (Value.bool wh)), []⟩
                    (.test (wh)
                     (.out (Out.ret (AV.p (PV.sc (Value.bool true))) []))
                     (.out (Out.ret (AV.p (PV.sc (Value.bool (op == 14)))) []))))))))))))
           (.test (decide ((↑le.length : Int) > 0))
            (.test (op != 4)
             (.out (Out.ret (AV.p (PV.sc (Value.bool false))) []))
             (.test (decide ((↑tg.length : Int) > 0))
              (.must (op != 14)
               (.out (Out.ret (AV.p (PV.sc (Value.bool false))) [])))
              (.test (nn != 0)
               (.must (op != 65)
                (.out (Out.ret (AV.p (PV.sc (Value.bool false))) [])))
               (.test (b != 0)
                (.test (!st)
                 (.out (Out.ret (AV.p (PV.sc (Value.bool false))) []))
                 (.test (a == 0)
                  (.out (Out.ret (AV.p (PV.sc (Value.bool true))) []))
                  (.must (st)
                   (.out (Out.ret (AV.p (PV.sc (Value.bool true))) [])))))
                (.test (a == 0)
                 (.out (Out.ret (AV.p (PV.sc (Value.bool true))) []))
                 (.test (st)
                  (.out (Out.ret (AV.p (PV.sc (Value.bool true))) []))
                  (.call ⟨166, [AV.p (PV.sc (Value.int IntKind.i64 op))], [], AV.p (PV.sc (Value.bool wh)), []⟩
                   (.test (wh)
                    (.out (Out.ret (AV.p (PV.sc (Value.bool true))) []))
                    (.out (Out.ret (AV.p (PV.sc (Value.bool (op == 14)))) []))))))))))
            (.test (decide ((↑tg.length : Int) > 0))
             (.test (op != 14)
              (.out (Out.ret (AV.p (PV.sc (Value.bool false))) []))
              (.test (nn != 0)
               (.must (op != 65)
                (.out (Out.ret (AV.p (PV.sc (Value.bool false))) [])))
               (.test (b != 0)
                (.test (!st)
                 (.out (Out.ret (AV.p (PV.sc (Value.bool false))) []))
                 (.test (a == 0)
                  (.out (Out.ret (AV.p (PV.sc (Value.bool true))) []))
                  (.must (st)
                   (.out (Out.ret (AV.p (PV.sc (Value.bool true))) [])))))
                (.test (a == 0)
                 (.out (Out.ret (AV.p (PV.sc (Value.bool true))) []))
                 (.test (st)
                  (.out (Out.ret (AV.p (PV.sc (Value.bool true))) []))
                  (.call ⟨166, [AV.p (PV.sc (Value.int IntKind.i64 op))], [], AV.p (PV.sc (Value.bool wh)), []⟩
                   (.test (wh)
                    (.out (Out.ret (AV.p (PV.sc (Value.bool true))) []))
                    (.out (Out.ret (AV.p (PV.sc (Value.bool (op == 14)))) [])))))))))
             (.test (nn != 0)
              (.test (op != 65)
               (.out (Out.ret (AV.p (PV.sc (Value.bool false))) []))
               (.test (b != 0)
                (.test (!st)
                 (.out (Out.ret (AV.p (PV.sc (Value.bool false))) []))
                 (.test (a == 0)
                  (.out (Out.ret (AV.p (PV.sc (Value.bool true))) []))
                  (.must (st)
                   (.out (Out.ret (AV.p (PV.sc (Value.bool true))) [])))))
                (.test (a == 0)
                 (.out (Out.ret (AV.p (PV.sc (Value.bool true))) []))
                 (.test (st)
                  (.out (Out.ret (AV.p (PV.sc (Value.bool true))) []))
                  (.call ⟨166, [AV.p (PV.sc (Value.int IntKind.i64 op))], [], AV.p (PV.sc (Value.bool wh)), []⟩
                   (.test (wh)
                    (.out (Out.ret (AV.p (PV.sc (Value.bool true))) []))
                    (.out (Out.ret (AV.p (PV.sc (Value.bool (op == 14)))) []))))))))
              (.test (b != 0)
               (.test (!st)
                (.out (Out.ret (AV.p (PV.sc (Value.bool false))) []))
                (.test (a == 0)
                 (.out (Out.ret (AV.p (PV.sc (Value.bool true))) []))
                 (.must (st)
                  (.out (Out.ret (AV.p (PV.sc (Value.bool true))) [])))))
               (.test (a == 0)
                (.out (Out.ret (AV.p (PV.sc (Value.bool true))) []))
                (.test (st)
                 (.out (Out.ret (AV.p (PV.sc (Value.bool true))) []))
                 (.call ⟨166, [AV.p (PV.sc (Value.int IntKind.i64 op))], [], AV.p (PV.sc (Value.bool wh)), []⟩
                  (.test (wh)
                   (.out (Out.ret (AV.p (PV.sc (Value.bool true))) []))
                   (.out (Out.ret (AV.p (PV.sc (Value.bool (op == 14)))) [])))))))))))))
        (.test (decide ((↑ll.length : Int) > 0))
         (.call ⟨165, [AV.p (PV.sc (Value.int IntKind.i64 op))], [], AV.p (PV.sc (Value.bool li)), []⟩
          (.test (!li)
           (.out (Out.ret (AV.p (PV.sc (Value.bool false))) []))
           (.test (decide ((↑le.length : Int) > 0))
            (.test (op != 4)
             (.out (Out.ret (AV.p (PV.sc (Value.bool false))) []))
             (.test (decide ((↑tg.length : Int) > 0))
              (.must (op != 14)
               (.out (Out.ret (AV.p (PV.sc (Value.bool false))) [])))
              (.test (nn != 0)
               (.must (op != 65)
                (.out (Out.ret (AV.p (PV.sc (Value.bool false))) [])))
               (.test (b != 0)
                (.test (!st)
                 (.out (Out.ret (AV.p (PV.sc (Value.bool false))) []))
                 (.test (a == 0)
                  (.out (Out.ret (AV.p (PV.sc (Value.bool true))) []))
                  (.must (st)
                   (.out (Out.ret (AV.p (PV.sc (Value.bool true))) [])))))
                (.test (a == 0)
                 (.out (Out.ret (AV.p (PV.sc (Value.bool true))) []))
                 (.test (st)
                  (.out (Out.ret (AV.p (PV.sc (Value.bool true))) []))
                  (.call ⟨166, [AV.p (PV.sc (Value.int IntKind.i64 op))], [], AV.p (PV.sc (Value.bool wh)), []⟩
                   (.test (wh)
                    (.out (Out.ret (AV.p (PV.sc (Value.bool true))) []))
                    (.out (Out.ret (AV.p (PV.sc (Value.bool (op == 14)))) []))))))))))
            (.test (decide ((↑tg.length : Int) > 0))
             (.test (op != 14)
              (.out (Out.ret (AV.p (PV.sc (Value.bool false))) []))
              (.test (nn != 0)
               (.must (op != 65)
                (.out (Out.ret (AV.p (PV.sc (Value.bool false))) [])))
               (.test (b != 0)
                (.test (!st)
                 (.out (Out.ret (AV.p (PV.sc (Value.bool false))) []))
                 (.test (a == 0)
                  (.out (Out.ret (AV.p (PV.sc (Value.bool true))) []))
                  (.must (st)
                   (.out (Out.ret (AV.p (PV.sc (Value.bool true))) [])))))
                (.test (a == 0)
                 (.out (Out.ret (AV.p (PV.sc (Value.bool true))) []))
                 (.test (st)
                  (.out (Out.ret (AV.p (PV.sc (Value.bool true))) []))
                  (.call ⟨166, [AV.p (PV.sc (Value.int IntKind.i64 op))], [], AV.p (PV.sc (Value.bool wh)), []⟩
                   (.test (wh)
                    (.out (Out.ret (AV.p (PV.sc (Value.bool true))) []))
                    (.out (Out.ret (AV.p (PV.sc (Value.bool (op == 14)))) [])))))))))
             (.test (nn != 0)
              (.test (op != 65)
               (.out (Out.ret (AV.p (PV.sc (Value.bool false))) []))
               (.test (b != 0)
                (.test (!st)
                 (.out (Out.ret (AV.p (PV.sc (Value.bool false))) []))
                 (.test (a == 0)
                  (.out (Out.ret (AV.p (PV.sc (Value.bool true))) []))
                  (.must (st)
                   (.out (Out.ret (AV.p (PV.sc (Value.bool true))) [])))))
                (.test (a == 0)
                 (.out (Out.ret (AV.p (PV.sc (Value.bool true))) []))
                 (.test (st)
                  (.out (Out.ret (AV.p (PV.sc (Value.bool true))) []))
                  (.call ⟨166, [AV.p (PV.sc (Value.int IntKind.i64 op))], [], AV.p (PV.sc (Value.bool wh)), []⟩
                   (.test (wh)
                    (.out (Out.ret (AV.p (PV.sc (Value.bool true))) []))
                    (.out (Out.ret (AV.p (PV.sc (Value.bool (op == 14)))) []))))))))
              (.test (b != 0)
               (.test (!st)
                (.out (Out.ret (AV.p (PV.sc (Value.bool false))) []))
                (.test (a == 0)
                 (.out (Out.ret (AV.p (PV.sc (Value.bool true))) []))
                 (.must (st)
                  (.out (Out.ret (AV.p (PV.sc (Value.bool true))) [])))))
               (.test (a == 0)
                (.out (Out.ret (AV.p (PV.sc (Value.bool true))) []))
                (.test (st)
                 (.out (Out.ret (AV.p (PV.sc (Value.bool true))) []))
                 (.call ⟨166, [AV.p (PV.sc (Value.int IntKind.i64 op))], [], AV.p (PV.sc (Value.bool wh)), []⟩
                  (.test (wh)
                   (.out (Out.ret (AV.p (PV.sc (Value.bool true))) []))
                   (.out (Out.ret (AV.p (PV.sc (Value.bool (op == 14)))) []))))))))))))
         (.test (decide ((↑le.length : Int) > 0))
          (.test (op != 4)
           (.out (Out.ret (AV.p (PV.sc (Value.bool false))) []))
           (.test (decide ((↑tg.length : Int) > 0))
            (.must (op != 14)
             (.out (Out.ret (AV.p (PV.sc (Value.bool false))) [])))
            (.test (nn != 0)
             (.must (op != 65)
              (.out (Out.ret (AV.p (PV.sc (Value.bool false))) [])))
             (.test (b != 0)
              (.test (!st)
               (.out (Out.ret (AV.p (PV.sc (Value.bool false))) []))
               (.test (a == 0)
                (.out (Out.ret (AV.p (PV.sc (Value.bool true))) []))
                (.must (st)
                 (.out (Out.ret (AV.p (PV.sc (Value.bool true))) [])))))
              (.test (a == 0)
               (.out (Out.ret (AV.p (PV.sc (Value.bool true))) []))
               (.test (st)
                (.out (Out.ret (AV.p (PV.sc (Value.bool true))) []))
                (.call ⟨166, [AV.p (PV.sc (Value.int IntKind.i64 op))], [], AV.p (PV.sc (Value.bool wh)), []⟩
                 (.test (wh)
                  (.out (Out.ret (AV.p (PV.sc (Value.bool true))) []))
                  (.out (Out.ret (AV.p (PV.sc (Value.bool (op == 14)))) []))))))))))
          (.test (decide ((↑tg.length : Int) > 0))
           (.test (op != 14)
            (.out (Out.ret (AV.p (PV.sc (Value.bool false))) []))
            (.test (nn != 0)
             (.must (op != 65)
              (.out (Out.ret (AV.p (PV.sc (Value.bool false))) [])))
             (.test (b != 0)
              (.test (!st)
               (.out (Out.ret (AV.p (PV.sc (Value.bool false))) []))
               (.test (a == 0)
                (.out (Out.ret (AV.p (PV.sc (Value.bool true))) []))
                (.must (st)
                 (.out (Out.ret (AV.p (PV.sc (Value.bool true))) [])))))
              (.test (a == 0)
               (.out (Out.ret (AV.p (PV.sc (Value.bool true))) []))
               (.test (st)
                (.out (Out.ret (AV.p (PV.sc (Value.bool true))) []))
                (.call ⟨166, [AV.p (PV.sc (Value.int IntKind.i64 op))], [], AV.p (PV.sc (Value.bool wh)), []⟩
                 (.test (wh)
                  (.out (Out.ret (AV.p (PV.sc (Value.bool true))) []))
                  (.out (Out.ret (AV.p (PV.sc (Value.bool (op == 14)))) [])))))))))
           (.test (nn != 0)
            (.test (op != 65)
             (.out (Out.ret (AV.p (PV.sc (Value.bool false))) []))
             (.test (b != 0)
              (.test (!st)
               (.out (Out.ret (AV.p (PV.sc (Value.bool false))) []))
               (.test (a == 0)
                (.out (Out.ret (AV.p (PV.sc (Value.bool true))) []))
                (.must (st)
                 (.out (Out.ret (AV.p (PV.sc (Value.bool true))) [])))))
              (.test (a == 0)
               (.out (Out.ret (AV.p (PV.sc (Value.bool true))) []))
               (.test (st)
                (.out (Out.ret (AV.p (PV.sc (Value.bool true))) []))
                (.call ⟨166, [AV.p (PV.sc (Value.int IntKind.i64 op))], [], AV.p (PV.sc (Value.bool wh)), []⟩
                 (.test (wh)
                  (.out (Out.ret (AV.p (PV.sc (Value.bool true))) []))
                  (.out (Out.ret (AV.p (PV.sc (Value.bool (op == 14)))) []))))))))
            (.test (b != 0)
             (.test (!st)
              (.out (Out.ret (AV.p (PV.sc (Value.bool false))) []))
              (.test (a == 0)
               (.out (Out.ret (AV.p (PV.sc (Value.bool true))) []))
               (.must (st)
                (.out (Out.ret (AV.p (PV.sc (Value.bool true))) [])))))
             (.test (a == 0)
              (.out (Out.ret (AV.p (PV.sc (Value.bool true))) []))
              (.test (st)
               (.out (Out.ret (AV.p (PV.sc (Value.bool true))) []))
               (.call ⟨166, [AV.p (PV.sc (Value.int IntKind.i64 op))], [], AV.p (PV.sc (Value.bool wh)), []⟩
                (.test (wh)
                 (.out (Out.ret (AV.p (PV.sc (Value.bool true))) []))
                 (.out (Out.ret (AV.p (PV.sc (Value.bool (op == 14)))) [])))))))))))))))))
theorem rig_tree (op : Int) (r : Int) (a : Int) (b : Int) (nn : Int) (tg : List Int) (ll : List Ins) (le : List Ins) (s : ByteArray) (n : Int) (st : Bool) (li : Bool) (wh : Bool) : growF Tryz.prog env (rigOrc op r a b nn tg ll le s n st li wh) 1000000 150 ([aggI op r a b nn tg ll le]) ([]) rigSc = rigTree op r a b nn tg ll le s n st li wh := by kernel_rfl

/-- As the document says it. -/
def rigF (e0 e1 e2 e3 e4 e5 li n4 e6 n14 e8 n65 e7 st a0 wh : Bool) : Bool :=
  !e0 && (!e1 && (!e2 && (!(e3 && !li) && (!(e4 && !li) && (!(e5 && n4) && (!(e6 && n14) && (!(e8 && n65) && (!(e7 && !st) && (a0 || (st || (wh || !n14))))))))))) 

set_option maxHeartbeats 8000000 in
theorem rig_of (op r a b nn : Int) (tg : List Int) (ll le : List Ins) (s : ByteArray) (n : Int) (st li wh : Bool) (h1 : Does Tryz.prog env 146 [sI .i64 op] [] (.tup [sI .u32 n, sB st]) []) (h2 : Does Tryz.prog env 164 [sI .i64 op] [] (.p (.sc (.string s))) [])
    (h3 : Does Tryz.prog env 165 [sI .i64 op] [] (sB li) []) (h4 : Does Tryz.prog env 166 [sI .i64 op] [] (sB wh) []) :
    Does Tryz.prog env 150 [aggI op r a b nn tg ll le] [] (sB (rigF (s.data.toList == (ByteArray.mk #[]).data.toList) (decide (r < 0)) (decide (r > 1)) (decide (r > 0)) (decide ((ll.length : Int) > 0)) (decide ((le.length : Int) > 0)) li (op != 4) (decide ((tg.length : Int) > 0)) (op != 14) (nn != 0) (op != 65) (b != 0) st (a == 0) wh)) [] := by
  refine does_of_tree names (rig_tree op r a b nn tg ll le s n st li wh) ?_
  simp only [rigTree, Tree.ok]
  have e14 : (op == 14) = !(op != 14) := by simp [bne]
  simp only [e14]
  have c1 : (op != 14) = false → (op != 65) = true := by simp only [bne_eq_false_iff_eq, bne_iff_ne, ne_eq]; omega
  have c2 : (op != 4) = false → (op != 14) = true := by simp only [bne_eq_false_iff_eq, bne_iff_ne, ne_eq]; omega
  have c3 : (op != 4) = false → (op != 65) = true := by simp only [bne_eq_false_iff_eq, bne_iff_ne, ne_eq]; omega
  clear e14
  generalize (s.data.toList == (ByteArray.mk #[]).data.toList) = e0
  generalize decide (r < 0) = e1
  generalize decide (r > 1) = e2
  generalize decide (r > 0) = e3
  generalize decide ((ll.length : Int) > 0) = e4
  generalize decide ((le.length : Int) > 0) = e5
  generalize (op != 4) = n4 at c2 c3 ⊢
  generalize decide ((tg.length : Int) > 0) = e6
  generalize (op != 14) = n14 at c1 c2 ⊢
  generalize (nn != 0) = e8
  generalize (op != 65) = n65 at c1 c3 ⊢
  generalize (b != 0) = e7
  generalize (a == 0) = a0
  refine ⟨h1, h2, ?_⟩
  cases e0
  case true => simp [rigF]
  cases e1
  case true => simp [rigF]
  cases e2
  case true => simp [rigF]
  cases n4
  case false =>
    obtain rfl := c2 rfl
    obtain rfl := c3 rfl
    clear c1 c2 c3
    cases e3 <;> cases li <;> (try (simp [rigF, h3]; done)) <;> cases e4 <;> (try (simp [rigF, h3]; done)) <;> cases e5 <;> cases e6 <;> (try (simp [rigF, h3]; done)) <;> cases e8 <;> (try (simp [rigF, h3]; done)) <;> cases e7 <;> cases st <;> (try (simp [rigF, h3]; done)) <;> cases a0 <;> (try (simp [rigF, h3]; done)) <;> cases wh <;> simp [rigF, h3, h4]
  clear c2 c3
  cases n14
  case false =>
    obtain rfl := c1 rfl
    clear c1
    cases e3 <;> cases li <;> (try (simp [rigF, h3]; done)) <;> cases e4 <;> (try (simp [rigF, h3]; done)) <;> cases e5 <;> (try (simp [rigF, h3]; done)) <;> cases e6 <;> cases e8 <;> (try (simp [rigF, h3]; done)) <;> cases e7 <;> cases st <;> (try (simp [rigF, h3]; done)) <;> cases a0 <;> (try (simp [rigF, h3]; done)) <;> cases wh <;> simp [rigF, h3, h4]
  clear c1
  cases e3 <;> cases li <;> (try (simp [rigF, h3]; done)) <;> cases e4 <;> (try (simp [rigF, h3]; done)) <;> cases e5 <;> (try (simp [rigF, h3]; done)) <;> cases e6 <;> (try (simp [rigF, h3]; done)) <;> cases e8 <;> cases n65 <;> (try (simp [rigF, h3]; done)) <;> cases e7 <;> cases st <;> (try (simp [rigF, h3]; done)) <;> cases a0 <;> (try (simp [rigF, h3]; done)) <;> cases wh <;> simp [rigF, h3, h4]

end Go.Proofs.YtgbphddecpjlhaaGreatDoor.N
end

section
namespace Go.Proofs.YtgbphddecpjlhaaGreatDoor.N
open Go Go.Am

/- naL: 262 steps -/
noncomputable def naLOrc : Orc := orcL noCall noLed [] [(164, 3, 3), (164, 6, 3), (170, 0, 0), (170, 0, 1), (170, 0, 2), (170, 0, 3), (170, 0, 4), (170, 0, 5), (170, 0, 6), (170, 0, 7), (170, 0, 8), (170, 0, 9), (170, 0, 10), (170, 0, 11), (170, 0, 12), (174, 0, 0), (174, 0, 1), (174, 0, 2), (174, 0, 3), (174, 0, 4), (174, 0, 5), (174, 0, 6), (174, 0, 7), (174, 0, 8), (174, 0, 9), (174, 0, 10), (174, 0, 11), (174, 0, 12), (174, 0, 13), (174, 0, 14), (174, 0, 15)] []
def naLSc : Sc := (.no (.no (.no (.no (.no (.no (.no (.no (.no (.no (.no (.no (.no (.no (.no (.no (.no (.no (.no (.no (.no (.no (.no (.no (.no (.no (.no (.no (.no (.no (.no .fin)))))))))))))))))))))))))))))))
noncomputable def naLTree (op : Int) : Tree :=
  (.must (!(decide (op ≥ 69)))
   (.must (!(decide (op ≥ 103)))
    (.must (!(op == 0))
     (.must (!(op == 1))
      (.must (!(op == 2))
       (.must (!(op == 3))
        (.must (!(op == 4))
         (.must (!(op == 12))
          (.must (!(op == 13))
           (.must (!(op == 14))
            (.must (!(op == 15))
             (.must (!(op == 16))
              (.must (!(op == 17))
               (.must (!(op == 26))
                (.must (!(op == 27))
                 (.must (!(op == 32))
                  (.must (!(op == 33))
                   (.must (!(op == 34))
                    (.must (!(op == 35))
                     (.must (!(op == 36))
                      (.must (!(op == 40))
                       (.must (!(op == 44))
                        (.must (!(op == 45))
                         (.must (!(op == 46))
                          (.must (!(op == 47))
                           (.must (!(op == 54))
                            (.must (!(op == 58))
                             (.must (!(op == 59))
                              (.must (!(op == 63))
                               (.must (!(op == 64))
                                (.must (!(op == 65))
                                 (.out (Out.ret (AV.p (PV.sc (Value.string (ByteArray.mk #[])))) [])))))))))))))))))))))))))))))))))
theorem naL_tree (op : Int) : growF Tryz.prog env naLOrc 1000000 164 ([sI IntKind.i64 op]) ([]) naLSc = naLTree op := by kernel_rfl

/- naH: 262 steps -/
noncomputable def naHOrc : Orc := orcL noCall noLed [] [(164, 3, 3), (164, 0, 0), (164, 6, 3), (164, 0, 1), (170, 0, 0), (170, 0, 1), (170, 0, 2), (170, 0, 3), (170, 0, 4), (170, 0, 5), (170, 0, 6), (170, 0, 7), (170, 0, 8), (170, 0, 9), (170, 0, 10), (170, 0, 11), (170, 0, 12), (174, 0, 0), (174, 0, 1), (174, 0, 2), (174, 0, 3), (174, 0, 4), (174, 0, 5), (174, 0, 6), (174, 0, 7), (174, 0, 8), (174, 0, 9), (174, 0, 10), (174, 0, 11), (174, 0, 12), (174, 0, 13), (174, 0, 14), (174, 0, 15)] []
def naHSc : Sc := (.yes (.no (.yes (.no (.no (.no (.no (.no (.no (.no (.no (.no (.no (.no (.no (.no (.no (.no (.no (.no (.no (.no (.no (.no (.no (.no (.no (.no (.no (.no (.no (.no (.no .fin)))))))))))))))))))))))))))))))))
noncomputable def naHTree (op : Int) : Tree :=
  (.must (decide (op ≥ 69))
   (.must (!(decide (op ≤ 79)))
    (.must (decide (op ≥ 103))
     (.must (!(decide (op ≤ 120)))
      (.must (!(op == 0))
       (.must (!(op == 1))
        (.must (!(op == 2))
         (.must (!(op == 3))
          (.must (!(op == 4))
           (.must (!(op == 12))
            (.must (!(op == 13))
             (.must (!(op == 14))
              (.must (!(op == 15))
               (.must (!(op == 16))
                (.must (!(op == 17))
                 (.must (!(op == 26))
                  (.must (!(op == 27))
                   (.must (!(op == 32))
                    (.must (!(op == 33))
                     (.must (!(op == 34))
                      (.must (!(op == 35))
                       (.must (!(op == 36))
                        (.must (!(op == 40))
                         (.must (!(op == 44))
                          (.must (!(op == 45))
                           (.must (!(op == 46))
                            (.must (!(op == 47))
                             (.must (!(op == 54))
                              (.must (!(op == 58))
                               (.must (!(op == 59))
                                (.must (!(op == 63))
                                 (.must (!(op == 64))
                                  (.must (!(op == 65))
                                   (.out (Out.ret (AV.p (PV.sc (Value.string (ByteArray.mk #[])))) [])))))))))))))))))))))))))))))))))))
theorem naH_tree (op : Int) : growF Tryz.prog env naHOrc 1000000 164 ([sI IntKind.i64 op]) ([]) naHSc = naHTree op := by kernel_rfl


/-- The document's name of an operation: each number by itself. -/
noncomputable def naRun (n : Nat) : Bool :=
  match execXF Tryz.prog env [] 100000 164 [sI .i64 n] [] with
  | some (.ret v m) => eqAV v (.p (.sc (.string (nmL.getD n ⟨#[]⟩)))) && eqMem m []
  | _ => false

theorem naRun0 : (List.range' 0 32).all naRun = true := by kernel_rfl
theorem naRun1 : (List.range' 32 32).all naRun = true := by kernel_rfl
theorem naRun2 : (List.range' 64 32).all naRun = true := by kernel_rfl
theorem naRun3 : (List.range' 96 32).all naRun = true := by kernel_rfl
theorem naRun4 : (List.range' 128 32).all naRun = true := by kernel_rfl
theorem naRun5 : (List.range' 160 32).all naRun = true := by kernel_rfl
theorem naRun6 : (List.range' 192 32).all naRun = true := by kernel_rfl
theorem naRun7 : (List.range' 224 32).all naRun = true := by kernel_rfl

theorem naRun_all {n : Nat} (h : n < 256) : naRun n = true := by
  have get : ∀ a, (List.range' a 32).all naRun = true → a ≤ n → n < a + 32 → naRun n = true := fun a ha h1 h2 => List.all_eq_true.1 ha n (List.mem_range'_1.2 ⟨h1, h2⟩)
  rcases Nat.lt_or_ge n 32 with q | q
  · exact get 0 naRun0 (by omega) (by omega)
  rcases Nat.lt_or_ge n 64 with q | q
  · exact get 32 naRun1 (by omega) (by omega)
  rcases Nat.lt_or_ge n 96 with q | q
  · exact get 64 naRun2 (by omega) (by omega)
  rcases Nat.lt_or_ge n 128 with q | q
  · exact get 96 naRun3 (by omega) (by omega)
  rcases Nat.lt_or_ge n 160 with q | q
  · exact get 128 naRun4 (by omega) (by omega)
  rcases Nat.lt_or_ge n 192 with q | q
  · exact get 160 naRun5 (by omega) (by omega)
  rcases Nat.lt_or_ge n 224 with q | q
  · exact get 192 naRun6 (by omega) (by omega)
  · exact get 224 naRun7 (by omega) (by omega)

theorem nameR_does (op : Int) : Does Tryz.prog env 164 [sI .i64 op] [] (.p (.sc (.string (nm op)))) [] := by
  by_cases h0 : op < 0
  · refine does_of_tree names (naL_tree op) ?_
    rw [nm, if_pos (.inl h0)]
    simp only [naLTree, Tree.ok, Bool.not_eq_true', beq_eq_false_iff_ne, decide_eq_false_iff_not]
    repeat' first | exact True.intro | exact rfl | apply And.intro
    all_goals omega
  · by_cases h1 : 256 ≤ op
    · refine does_of_tree names (naH_tree op) ?_
      rw [nm, if_pos (.inr h1)]
      simp only [naHTree, Tree.ok, Bool.not_eq_true', beq_eq_false_iff_ne, decide_eq_false_iff_not, decide_eq_true_eq]
      repeat' first | exact True.intro | exact rfl | apply And.intro
      all_goals omega
    · obtain ⟨n, rfl⟩ := Int.eq_ofNat_of_zero_le (by omega : 0 ≤ op)
      have hr := naRun_all (n := n) (by omega)
      unfold naRun at hr
      split at hr
      · rename_i v m hx
        rw [Bool.and_eq_true] at hr
        rw [eqAV_eq hr.1, eqMem_eq hr.2] at hx
        rw [nm, if_neg (by omega)]
        exact does_fast names calls_nil hx
      · cases hr

/-- May an instruction be? -/
def mayI : Ins → Bool
  | .mk op r a b nn tg ll le => mayF ((nm op).data.toList == (ByteArray.mk #[]).data.toList) (isLi op) (decide (op = 4)) (isSt op || isWh op || decide (op = 14)) (isSt op) (decide (op = 65)) (decide (op = 14)) (decide (r < 0)) (decide (r > 1)) (r != 0) (decide ((ll.length : Int) > 0)) (decide ((le.length : Int) > 0)) (a == 0) (b == 0) (nn == 0) ((tg.length : Int) == 0)

theorem mayI_does (x : Ins) : Does Tryz.prog env 126 [aggX x] [] (sB (mayI x)) [] := by
  obtain ⟨op, r, a, b, nn, tg, ll, le⟩ := x
  exact may_of op r a b nn tg ll le (nm op) _ _ _ _ _ _ (uses_does op) (name_does op)

theorem same_form : ∀ e0 e1 e2 e3 e4 e5 li n4 e6 n14 e8 n65 e7 st a0 wh : Bool, (e1 = true → e3 = false) → mayF e0 li (!n4) (st || wh || !n14) st (!n65) (!n14) e1 e2 (e1 || e3) e4 e5 a0 (!e7) (!e8) (!e6) = rigF e0 e1 e2 e3 e4 e5 li n4 e6 n14 e8 n65 e7 st a0 wh := by
  intro e0 e1 e2 e3 e4 e5 li n4 e6 n14 e8 n65 e7 st a0 wh
  cases e0
  case true => intro _; rfl
  cases e1
  case true => intro _; rfl
  cases e2
  case true => intro _; rfl
  intro _
  revert e3 e4 e5 li n4 e6 n14 e8 n65 e7 st a0 wh
  decide +kernel

theorem rightI_does (x : Ins) : Does Tryz.prog env 150 [aggX x] [] (sB (mayI x)) [] := by
  obtain ⟨op, r, a, b, nn, tg, ll, le⟩ := x
  have h := rig_of op r a b nn tg ll le (nm op) _ _ _ _ (alignR_does op) (nameR_does op) (lists_does op) (which_does op)
  rw [← same_form] at h
  · have e1 : (!(op != 4)) = decide (op = 4) := by rw [Bool.eq_iff_iff]; simp
    have e2 : (!(op != 14)) = decide (op = 14) := by rw [Bool.eq_iff_iff]; simp
    have e3 : (!(op != 65)) = decide (op = 65) := by rw [Bool.eq_iff_iff]; simp
    have e4 : (!(b != 0)) = (b == 0) := by simp [bne]
    have e5 : (!(nn != 0)) = (nn == 0) := by simp [bne]
    have e6 : (!decide ((tg.length : Int) > 0)) = ((tg.length : Int) == 0) := by rw [Bool.eq_iff_iff, Bool.not_eq_true', decide_eq_false_iff_not, beq_iff_eq]; omega
    have e7 : (decide (r < 0) || decide (r > 0)) = (r != 0) := by rw [Bool.eq_iff_iff, Bool.or_eq_true, decide_eq_true_eq, decide_eq_true_eq, bne_iff_ne]; omega
    rw [e1, e2, e3, e4, e5, e6, e7] at h
    exact h
  · intro q; rw [decide_eq_true_eq] at q; rw [decide_eq_false_iff_not]; omega

end Go.Proofs.YtgbphddecpjlhaaGreatDoor.N
end
