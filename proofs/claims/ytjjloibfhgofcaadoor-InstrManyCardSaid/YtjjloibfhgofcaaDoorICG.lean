/-
  One instruction: its operation's name, what the operation uses, whether it may be, as the program and as the document say.
-/
import Derived.Test.YtjjloibfhgofcaaDoorNm
namespace Go.Proofs.YtjjloibfhgofcaaDoor.N
open Go Go.Am

def namC (f : FuncId) (_ : List AV) (_ : Mem) : Option (AV × Mem) := cond (Nat.beq f 66) (some (.agg (nmL.map fun s => .p (.sc (.string s))), [])) none
def namS (op : Int) : FuncId → Nat → Nat → Option (AV → AV) := shapeAt [(32, 4, 2, .p (.sc (.string (nmL.getD op.toNat ⟨#[]⟩))))]
def useC (_op : Int) (n : Int) (st : Bool) (f : FuncId) (_ : List AV) (_ : Mem) : Option (AV × Mem) := cond (Nat.beq f 77) (some (.tup [sI .u32 n, sB st], [])) none
def mayC (_op _r _a _b _nn : Int) (_tg : List Int) (_ll _le : List Ins) (s : ByteArray) (u1 u2 u3 u4 u5 u6 : Bool) (f : FuncId) (_ : List AV) (_ : Mem) : Option (AV × Mem) := cond (Nat.beq f 32) (some (.p (.sc (.string s)), [])) (cond (Nat.beq f 63) (some (.agg [sB u1, sB u2, sB u3, sB u4, sB u5, sB u6], [])) none)
/- nam: 45 steps -/
noncomputable def namOrc (op : Int) : Orc := orcS namC noLed [] [(32, 2, 3), (32, 0, 0)] [(32, 4, 2)] (namS op)
def namSc : Sc := (.fork (.lit .fin) .fin)
noncomputable def namTree (op : Int) : Tree :=
  (.test (decide (op < 0))
   (.out (Out.ret (AV.p (PV.sc (Value.string (ByteArray.mk #[])))) []))
   (.test (decide (op ≥ 256))
    (.out (Out.ret (AV.p (PV.sc (Value.string (ByteArray.mk #[])))) []))
    (.call ⟨66, [], [], AV.agg (nmL.map fun s => .p (.sc (.string s))), []⟩
     (.must (inB op 256 && (op.toNat * 1).blt 256 && true)
      (.need ((nmL.map fun s => AV.p (PV.sc (.string s))).getD (op.toNat * 1) AV.junk = AV.p (PV.sc (Value.string (nmL.getD op.toNat (ByteArray.mk #[])))))
       (.out (Out.ret (AV.p (PV.sc (Value.string (nmL.getD op.toNat (ByteArray.mk #[]))))) [])))))))
theorem nam_tree (op : Int) : growF Tryd.prog env (namOrc op) 1000000 32 ([sI IntKind.i64 op]) ([]) namSc = namTree op := by kernel_rfl


/- alP: 134 steps -/
noncomputable def alPOrc : Orc := orcL noCall noLed [] [(77, 0, 0), (77, 0, 1), (77, 0, 2), (77, 0, 4), (77, 0, 3), (77, 0, 5), (77, 0, 7), (77, 0, 6)] []
def alPSc : Sc := (.fork (.yes .fin) (.fork .fin (.fork (.yes .fin) (.fork (.yes .fin) (.fork .fin (.fork (.yes .fin) (.fork (.yes .fin) .fin)))))))
noncomputable def alPTree (op : Int) : Tree :=
  (.test (op == 40)
   (.must (op == 40)
    (.out (Out.ret (AV.tup [AV.p (PV.sc (Value.int IntKind.u32 2)), AV.p (PV.sc (Value.bool true))]) [])))
   (.test (op == 54)
    (.out (Out.ret (AV.tup [AV.p (PV.sc (Value.int IntKind.u32 2)), AV.p (PV.sc (Value.bool true))]) []))
    (.test (op == 46)
     (.must (op == 46)
      (.out (Out.ret (AV.tup [AV.p (PV.sc (Value.int IntKind.u32 1)), AV.p (PV.sc (Value.bool true))]) [])))
     (.test (op == 47)
      (.must (op == 47)
       (.out (Out.ret (AV.tup [AV.p (PV.sc (Value.int IntKind.u32 1)), AV.p (PV.sc (Value.bool true))]) [])))
      (.test (op == 59)
       (.out (Out.ret (AV.tup [AV.p (PV.sc (Value.int IntKind.u32 1)), AV.p (PV.sc (Value.bool true))]) []))
       (.test (op == 44)
        (.must (op == 44)
         (.out (Out.ret (AV.tup [AV.p (PV.sc (Value.int IntKind.u32 0)), AV.p (PV.sc (Value.bool true))]) [])))
        (.test (op == 45)
         (.must (op == 45)
          (.out (Out.ret (AV.tup [AV.p (PV.sc (Value.int IntKind.u32 0)), AV.p (PV.sc (Value.bool true))]) [])))
         (.test (op == 58)
          (.out (Out.ret (AV.tup [AV.p (PV.sc (Value.int IntKind.u32 0)), AV.p (PV.sc (Value.bool true))]) []))
          (.out (Out.ret (AV.tup [AV.p (PV.sc (Value.int IntKind.u32 0)), AV.p (PV.sc (Value.bool false))]) []))))))))))
theorem alP_tree (op : Int) : growF Tryd.prog env alPOrc 1000000 77 ([sI IntKind.i64 op]) ([]) alPSc = alPTree op := by kernel_rfl

/- alR: 134 steps -/
noncomputable def alROrc : Orc := orcL noCall noLed [] [(78, 0, 0), (78, 0, 1), (78, 0, 2), (78, 0, 4), (78, 0, 3), (78, 0, 5), (78, 0, 7), (78, 0, 6)] []
def alRSc : Sc := (.fork (.yes .fin) (.fork .fin (.fork (.yes .fin) (.fork (.yes .fin) (.fork .fin (.fork (.yes .fin) (.fork (.yes .fin) .fin)))))))
noncomputable def alRTree (op : Int) : Tree :=
  (.test (op == 40)
   (.must (op == 40)
    (.out (Out.ret (AV.tup [AV.p (PV.sc (Value.int IntKind.u32 2)), AV.p (PV.sc (Value.bool true))]) [])))
   (.test (op == 54)
    (.out (Out.ret (AV.tup [AV.p (PV.sc (Value.int IntKind.u32 2)), AV.p (PV.sc (Value.bool true))]) []))
    (.test (op == 46)
     (.must (op == 46)
      (.out (Out.ret (AV.tup [AV.p (PV.sc (Value.int IntKind.u32 1)), AV.p (PV.sc (Value.bool true))]) [])))
     (.test (op == 47)
      (.must (op == 47)
       (.out (Out.ret (AV.tup [AV.p (PV.sc (Value.int IntKind.u32 1)), AV.p (PV.sc (Value.bool true))]) [])))
      (.test (op == 59)
       (.out (Out.ret (AV.tup [AV.p (PV.sc (Value.int IntKind.u32 1)), AV.p (PV.sc (Value.bool true))]) []))
       (.test (op == 44)
        (.must (op == 44)
         (.out (Out.ret (AV.tup [AV.p (PV.sc (Value.int IntKind.u32 0)), AV.p (PV.sc (Value.bool true))]) [])))
        (.test (op == 45)
         (.must (op == 45)
          (.out (Out.ret (AV.tup [AV.p (PV.sc (Value.int IntKind.u32 0)), AV.p (PV.sc (Value.bool true))]) [])))
         (.test (op == 58)
          (.out (Out.ret (AV.tup [AV.p (PV.sc (Value.int IntKind.u32 0)), AV.p (PV.sc (Value.bool true))]) []))
          (.out (Out.ret (AV.tup [AV.p (PV.sc (Value.int IntKind.u32 0)), AV.p (PV.sc (Value.bool false))]) []))))))))))
theorem alR_tree (op : Int) : growF Tryd.prog env alROrc 1000000 78 ([sI IntKind.i64 op]) ([]) alRSc = alRTree op := by kernel_rfl

/- lis: 46 steps -/
noncomputable def lisOrc : Orc := orcL noCall noLed [] [(80, 2, 3), (80, 2, 7)] []
def lisSc : Sc := (.fork (.lit .fin) .fin)
noncomputable def lisTree (op : Int) : Tree :=
  (.test (op == 2)
   (.out (Out.ret (AV.p (PV.sc (Value.bool true))) []))
   (.test (op == 3)
    (.out (Out.ret (AV.p (PV.sc (Value.bool true))) []))
    (.out (Out.ret (AV.p (PV.sc (Value.bool (op == 4)))) []))))
theorem lis_tree (op : Int) : growF Tryd.prog env lisOrc 1000000 80 ([sI IntKind.i64 op]) ([]) lisSc = lisTree op := by kernel_rfl

/- whi: 146 steps -/
noncomputable def whiOrc : Orc := orcL noCall noLed [] [(81, 2, 3), (81, 2, 7), (81, 2, 11), (81, 2, 15), (81, 2, 18)] []
def whiSc : Sc := (.fork (.lit (.lit (.lit .fin))) (.fork (.lit (.lit .fin)) (.fork (.lit .fin) .fin)))
noncomputable def whiTree (op : Int) : Tree :=
  (.test (op == 12)
   (.out (Out.ret (AV.p (PV.sc (Value.bool true))) []))
   (.test (op == 13)
    (.out (Out.ret (AV.p (PV.sc (Value.bool true))) []))
    (.test (op == 16)
     (.out (Out.ret (AV.p (PV.sc (Value.bool true))) []))
     (.test (op == 17)
      (.out (Out.ret (AV.p (PV.sc (Value.bool true))) []))
      (.test (decide (op ≥ 32))
       (.out (Out.ret (AV.p (PV.sc (Value.bool (decide (op ≤ 36))))) []))
       (.out (Out.ret (AV.p (PV.sc (Value.bool false))) [])))))))
theorem whi_tree (op : Int) : growF Tryd.prog env whiOrc 1000000 81 ([sI IntKind.i64 op]) ([]) whiSc = whiTree op := by kernel_rfl

/- use: 243 steps -/
noncomputable def useOrc (op : Int) (n : Int) (st : Bool) : Orc := orcL (useC op n st) noLed [] [(63, 0, 0), (63, 0, 1), (63, 0, 2), (63, 0, 3), (63, 0, 4), (63, 0, 12), (63, 0, 5), (63, 0, 6), (63, 0, 7), (63, 0, 8), (63, 0, 9), (63, 0, 10), (63, 0, 11), (63, 0, 13), (63, 0, 14)] []
def useSc : Sc := (.fork .fin (.fork (.yes .fin) (.fork .fin (.fork .fin (.fork (.yes .fin) (.fork (.yes .fin) (.fork (.yes .fin) (.fork (.yes .fin) (.fork (.yes .fin) (.fork (.yes .fin) (.fork (.yes .fin) (.fork (.yes .fin) .fin))))))))))))
noncomputable def useTree (op : Int) (n : Int) (st : Bool) : Tree :=
  (.call ⟨77, [AV.p (PV.sc (Value.int IntKind.i64 op))], [], AV.tup [AV.p (PV.sc (Value.int IntKind.u32 n)), AV.p (PV.sc (Value.bool st))], []⟩
   (.test (st)
    (.out (Out.ret (AV.agg [AV.p (PV.sc (Value.bool false)), AV.p (PV.sc (Value.bool false)), AV.p (PV.sc (Value.bool true)), AV.p (PV.sc (Value.bool true)), AV.p (PV.sc (Value.bool false)), AV.p (PV.sc (Value.bool false))]) []))
    (.test (op == 2)
     (.must (op == 2)
      (.out (Out.ret (AV.agg [AV.p (PV.sc (Value.bool true)), AV.p (PV.sc (Value.bool false)), AV.p (PV.sc (Value.bool false)), AV.p (PV.sc (Value.bool false)), AV.p (PV.sc (Value.bool false)), AV.p (PV.sc (Value.bool false))]) [])))
     (.test (op == 3)
      (.out (Out.ret (AV.agg [AV.p (PV.sc (Value.bool true)), AV.p (PV.sc (Value.bool false)), AV.p (PV.sc (Value.bool false)), AV.p (PV.sc (Value.bool false)), AV.p (PV.sc (Value.bool false)), AV.p (PV.sc (Value.bool false))]) []))
      (.test (op == 4)
       (.out (Out.ret (AV.agg [AV.p (PV.sc (Value.bool true)), AV.p (PV.sc (Value.bool true)), AV.p (PV.sc (Value.bool false)), AV.p (PV.sc (Value.bool false)), AV.p (PV.sc (Value.bool false)), AV.p (PV.sc (Value.bool false))]) []))
       (.test (op == 12)
        (.must (op == 12)
         (.out (Out.ret (AV.agg [AV.p (PV.sc (Value.bool false)), AV.p (PV.sc (Value.bool false)), AV.p (PV.sc (Value.bool true)), AV.p (PV.sc (Value.bool false)), AV.p (PV.sc (Value.bool false)), AV.p (PV.sc (Value.bool false))]) [])))
        (.test (op == 13)
         (.must (op == 13)
          (.out (Out.ret (AV.agg [AV.p (PV.sc (Value.bool false)), AV.p (PV.sc (Value.bool false)), AV.p (PV.sc (Value.bool true)), AV.p (PV.sc (Value.bool false)), AV.p (PV.sc (Value.bool false)), AV.p (PV.sc (Value.bool false))]) [])))
         (.test (op == 16)
          (.must (op == 16)
           (.out (Out.ret (AV.agg [AV.p (PV.sc (Value.bool false)), AV.p (PV.sc (Value.bool false)), AV.p (PV.sc (Value.bool true)), AV.p (PV.sc (Value.bool false)), AV.p (PV.sc (Value.bool false)), AV.p (PV.sc (Value.bool false))]) [])))
          (.test (op == 17)
           (.must (op == 17)
            (.out (Out.ret (AV.agg [AV.p (PV.sc (Value.bool false)), AV.p (PV.sc (Value.bool false)), AV.p (PV.sc (Value.bool true)), AV.p (PV.sc (Value.bool false)), AV.p (PV.sc (Value.bool false)), AV.p (PV.sc (Value.bool false))]) [])))
           (.test (op == 32)
            (.must (op == 32)
             (.out (Out.ret (AV.agg [AV.p (PV.sc (Value.bool false)), AV.p (PV.sc (Value.bool false)), AV.p (PV.sc (Value.bool true)), AV.p (PV.sc (Value.bool false)), AV.p (PV.sc (Value.bool false)), AV.p (PV.sc (Value.bool false))]) [])))
            (.test (op == 33)
             (.must (op == 33)
              (.out (Out.ret (AV.agg [AV.p (PV.sc (Value.bool false)), AV.p (PV.sc (Value.bool false)), AV.p (PV.sc (Value.bool true)), AV.p (PV.sc (Value.bool false)), AV.p (PV.sc (Value.bool false)), AV.p (PV.sc (Value.bool false))]) [])))
             (.test (op == 34)
              (.must (op == 34)
               (.out (Out.ret (AV.agg [AV.p (PV.sc (Value.bool false)), AV.p (PV.sc (Value.bool false)), AV.p (PV.sc (Value.bool true)), AV.p (PV.sc (Value.bool false)), AV.p (PV.sc (Value.bool false)), AV.p (PV.sc (Value.bool false))]) [])))
              (.test (op == 35)
               (.must (op == 35)
                (.out (Out.ret (AV.agg [AV.p (PV.sc (Value.bool false)), AV.p (PV.sc (Value.bool false)), AV.p (PV.sc (Value.bool true)), AV.p (PV.sc (Value.bool false)), AV.p (PV.sc (Value.bool false)), AV.p (PV.sc (Value.bool false))]) [])))
               (.test (op == 36)
                (.out (Out.ret (AV.agg [AV.p (PV.sc (Value.bool false)), AV.p (PV.sc (Value.bool false)), AV.p (PV.sc (Value.bool true)), AV.p (PV.sc (Value.bool false)), AV.p (PV.sc (Value.bool false)), AV.p (PV.sc (Value.bool false))]) []))
                (.test (op == 14)
                 (.out (Out.ret (AV.agg [AV.p (PV.sc (Value.bool false)), AV.p (PV.sc (Value.bool false)), AV.p (PV.sc (Value.bool true)), AV.p (PV.sc (Value.bool false)), AV.p (PV.sc (Value.bool false)), AV.p (PV.sc (Value.bool true))]) []))
                 (.test (op == 65)
                  (.out (Out.ret (AV.agg [AV.p (PV.sc (Value.bool false)), AV.p (PV.sc (Value.bool false)), AV.p (PV.sc (Value.bool false)), AV.p (PV.sc (Value.bool false)), AV.p (PV.sc (Value.bool true)), AV.p (PV.sc (Value.bool false))]) []))
                  (.out (Out.ret (AV.agg [AV.p (PV.sc (Value.bool false)), AV.p (PV.sc (Value.bool false)), AV.p (PV.sc (Value.bool false)), AV.p (PV.sc (Value.bool false)), AV.p (PV.sc (Value.bool false)), AV.p (PV.sc (Value.bool false))]) []))))))))))))))))))
theorem use_tree (op : Int) (n : Int) (st : Bool) : growF Tryd.prog env (useOrc op n st) 1000000 63 ([sI IntKind.i64 op]) ([]) useSc = useTree op n st := by kernel_rfl

/- may: 2680 steps -/
noncomputable def mayOrc (op : Int) (r : Int) (a : Int) (b : Int) (nn : Int) (tg : List Int) (ll : List Ins) (le : List Ins) (s : ByteArray) (u1 : Bool) (u2 : Bool) (u3 : Bool) (u4 : Bool) (u5 : Bool) (u6 : Bool) : Orc := orcL (mayC op r a b nn tg ll le s u1 u2 u3 u4 u5 u6) noLed [] [(26, 0, 0), (26, 0, 3), (26, 4, 4), (26, 0, 1), (26, 5, 4), (26, 5, 8), (26, 0, 2), (26, 6, 4), (26, 8, 3), (26, 8, 11), (26, 8, 20), (26, 8, 29), (26, 8, 26), (26, 8, 17), (26, 8, 8)] []
def maySc : Sc := (.fork (.yes .fin) (.fork (.lit (.lit .fin)) (.fork (.yes .fin) (.fork (.fork (.lit (.lit .fin)) (.fork (.yes .fin) (.fork (.fork .fin (.fork (.lit (.fork (.lit (.fork (.lit .fin) .fin)) (.fork (.fork (.lit .fin) .fin) (.lit .fin)))) (.fork (.fork (.lit (.fork (.lit .fin) .fin)) (.fork (.fork (.lit .fin) .fin) (.lit .fin))) (.lit (.lit .fin))))) (.lit (.fork (.lit (.fork (.lit (.fork (.lit .fin) .fin)) (.fork (.fork (.lit .fin) .fin) (.lit .fin)))) (.fork (.fork (.lit (.fork (.lit .fin) .fin)) (.fork (.fork (.lit .fin) .fin) (.lit .fin))) (.lit (.lit .fin)))))))) (.lit (.fork (.fork .fin (.fork (.lit (.fork (.lit (.fork (.lit .fin) .fin)) (.fork (.fork (.lit .fin) .fin) (.lit .fin)))) (.fork (.fork (.lit (.fork (.lit .fin) .fin)) (.fork (.fork (.lit .fin) .fin) (.lit .fin))) (.lit (.lit .fin))))) (.lit (.fork (.lit (.fork (.lit (.fork (.lit .fin) .fin)) (.fork (.fork (.lit .fin) .fin) (.lit .fin)))) (.fork (.fork (.lit (.fork (.lit .fin) .fin)) (.fork (.fork (.lit .fin) .fin) (.lit .fin))) (.lit (.lit .fin)))))))))))
noncomputable def mayTree (op : Int) (r : Int) (a : Int) (b : Int) (nn : Int) (tg : List Int) (ll : List Ins) (le : List Ins) (s : ByteArray) (u1 : Bool) (u2 : Bool) (u3 : Bool) (u4 : Bool) (u5 : Bool) (u6 : Bool) : Tree :=
  (.call ⟨63, [AV.p (PV.sc (Value.int IntKind.i64 op))], [], AV.agg [AV.p (PV.sc (Value.bool u1)), AV.p (PV.sc (Value.bool u2)), AV.p (PV.sc (Value.bool u3)), AV.p (PV.sc (Value.bool u4)), AV.p (PV.sc (Value.bool u5)), AV.p (PV.sc (Value.bool u6))], []⟩
   (.call ⟨32, [AV.p (PV.sc (Value.int IntKind.i64 op))], [], AV.p (PV.sc (Value.string s)), []⟩
    (.test (s.data.toList == (ByteArray.mk #[]).data.toList)
     (.must (s.data.toList == (ByteArray.mk #[]).data.toList)
      (.out (Out.ret (AV.p (PV.sc (Value.bool false))) [])))
     (.test (decide (r < 0))
      (.out (Out.ret (AV.p (PV.sc (Value.bool false))) []))
      (.test (decide (r > 1))
       (.must (decide (r > 1))
        (.out (Out.ret (AV.p (PV.sc (Value.bool false))) [])))
       (.test (!u1)
        (.test (r != 0)
         (.out (Out.ret (AV.p (PV.sc (Value.bool false))) []))
         (.test (decide ((↑ll.length : Int) > 0))
          (.must (decide ((↑ll.length : Int) > 0))
           (.out (Out.ret (AV.p (PV.sc (Value.bool false))) [])))
          (.test (!u2)
           (.test (decide ((↑le.length : Int) > 0))
            (.out (Out.ret (AV.p (PV.sc (Value.bool false))) []))
            (.test (u3)
             (.test (u4)
              (.test (u5)
               (.test (u6)
                (.out (Out.ret (AV.p (PV.sc (Value.bool true))) []))
                (.out (Out.ret (AV.p (PV.sc (Value.bool ((↑tg.length : Int) == 0)))) [])))
               (.test (nn == 0)
                (.test (u6)
                 (.out (Out.ret (AV.p (PV.sc (Value.bool true))) []))
                 (.out (Out.ret (AV.p (PV.sc (Value.bool ((↑tg.length : Int) == 0)))) [])))
                (.out (Out.ret (AV.p (PV.sc (Value.bool false))) []))))
              (.test (b == 0)
               (.test (u5)
                (.test (u6)
                 (.out (Out.ret (AV.p (PV.sc (Value.bool true))) []))
                 (.out (Out.ret (AV.p (PV.sc (Value.bool ((↑tg.length : Int) == 0)))) [])))
                (.test (nn == 0)
                 (.test (u6)
                  (.out (Out.ret (AV.p (PV.sc (Value.bool true))) []))
                  (.out (Out.ret (AV.p (PV.sc (Value.bool ((↑tg.length : Int) == 0)))) [])))
                 (.out (Out.ret (AV.p (PV.sc (Value.bool false))) []))))
               (.out (Out.ret (AV.p (PV.sc (Value.bool false))) []))))
             (.test (a == 0)
              (.test (u4)
               (.test (u5)
                (.test (u6)
                 (.out (Out.ret (AV.p (PV.sc (Value.bool true))) []))
                 (.out (Out.ret (AV.p (PV.sc (Value.bool ((↑tg.length : Int) == 0)))) [])))
                (.test (nn == 0)
                 (.test (u6)
                  (.out (Out.ret (AV.p (PV.sc (Value.bool true))) []))
                  (.out (Out.ret (AV.p (PV.sc (Value.bool ((↑tg.length : Int) == 0)))) [])))
                 (.out (Out.ret (AV.p (PV.sc (Value.bool false))) []))))
               (.test (b == 0)
                (.test (u5)
                 (.test (u6)
                  (.out (Out.ret (AV.p (PV.sc (Value.bool true))) []))
                  (.out (Out.ret (AV.p (PV.sc (Value.bool ((↑tg.length : Int) == 0)))) [])))
                 (.test (nn == 0)
                  (.test (u6)
                   (.out (Out.ret (AV.p (PV.sc (Value.bool true))) []))
                   (.out (Out.ret (AV.p (PV.sc (Value.bool ((↑tg.length : Int) == 0)))) [])))
                  (.out (Out.ret (AV.p (PV.sc (Value.bool false))) []))))
                (.out (Out.ret (AV.p (PV.sc (Value.bool false))) []))))
              (.out (Out.ret (AV.p (PV.sc (Value.bool false))) [])))))
           (.test (u3)
            (.test (u4)
             (.test (u5)
              (.test (u6)
               (.out (Out.ret (AV.p (PV.sc (Value.bool true))) []))
               (.out (Out.ret (AV.p (PV.sc (Value.bool ((↑tg.length : Int) == 0)))) [])))
              (.test (nn == 0)
               (.test (u6)
                (.out (Out.ret (AV.p (PV.sc (Value.bool true))) []))
                (.out (Out.ret (AV.p (PV.sc (Value.bool ((↑tg.length : Int) == 0)))) [])))
               (.out (Out.ret (AV.p (PV.sc (Value.bool false))) []))))
             (.test (b == 0)
              (.test (u5)
               (.test (u6)
                (.out (Out.ret (AV.p (PV.sc (Value.bool true))) []))
                (.out (Out.ret (AV.p (PV.sc (Value.bool ((↑tg.length : Int) == 0)))) [])))
               (.test (nn == 0)
                (.test (u6)
                 (.out (Out.ret (AV.p (PV.sc (Value.bool true))) []))
                 (.out (Out.ret (AV.p (PV.sc (Value.bool ((↑tg.length : Int) == 0)))) [])))
                (.out (Out.ret (AV.p (PV.sc (Value.bool false))) []))))
              (.out (Out.ret (AV.p (PV.sc (Value.bool false))) []))))
            (.test (a == 0)
             (.test (u4)
              (.test (u5)
               (.test (u6)
                (.out (Out.ret (AV.p (PV.sc (Value.bool true))) []))
                (.out (Out.ret (AV.p (PV.sc (Value.bool ((↑tg.length : Int) == 0)))) [])))
               (.test (nn == 0)
                (.test (u6)
                 (.out (Out.ret (AV.p (PV.sc (Value.bool true))) []))
                 (.out (Out.ret (AV.p (PV.sc (Value.bool ((↑tg.length : Int) == 0)))) [])))
                (.out (Out.ret (AV.p (PV.sc (Value.bool false))) []))))
              (.test (b == 0)
               (.test (u5)
                (.test (u6)
                 (.out (Out.ret (AV.p (PV.sc (Value.bool true))) []))
                 (.out (Out.ret (AV.p (PV.sc (Value.bool ((↑tg.length : Int) == 0)))) [])))
                (.test (nn == 0)
                 (.test (u6)
                  (.out (Out.ret (AV.p (PV.sc (Value.bool true))) []))
                  (.out (Out.ret (AV.p (PV.sc (Value.bool ((↑tg.length : Int) == 0)))) [])))
                 (.out (Out.ret (AV.p (PV.sc (Value.bool false))) []))))
               (.out (Out.ret (AV.p (PV.sc (Value.bool false))) []))))
             (.out (Out.ret (AV.p (PV.sc (Value.bool false))) [])))))))
        (.test (!u2)
         (.test (decide ((↑le.length : Int) > 0))
          (.out (Out.ret (AV.p (PV.sc (Value.bool false))) []))
          (.test (u3)
           (.test (u4)
            (.test (u5)
             (.test (u6)
              (.out (Out.ret (AV.p (PV.sc (Value.bool true))) []))
              (.out (Out.ret (AV.p (PV.sc (Value.bool ((↑tg.length : Int) == 0)))) [])))
             (.test (nn == 0)
              (.test (u6)
               (.out (Out.ret (AV.p (PV.sc (Value.bool true))) []))
               (.out (Out.ret (AV.p (PV.sc (Value.bool ((↑tg.length : Int) == 0)))) [])))
              (.out (Out.ret (AV.p (PV.sc (Value.bool false))) []))))
            (.test (b == 0)
             (.test (u5)
              (.test (u6)
               (.out (Out.ret (AV.p (PV.sc (Value.bool true))) []))
               (.out (Out.ret (AV.p (PV.sc (Value.bool ((↑tg.length : Int) == 0)))) [])))
              (.test (nn == 0)
               (.test (u6)
                (.out (Out.ret (AV.p (PV.sc (Value.bool true))) []))
                (.out (Out.ret (AV.p (PV.sc (Value.bool ((↑tg.length : Int) == 0)))) [])))
               (.out (Out.ret (AV.p (PV.sc (Value.bool false))) []))))
             (.out (Out.ret (AV.p (PV.sc (Value.bool false))) []))))
           (.test (a == 0)
            (.test (u4)
             (.test (u5)
              (.test (u6)
               (.out (Out.ret (AV.p (PV.sc (Value.bool true))) []))
               (.out (Out.ret (AV.p (PV.sc (Value.bool ((↑tg.length : Int) == 0)))) [])))
              (.test (nn == 0)
               (.test (u6)
                (.out (Out.ret (AV.p (PV.sc (Value.bool true))) []))
                (.out (Out.ret (AV.p (PV.sc (Value.bool ((↑tg.length : Int) == 0)))) [])))
               (.out (Out.ret (AV.p (PV.sc (Value.bool false))) []))))
             (.test (b == 0)
              (.test (u5)
               (.test (u6)
                (.out (Out.ret (AV.p (PV.sc (Value.bool true))) []))
                (.out (Out.ret (AV.p (PV.sc (Value.bool ((↑tg.length : Int) == 0)))) [])))
               (.test (nn == 0)
                (.test (u6)
                 (.out (Out.ret (AV.p (PV.sc (Value.bool true))) []))
                 (.out (Out.ret (AV.p (PV.sc (Value.bool ((↑tg.length : Int) == 0)))) [])))
                (.out (Out.ret (AV.p (PV.sc (Value.bool false))) []))))
              (.out (Out.ret (AV.p (PV.sc (Value.bool false))) []))))
            (.out (Out.ret (AV.p (PV.sc (Value.bool false))) [])))))
         (.test (u3)
          (.test (u4)
           (.test (u5)
            (.test (u6)
             (.out (Out.ret (AV.p (PV.sc (Value.bool true))) []))
             (.out (Out.ret (AV.p (PV.sc (Value.bool ((↑tg.length : Int) == 0)))) [])))
            (.test (nn == 0)
             (.test (u6)
              (.out (Out.ret (AV.p (PV.sc (Value.bool true))) []))
              (.out (Out.ret (AV.p (PV.sc (Value.bool ((↑tg.length : Int) == 0)))) [])))
             (.out (Out.ret (AV.p (PV.sc (Value.bool false))) []))))
           (.test (b == 0)
            (.test (u5)
             (.test (u6)
              (.out (Out.ret (AV.p (PV.sc (Value.bool true))) []))
              (.out (Out.ret (AV.p (PV.sc (Value.bool ((↑tg.length : Int) == 0)))) [])))
             (.test (nn == 0)
              (.test (u6)
               (.out (Out.ret (AV.p (PV.sc (Value.bool true))) []))
               (.out (Out.ret (AV.p (PV.sc (Value.bool ((↑tg.length : Int) == 0)))) [])))
              (.out (Out.ret (AV.p (PV.sc (Value.bool false))) []))))
            (.out (Out.ret (AV.p (PV.sc (Value.bool false))) []))))
          (.test (a == 0)
           (.test (u4)
            (.test (u5)
             (.test (u6)
              (.out (Out.ret (AV.p (PV.sc (Value.bool true))) []))
              (.out (Out.ret (AV.p (PV.sc (Value.bool ((↑tg.length : Int) == 0)))) [])))
             (.test (nn == 0)
              (.test (u6)
               (.out (Out.ret (AV.p (PV.sc (Value.bool true))) []))
               (.out (Out.ret (AV.p (PV.sc (Value.bool ((↑tg.length : Int) == 0)))) [])))
              (.out (Out.ret (AV.p (PV.sc (Value.bool false))) []))))
            (.test (b == 0)
             (.test (u5)
              (.test (u6)
               (.out (Out.ret (AV.p (PV.sc (Value.bool true))) []))
               (.out (Out.ret (AV.p (PV.sc (Value.bool ((↑tg.length : Int) == 0)))) [])))
              (.test (nn == 0)
               (.test (u6)
                (.out (Out.ret (AV.p (PV.sc (Value.bool true))) []))
                (.out (Out.ret (AV.p (PV.sc (Value.bool ((↑tg.length : Int) == 0)))) [])))
               (.out (Out.ret (AV.p (PV.sc (Value.bool false))) []))))
             (.out (Out.ret (AV.p (PV.sc (Value.bool false))) []))))
           (.out (Out.ret (AV.p (PV.sc (Value.bool false))) [])))))))))))
theorem may_tree (op : Int) (r : Int) (a : Int) (b : Int) (nn : Int) (tg : List Int) (ll : List Ins) (le : List Ins) (s : ByteArray) (u1 : Bool) (u2 : Bool) (u3 : Bool) (u4 : Bool) (u5 : Bool) (u6 : Bool) : growF Tryd.prog env (mayOrc op r a b nn tg ll le s u1 u2 u3 u4 u5 u6) 1000000 26 ([aggI op r a b nn tg ll le]) ([]) maySc = mayTree op r a b nn tg ll le s u1 u2 u3 u4 u5 u6 := by kernel_rfl


/-- The name of an operation; none: it is no operation. -/
def nm (op : Int) : ByteArray := if op < 0 ∨ 256 ≤ op then ⟨#[]⟩ else nmL.getD op.toNat ⟨#[]⟩

theorem name_does (op : Int) : Does Tryd.prog env 32 [sI .i64 op] [] (.p (.sc (.string (nm op)))) [] := by
  refine does_of_tree names (nam_tree op) ?_
  simp only [namTree, Tree.ok, decide_eq_true_eq, decide_eq_false_iff_not]
  have hlen : (nmL.map fun s => (AV.p (PV.sc (.string s)))).length = 256 := by kernel_rfl
  refine ⟨fun h => ?_, fun h => ⟨fun h2 => ?_, fun h2 => ⟨Nmdoes, ?_, ?_, ?_⟩⟩⟩
  · rw [nm, if_pos (.inl h)]
  · rw [nm, if_pos (.inr h2)]
  · simp [inB]; omega
  · have hl : op.toNat < (nmL.map fun s => (AV.p (PV.sc (.string s)))).length := by rw [hlen]; omega
    rw [Nat.mul_one, List.getD_eq_getElem?_getD, List.getElem?_eq_getElem hl, Option.getD_some, List.getElem_map, List.getD_eq_getElem?_getD, List.getElem?_eq_getElem (by simpa using hl), Option.getD_some]
  · rw [nm, if_neg (by omega)]

/-- A load, or a store. -/
def isSt (op : Int) : Bool := decide (op = 40 ∨ op = 44 ∨ op = 45 ∨ op = 46 ∨ op = 47 ∨ op = 54 ∨ op = 58 ∨ op = 59)
def alignN (op : Int) : Int := if op = 40 ∨ op = 54 then 2 else if op = 46 ∨ op = 47 ∨ op = 59 then 1 else 0
/-- An operation with lists; with A alone. -/
def isLi (op : Int) : Bool := decide (op = 2 ∨ op = 3 ∨ op = 4)
def isWh (op : Int) : Bool := decide (op = 12 ∨ op = 13 ∨ op = 16 ∨ op = 17 ∨ (32 ≤ op ∧ op ≤ 36))

theorem align_does (op : Int) : Does Tryd.prog env 77 [sI .i64 op] [] (.tup [sI .u32 (alignN op), sB (isSt op)]) [] := by
  refine does_of_tree names (alP_tree op) ?_
  simp only [alPTree, Tree.ok, beq_iff_eq, beq_eq_false_iff_ne]
  repeat' first | apply And.intro | (intro h)
  all_goals first | assumption | (simp only [alignN, isSt]; simp_all; done)

theorem alignR_does (op : Int) : Does Tryd.prog env 78 [sI .i64 op] [] (.tup [sI .u32 (alignN op), sB (isSt op)]) [] := by
  refine does_of_tree names (alR_tree op) ?_
  simp only [alRTree, Tree.ok, beq_iff_eq, beq_eq_false_iff_ne]
  repeat' first | apply And.intro | (intro h)
  all_goals first | assumption | (simp only [alignN, isSt]; simp_all; done)

theorem lists_does (op : Int) : Does Tryd.prog env 80 [sI .i64 op] [] (sB (isLi op)) [] := by
  refine does_of_tree names (lis_tree op) ?_
  simp only [lisTree, Tree.ok, beq_iff_eq, beq_eq_false_iff_ne]
  repeat' first | apply And.intro | (intro h)
  all_goals (simp only [isLi]; congr 4; rw [Bool.eq_iff_iff]; simp only [beq_iff_eq, decide_eq_true_eq, true_iff]; omega)

theorem which_does (op : Int) : Does Tryd.prog env 81 [sI .i64 op] [] (sB (isWh op)) [] := by
  refine does_of_tree names (whi_tree op) ?_
  simp only [whiTree, Tree.ok, beq_iff_eq, beq_eq_false_iff_ne, decide_eq_true_eq, decide_eq_false_iff_not]
  repeat' first | apply And.intro | (intro h)
  all_goals (simp only [isWh]; congr 4; simp only [true_eq_decide_iff, false_eq_decide_iff, decide_eq_decide]; omega)

/-- What an operation uses. -/
def useV (op : Int) : AV := .agg [sB (isLi op), sB (decide (op = 4)), sB (isSt op || isWh op || decide (op = 14)), sB (isSt op), sB (decide (op = 65)), sB (decide (op = 14))]

theorem use_eq {op : Int} {x1 x2 x3 x4 x5 x6 : Bool} (h1 : x1 = true ↔ isLi op = true) (h2 : x2 = true ↔ op = 4) (h3 : x3 = true ↔ isSt op = true ∨ isWh op = true ∨ op = 14) (h4 : x4 = true ↔ isSt op = true) (h5 : x5 = true ↔ op = 65) (h6 : x6 = true ↔ op = 14) :
    Out.ret (.agg [.p (.sc (.bool x1)), .p (.sc (.bool x2)), .p (.sc (.bool x3)), .p (.sc (.bool x4)), .p (.sc (.bool x5)), .p (.sc (.bool x6))]) [] = Out.ret (useV op) [] := by
  obtain rfl : x1 = isLi op := Bool.eq_iff_iff.2 h1
  obtain rfl : x2 = decide (op = 4) := Bool.eq_iff_iff.2 (by rw [h2, decide_eq_true_eq])
  obtain rfl : x3 = (isSt op || isWh op || decide (op = 14)) := Bool.eq_iff_iff.2 (by rw [h3, Bool.or_eq_true, Bool.or_eq_true, decide_eq_true_eq, or_assoc])
  obtain rfl : x4 = isSt op := Bool.eq_iff_iff.2 h4
  obtain rfl : x5 = decide (op = 65) := Bool.eq_iff_iff.2 (by rw [h5, decide_eq_true_eq])
  obtain rfl : x6 = decide (op = 14) := Bool.eq_iff_iff.2 (by rw [h6, decide_eq_true_eq])
  rfl

theorem isSt_iff {op : Int} : isSt op = true ↔ (op = 40 ∨ op = 44 ∨ op = 45 ∨ op = 46 ∨ op = 47 ∨ op = 54 ∨ op = 58 ∨ op = 59) := decide_eq_true_iff
theorem isLi_iff {op : Int} : isLi op = true ↔ (op = 2 ∨ op = 3 ∨ op = 4) := decide_eq_true_iff
theorem isWh_iff {op : Int} : isWh op = true ↔ (op = 12 ∨ op = 13 ∨ op = 16 ∨ op = 17 ∨ (32 ≤ op ∧ op ≤ 36)) := decide_eq_true_iff

set_option maxHeartbeats 2000000 in
theorem uses_does (op : Int) : Does Tryd.prog env 63 [sI .i64 op] [] (useV op) [] := by
  refine does_of_tree names (use_tree op (alignN op) (isSt op)) ?_
  simp only [useTree, Tree.ok, beq_iff_eq, beq_eq_false_iff_ne]
  refine ⟨align_does op, ?_⟩
  rw [← Bool.not_eq_true, isSt_iff]
  repeat' first | apply And.intro | (intro h)
  all_goals first | assumption | (refine use_eq ?_ ?_ ?_ ?_ ?_ ?_ <;> simp only [isSt_iff, isLi_iff, isWh_iff, true_iff, Bool.false_eq_true, false_iff] <;> omega)

/-- May an instruction be, where its operation has this name and uses this? -/
def mayF (e0 u1 u2 u3 u4 u5 u6 e1 e2 e3 e4 e5 e6 e7 e8 e9 : Bool) : Bool := !e0 && (!e1 && (!e2 && ((u1 || !(e3 || e4)) && ((u2 || !e5) && ((u3 || e6) && ((u4 || e7) && ((u5 || e8) && (u6 || e9))))))))

set_option maxHeartbeats 4000000 in
theorem may_of (op r a b nn : Int) (tg : List Int) (ll le : List Ins) (s : ByteArray) (u1 u2 u3 u4 u5 u6 : Bool) (h1 : Does Tryd.prog env 63 [sI .i64 op] [] (.agg [sB u1, sB u2, sB u3, sB u4, sB u5, sB u6]) []) (h2 : Does Tryd.prog env 32 [sI .i64 op] [] (.p (.sc (.string s))) []) :
    Does Tryd.prog env 26 [aggI op r a b nn tg ll le] [] (sB (mayF (s.data.toList == (ByteArray.mk #[]).data.toList) u1 u2 u3 u4 u5 u6 (decide (r < 0)) (decide (r > 1)) (r != 0) (decide ((ll.length : Int) > 0)) (decide ((le.length : Int) > 0)) (a == 0) (b == 0) (nn == 0) ((tg.length : Int) == 0))) [] := by
  refine does_of_tree names (may_tree op r a b nn tg ll le s u1 u2 u3 u4 u5 u6) ?_
  simp only [mayTree, Tree.ok]
  refine ⟨h1, h2, ?_⟩
  generalize (s.data.toList == (ByteArray.mk #[]).data.toList) = e0
  generalize decide (r < 0) = e1
  generalize decide (r > 1) = e2
  generalize (r != 0) = e3
  generalize decide ((ll.length : Int) > 0) = e4
  generalize decide ((le.length : Int) > 0) = e5
  generalize (a == 0) = e6
  generalize (b == 0) = e7
  generalize (nn == 0) = e8
  generalize ((tg.length : Int) == 0) = e9
  cases e0
  case true => simp [mayF]
  cases e1
  case true => simp [mayF]
  cases e2
  case true => simp [mayF]
  cases u1 <;> cases e3 <;> cases e4 <;> (try (simp [mayF]; done)) <;> cases u2 <;> cases e5 <;> (try (simp [mayF]; done)) <;> cases u3 <;> cases e6 <;> (try (simp [mayF]; done)) <;> cases u4 <;> cases e7 <;> (try (simp [mayF]; done)) <;> cases u5 <;> cases e8 <;> (try (simp [mayF]; done)) <;> cases u6 <;> simp [mayF]

end Go.Proofs.YtjjloibfhgofcaaDoor.N
