/-
  Nm: its call, run, in pieces.
  One instruction: its operation's name, what the operation uses, whether it may be, as the program and as the document say.
-/
import Derived.Test.YtgbphddecpjlhaaGreatDoorMI

section
namespace Go.Proofs.YtgbphddecpjlhaaGreatDoor.N
open Go Go.Am

def Nmc0 : Call' := ⟨169, [.p (.sc (.string ⟨#[101, 113, 122, 32, 101, 113, 32, 110, 101, 32, 108, 116, 95, 115, 32, 108, 116, 95, 117, 32, 103, 116, 95, 115, 32, 103, 116, 95, 117, 32, 108, 101, 95, 115, 32, 108, 101, 95, 117, 32, 103, 101, 95, 115, 32, 103, 101, 95, 117]⟩))], [], .p (.ps 11 1 [.sc (.string ⟨#[101, 113, 122]⟩), .sc (.string ⟨#[101, 113]⟩), .sc (.string ⟨#[110, 101]⟩), .sc (.string ⟨#[108, 116, 95, 115]⟩), .sc (.string ⟨#[108, 116, 95, 117]⟩), .sc (.string ⟨#[103, 116, 95, 115]⟩), .sc (.string ⟨#[103, 116, 95, 117]⟩), .sc (.string ⟨#[108, 101, 95, 115]⟩), .sc (.string ⟨#[108, 101, 95, 117]⟩), .sc (.string ⟨#[103, 101, 95, 115]⟩), .sc (.string ⟨#[103, 101, 95, 117]⟩)]), []⟩
theorem Nmd0 : Does Tryz.prog env Nmc0.g Nmc0.args Nmc0.m Nmc0.v Nmc0.m' := does_fast names (K := []) calls_nil (n := 10000000) (by kernel_rfl)
def NmK1 : List Call' := Nmc0 :: []
theorem NmK1ok : Calls' Tryz.prog env NmK1 := calls_cons Nmd0 calls_nil

def Nmc1 : Call' := ⟨169, [.p (.sc (.string ⟨#[99, 108, 122, 32, 99, 116, 122, 32, 112, 111, 112, 99, 110, 116, 32, 97, 100, 100, 32, 115, 117, 98, 32, 109, 117, 108, 32, 100, 105, 118, 95, 115, 32, 100, 105, 118, 95, 117, 32, 114, 101, 109, 95, 115, 32, 114, 101, 109, 95, 117, 32, 97, 110, 100, 32, 111, 114, 32, 120, 111, 114, 32, 115, 104, 108, 32, 115, 104, 114, 95, 115, 32, 115, 104, 114, 95, 117, 32, 114, 111, 116, 108, 32, 114, 111, 116, 114]⟩))], [], .p (.ps 18 1 [.sc (.string ⟨#[99, 108, 122]⟩), .sc (.string ⟨#[99, 116, 122]⟩), .sc (.string ⟨#[112, 111, 112, 99, 110, 116]⟩), .sc (.string ⟨#[97, 100, 100]⟩), .sc (.string ⟨#[115, 117, 98]⟩), .sc (.string ⟨#[109, 117, 108]⟩), .sc (.string ⟨#[100, 105, 118, 95, 115]⟩), .sc (.string ⟨#[100, 105, 118, 95, 117]⟩), .sc (.string ⟨#[114, 101, 109, 95, 115]⟩), .sc (.string ⟨#[114, 101, 109, 95, 117]⟩), .sc (.string ⟨#[97, 110, 100]⟩), .sc (.string ⟨#[111, 114]⟩), .sc (.string ⟨#[120, 111, 114]⟩), .sc (.string ⟨#[115, 104, 108]⟩), .sc (.string ⟨#[115, 104, 114, 95, 115]⟩), .sc (.string ⟨#[115, 104, 114, 95, 117]⟩), .sc (.string ⟨#[114, 111, 116, 108]⟩), .sc (.string ⟨#[114, 111, 116, 114]⟩)]), []⟩
theorem Nmd1 : Does Tryz.prog env Nmc1.g Nmc1.args Nmc1.m Nmc1.v Nmc1.m' := does_fast names (K := NmK1) NmK1ok (n := 10000000) (by kernel_rfl)
def NmK2 : List Call' := Nmc1 :: NmK1
theorem NmK2ok : Calls' Tryz.prog env NmK2 := calls_cons Nmd1 NmK1ok

/-- The operations' names. -/
def nmL : List ByteArray := [⟨#[117, 110, 114, 101, 97, 99, 104, 97, 98, 108, 101]⟩, ⟨#[110, 111, 112]⟩, ⟨#[98, 108, 111, 99, 107]⟩, ⟨#[108, 111, 111, 112]⟩, ⟨#[105, 102]⟩, ⟨#[]⟩, ⟨#[]⟩, ⟨#[]⟩, ⟨#[]⟩, ⟨#[]⟩, ⟨#[]⟩, ⟨#[]⟩, ⟨#[98, 114]⟩, ⟨#[98, 114, 95, 105, 102]⟩, ⟨#[98, 114, 95, 116, 97, 98, 108, 101]⟩, ⟨#[114, 101, 116, 117, 114, 110]⟩, ⟨#[99, 97, 108, 108]⟩, ⟨#[99, 97, 108, 108, 95, 105, 110, 100, 105, 114, 101, 99, 116]⟩, ⟨#[]⟩, ⟨#[]⟩, ⟨#[]⟩, ⟨#[]⟩, ⟨#[]⟩, ⟨#[]⟩, ⟨#[]⟩, ⟨#[]⟩, ⟨#[100, 114, 111, 112]⟩, ⟨#[115, 101, 108, 101, 99, 116]⟩, ⟨#[]⟩, ⟨#[]⟩, ⟨#[]⟩, ⟨#[]⟩, ⟨#[108, 111, 99, 97, 108, 46, 103, 101, 116]⟩, ⟨#[108, 111, 99, 97, 108, 46, 115, 101, 116]⟩, ⟨#[108, 111, 99, 97, 108, 46, 116, 101, 101]⟩, ⟨#[103, 108, 111, 98, 97, 108, 46, 103, 101, 116]⟩, ⟨#[103, 108, 111, 98, 97, 108, 46, 115, 101, 116]⟩, ⟨#[]⟩, ⟨#[]⟩, ⟨#[]⟩, ⟨#[105, 51, 50, 46, 108, 111, 97, 100]⟩, ⟨#[]⟩, ⟨#[]⟩, ⟨#[]⟩, ⟨#[105, 51, 50, 46, 108, 111, 97, 100, 56, 95, 115]⟩, ⟨#[105, 51, 50, 46, 108, 111, 97, 100, 56, 95, 117]⟩, ⟨#[105, 51, 50, 46, 108, 111, 97, 100, 49, 54, 95, 115]⟩, ⟨#[105, 51, 50, 46, 108, 111, 97, 100, 49, 54, 95, 117]⟩, ⟨#[]⟩, ⟨#[]⟩, ⟨#[]⟩, ⟨#[]⟩, ⟨#[]⟩, ⟨#[]⟩, ⟨#[105, 51, 50, 46, 115, 116, 111, 114, 101]⟩, ⟨#[]⟩, ⟨#[]⟩, ⟨#[]⟩, ⟨#[105, 51, 50, 46, 115, 116, 111, 114, 101, 56]⟩, ⟨#[105, 51, 50, 46, 115, 116, 111, 114, 101, 49, 54]⟩, ⟨#[]⟩, ⟨#[]⟩, ⟨#[]⟩, ⟨#[109, 101, 109, 111, 114, 121, 46, 115, 105, 122, 101]⟩, ⟨#[109, 101, 109, 111, 114, 121, 46, 103, 114, 111, 119]⟩, ⟨#[105, 51, 50, 46, 99, 111, 110, 115, 116]⟩, ⟨#[]⟩, ⟨#[]⟩, ⟨#[]⟩, ⟨#[105, 51, 50, 46, 101, 113, 122]⟩, ⟨#[105, 51, 50, 46, 101, 113]⟩, ⟨#[105, 51, 50, 46, 110, 101]⟩, ⟨#[105, 51, 50, 46, 108, 116, 95, 115]⟩, ⟨#[105, 51, 50, 46, 108, 116, 95, 117]⟩, ⟨#[105, 51, 50, 46, 103, 116, 95, 115]⟩, ⟨#[105, 51, 50, 46, 103, 116, 95, 117]⟩, ⟨#[105, 51, 50, 46, 108, 101, 95, 115]⟩, ⟨#[105, 51, 50, 46, 108, 101, 95, 117]⟩, ⟨#[105, 51, 50, 46, 103, 101, 95, 115]⟩, ⟨#[105, 51, 50, 46, 103, 101, 95, 117]⟩, ⟨#[]⟩, ⟨#[]⟩, ⟨#[]⟩, ⟨#[]⟩, ⟨#[]⟩, ⟨#[]⟩, ⟨#[]⟩, ⟨#[]⟩, ⟨#[]⟩, ⟨#[]⟩, ⟨#[]⟩, ⟨#[]⟩, ⟨#[]⟩, ⟨#[]⟩, ⟨#[]⟩, ⟨#[]⟩, ⟨#[]⟩, ⟨#[]⟩, ⟨#[]⟩, ⟨#[]⟩, ⟨#[]⟩, ⟨#[]⟩, ⟨#[]⟩, ⟨#[105, 51, 50, 46, 99, 108, 122]⟩, ⟨#[105, 51, 50, 46, 99, 116, 122]⟩, ⟨#[105, 51, 50, 46, 112, 111, 112, 99, 110, 116]⟩, ⟨#[105, 51, 50, 46, 97, 100, 100]⟩, ⟨#[105, 51, 50, 46, 115, 117, 98]⟩, ⟨#[105, 51, 50, 46, 109, 117, 108]⟩, ⟨#[105, 51, 50, 46, 100, 105, 118, 95, 115]⟩, ⟨#[105, 51, 50, 46, 100, 105, 118, 95, 117]⟩, ⟨#[105, 51, 50, 46, 114, 101, 109, 95, 115]⟩, ⟨#[105, 51, 50, 46, 114, 101, 109, 95, 117]⟩, ⟨#[105, 51, 50, 46, 97, 110, 100]⟩, ⟨#[105, 51, 50, 46, 111, 114]⟩, ⟨#[105, 51, 50, 46, 120, 111, 114]⟩, ⟨#[105, 51, 50, 46, 115, 104, 108]⟩, ⟨#[105, 51, 50, 46, 115, 104, 114, 95, 115]⟩, ⟨#[105, 51, 50, 46, 115, 104, 114, 95, 117]⟩, ⟨#[105, 51, 50, 46, 114, 111, 116, 108]⟩, ⟨#[105, 51, 50, 46, 114, 111, 116, 114]⟩, ⟨#[]⟩, ⟨#[]⟩, ⟨#[]⟩, ⟨#[]⟩, ⟨#[]⟩, ⟨#[]⟩, ⟨#[]⟩, ⟨#[]⟩, ⟨#[]⟩, ⟨#[]⟩, ⟨#[]⟩, ⟨#[]⟩, ⟨#[]⟩, ⟨#[]⟩, ⟨#[]⟩, ⟨#[]⟩, ⟨#[]⟩, ⟨#[]⟩, ⟨#[]⟩, ⟨#[]⟩, ⟨#[]⟩, ⟨#[]⟩, ⟨#[]⟩, ⟨#[]⟩, ⟨#[]⟩, ⟨#[]⟩, ⟨#[]⟩, ⟨#[]⟩, ⟨#[]⟩, ⟨#[]⟩, ⟨#[]⟩, ⟨#[]⟩, ⟨#[]⟩, ⟨#[]⟩, ⟨#[]⟩, ⟨#[]⟩, ⟨#[]⟩, ⟨#[]⟩, ⟨#[]⟩, ⟨#[]⟩, ⟨#[]⟩, ⟨#[]⟩, ⟨#[]⟩, ⟨#[]⟩, ⟨#[]⟩, ⟨#[]⟩, ⟨#[]⟩, ⟨#[]⟩, ⟨#[]⟩, ⟨#[]⟩, ⟨#[]⟩, ⟨#[]⟩, ⟨#[]⟩, ⟨#[]⟩, ⟨#[]⟩, ⟨#[]⟩, ⟨#[]⟩, ⟨#[]⟩, ⟨#[]⟩, ⟨#[]⟩, ⟨#[]⟩, ⟨#[]⟩, ⟨#[]⟩, ⟨#[]⟩, ⟨#[]⟩, ⟨#[]⟩, ⟨#[]⟩, ⟨#[]⟩, ⟨#[]⟩, ⟨#[]⟩, ⟨#[]⟩, ⟨#[]⟩, ⟨#[]⟩, ⟨#[]⟩, ⟨#[]⟩, ⟨#[]⟩, ⟨#[]⟩, ⟨#[]⟩, ⟨#[]⟩, ⟨#[]⟩, ⟨#[]⟩, ⟨#[]⟩, ⟨#[]⟩, ⟨#[]⟩, ⟨#[]⟩, ⟨#[]⟩, ⟨#[]⟩, ⟨#[]⟩, ⟨#[]⟩, ⟨#[]⟩, ⟨#[]⟩, ⟨#[]⟩, ⟨#[]⟩, ⟨#[]⟩, ⟨#[]⟩, ⟨#[]⟩, ⟨#[]⟩, ⟨#[]⟩, ⟨#[]⟩, ⟨#[]⟩, ⟨#[]⟩, ⟨#[]⟩, ⟨#[]⟩, ⟨#[]⟩, ⟨#[]⟩, ⟨#[]⟩, ⟨#[]⟩, ⟨#[]⟩, ⟨#[]⟩, ⟨#[]⟩, ⟨#[]⟩, ⟨#[]⟩, ⟨#[]⟩, ⟨#[]⟩, ⟨#[]⟩, ⟨#[]⟩, ⟨#[]⟩, ⟨#[]⟩, ⟨#[]⟩, ⟨#[]⟩, ⟨#[]⟩, ⟨#[]⟩, ⟨#[]⟩, ⟨#[]⟩, ⟨#[]⟩, ⟨#[]⟩, ⟨#[]⟩, ⟨#[]⟩, ⟨#[]⟩, ⟨#[]⟩, ⟨#[]⟩, ⟨#[]⟩, ⟨#[]⟩, ⟨#[]⟩, ⟨#[]⟩]

theorem Nmdoes : Does Tryz.prog env 163 [] [] (.agg (nmL.map fun s => .p (.sc (.string s)))) [] := does_fast names (K := NmK2) NmK2ok (n := 10000000) (by kernel_rfl)

end Go.Proofs.YtgbphddecpjlhaaGreatDoor.N
end

section
namespace Go.Proofs.YtgbphddecpjlhaaGreatDoor.N
open Go Go.Am

def namC (f : FuncId) (_ : List AV) (_ : Mem) : Option (AV × Mem) := cond (Nat.beq f 163) (some (.agg (nmL.map fun s => .p (.sc (.string s))), [])) none
def namS (op : Int) : FuncId → Nat → Nat → Option (AV → AV) := shapeAt [(149, 4, 2, .p (.sc (.string (nmL.getD op.toNat ⟨#[]⟩))))]
def useC (_op : Int) (n : Int) (st : Bool) (f : FuncId) (_ : List AV) (_ : Mem) : Option (AV × Mem) := cond (Nat.beq f 140) (some (.tup [sI .u32 n, sB st], [])) none
def mayC (_op _r _a _b _nn : Int) (_tg : List Int) (_ll _le : List Ins) (s : ByteArray) (u1 u2 u3 u4 u5 u6 : Bool) (f : FuncId) (_ : List AV) (_ : Mem) : Option (AV × Mem) := cond (Nat.beq f 149) (some (.p (.sc (.string s)), [])) (cond (Nat.beq f 148) (some (.agg [sB u1, sB u2, sB u3, sB u4, sB u5, sB u6], [])) none)
/- nam: 45 steps -/
noncomputable def namOrc (op : Int) : Orc := orcS namC noLed [] [(149, 2, 3), (149, 0, 0)] [(149, 4, 2)] (namS op)
def namSc : Sc := (.fork (.lit .fin) .fin)
noncomputable def namTree (op : Int) : Tree :=
  (.test (decide (op < 0))
   (.out (Out.ret (AV.p (PV.sc (Value.string (ByteArray.mk #[])))) []))
   (.test (decide (op ≥ 256))
    (.out (Out.ret (AV.p (PV.sc (Value.string (ByteArray.mk #[])))) []))
    (.call ⟨163, [], [], AV.agg (nmL.map fun s => .p (.sc (.string s))), []⟩
     (.must (inB op 256 && (op.toNat * 1).blt 256 && true)
      (.need ((nmL.map fun s => AV.p (PV.sc (.string s))).getD (op.toNat * 1) AV.junk = AV.p (PV.sc (Value.string (nmL.getD op.toNat (ByteArray.mk #[])))))
       (.out (Out.ret (AV.p (PV.sc (Value.string (nmL.getD op.toNat (ByteArray.mk #[]))))) [])))))))
theorem nam_tree (op : Int) : growF Tryz.prog env (namOrc op) 1000000 149 ([sI IntKind.i64 op]) ([]) namSc = namTree op := by kernel_rfl

/- alP: 134 steps -/
noncomputable def alPOrc : Orc := orcL noCall noLed [] [(140, 0, 0), (140, 0, 1), (140, 0, 2), (140, 0, 4), (140, 0, 3), (140, 0, 5), (140, 0, 7), (140, 0, 6)] []
def alPSc : Sc := (.fork (.yes .fin) (.fork .fin (.fork (.yes .fin) (.fork (.yes .fin) (.fork .fin (.fork (.yes .fin) (.fork (.yes .fin) .fin)))))))
noncomputable def alPTree (op : Int) : Tree :=
  (.test (op == 40)
   (.must (op == 40)
    (.out (Out.ret (AV.tup [AV.p (PV.sc (Value.int IntKind.u32 2)), AV.p (PV.sc (Value.bool true))]) [])))
   (.test (op == 54)
    (.out (Out.ret (AV.tup [AV.p (PV.sc (Value.int IntKind.u32 2)), AV.p (PV.sc (Value.bool true))]) []))
    (.test (op == 46)
     (.must (op == 46)
      (.out (Out.ret (AV.tup [AV.p (PV.sc (Value.int IntKind.u32 1)), AV.p (PV.sc (Value.bool true))]) [])))
     (.test (op == 47)
      (.must (op == 47)
       (.out (Out.ret (AV.tup [AV.p (PV.sc (Value.int IntKind.u32 1)), AV.p (PV.sc (Value.bool true))]) [])))
      (.test (op == 59)
       (.out (Out.ret (AV.tup [AV.p (PV.sc (Value.int IntKind.u32 1)), AV.p (PV.sc (Value.bool true))]) []))
       (.test (op == 44)
        (.must (op == 44)
         (.out (Out.ret (AV.tup [AV.p (PV.sc (Value.int IntKind.u32 0)), AV.p (PV.sc (Value.bool true))]) [])))
        (.test (op == 45)
         (.must (op == 45)
          (.out (Out.ret (AV.tup [AV.p (PV.sc (Value.int IntKind.u32 0)), AV.p (PV.sc (Value.bool true))]) [])))
         (.test (op == 58)
          (.out (Out.ret (AV.tup [AV.p (PV.sc (Value.int IntKind.u32 0)), AV.p (PV.sc (Value.bool true))]) []))
          (.out (Out.ret (AV.tup [AV.p (PV.sc (Value.int IntKind.u32 0)), AV.p (PV.sc (Value.bool false))]) []))))))))))
theorem alP_tree (op : Int) : growF Tryz.prog env alPOrc 1000000 140 ([sI IntKind.i64 op]) ([]) alPSc = alPTree op := by kernel_rfl

/- alR: 134 steps -/
noncomputable def alROrc : Orc := orcL noCall noLed [] [(146, 0, 0), (146, 0, 1), (146, 0, 2), (146, 0, 4), (146, 0, 3), (146, 0, 5), (146, 0, 7), (146, 0, 6)] []
def alRSc : Sc := (.fork (.yes .fin) (.fork .fin (.fork (.yes .fin) (.fork (.yes .fin) (.fork .fin (.fork (.yes .fin) (.fork (.yes .fin) .fin)))))))
noncomputable def alRTree (op : Int) : Tree :=
  (.test (op == 40)
   (.must (op == 40)
    (.out (Out.ret (AV.tup [AV.p (PV.sc (Value.int IntKind.u32 2)), AV.p (PV.sc (Value.bool true))]) [])))
   (.test (op == 54)
    (.out (Out.ret (AV.tup [AV.p (PV.sc (Value.int IntKind.u32 2)), AV.p (PV.sc (Value.bool true))]) []))
    (.test (op == 46)
     (.must (op == 46)
      (.out (Out.ret (AV.tup [AV.p (PV.sc (Value.int IntKind.u32 1)), AV.p (PV.sc (Value.bool true))]) [])))
     (.test (op == 47)
      (.must (op == 47)
       (.out (Out.ret (AV.tup [AV.p (PV.sc (Value.int IntKind.u32 1)), AV.p (PV.sc (Value.bool true))]) [])))
      (.test (op == 59)
       (.out (Out.ret (AV.tup [AV.p (PV.sc (Value.int IntKind.u32 1)), AV.p (PV.sc (Value.bool true))]) []))
       (.test (op == 44)
        (.must (op == 44)
         (.out (Out.ret (AV.tup [AV.p (PV.sc (Value.int IntKind.u32 0)), AV.p (PV.sc (Value.bool true))]) [])))
        (.test (op == 45)
         (.must (op == 45)
          (.out (Out.ret (AV.tup [AV.p (PV.sc (Value.int IntKind.u32 0)), AV.p (PV.sc (Value.bool true))]) [])))
         (.test (op == 58)
          (.out (Out.ret (AV.tup [AV.p (PV.sc (Value.int IntKind.u32 0)), AV.p (PV.sc (Value.bool true))]) []))
          (.out (Out.ret (AV.tup [AV.p (PV.sc (Value.int IntKind.u32 0)), AV.p (PV.sc (Value.bool false))]) []))))))))))
theorem alR_tree (op : Int) : growF Tryz.prog env alROrc 1000000 146 ([sI IntKind.i64 op]) ([]) alRSc = alRTree op := by kernel_rfl

/- lis: 46 steps -/
noncomputable def lisOrc : Orc := orcL noCall noLed [] [(165, 2, 3), (165, 2, 7)] []
def lisSc : Sc := (.fork (.lit .fin) .fin)
noncomputable def lisTree (op : Int) : Tree :=
  (.test (op == 2)
   (.out (Out.ret (AV.p (PV.sc (Value.bool true))) []))
   (.test (op == 3)
    (.out (Out.ret (AV.p (PV.sc (Value.bool true))) []))
    (.out (Out.ret (AV.p (PV.sc (Value.bool (op == 4)))) []))))
theorem lis_tree (op : Int) : growF Tryz.prog env lisOrc 1000000 165 ([sI IntKind.i64 op]) ([]) lisSc = lisTree op := by kernel_rfl

/- whi: 146 steps -/
noncomputable def whiOrc : Orc := orcL noCall noLed [] [(166, 2, 3), (166, 2, 7), (166, 2, 11), (166, 2, 15), (166, 2, 18)] []
def whiSc : Sc := (.fork (.lit (.lit (.lit .fin))) (.fork (.lit (.lit .fin)) (.fork (.lit .fin) .fin)))
noncomputable def whiTree (op : Int) : Tree :=
  (.test (op == 12)
   (.out (Out.ret (AV.p (PV.sc (Value.bool true))) []))
   (.test (op == 13)
    (.out (Out.ret (AV.p (PV.sc (Value.bool true))) []))
    (.test (op == 16)
     (.out (Out.ret (AV.p (PV.sc (Value.bool true))) []))
     (.test (op == 17)
      (.out (Out.ret (AV.p (PV.sc (Value.bool true))) []))
      (.test (decide (op ≥ 32))
       (.out (Out.ret (AV.p (PV.sc (Value.bool (decide (op ≤ 36))))) []))
       (.out (Out.ret (AV.p (PV.sc (Value.bool false))) [])))))))
theorem whi_tree (op : Int) : growF Tryz.prog env whiOrc 1000000 166 ([sI IntKind.i64 op]) ([]) whiSc = whiTree op := by kernel_rfl

/- use: 243 steps -/
noncomputable def useOrc (op : Int) (n : Int) (st : Bool) : Orc := orcL (useC op n st) noLed [] [(148, 0, 0), (148, 0, 1), (148, 0, 2), (148, 0, 3), (148, 0, 4), (148, 0, 12), (148, 0, 5), (148, 0, 6), (148, 0, 7), (148, 0, 8), (148, 0, 9), (148, 0, 10), (148, 0, 11), (148, 0, 13), (148, 0, 14)] []
def useSc : Sc := (.fork .fin (.fork (.yes .fin) (.fork .fin (.fork .fin (.fork (.yes .fin) (.fork (.yes .fin) (.fork (.yes .fin) (.fork (.yes .fin) (.fork (.yes .fin) (.fork (.yes .fin) (.fork (.yes .fin) (.fork (.yes .fin) .fin))))))))))))
noncomputable def useTree (op : Int) (n : Int) (st : Bool) : Tree :=
  (.call ⟨140, [AV.p (PV.sc (Value.int IntKind.i64 op))], [], AV.tup [AV.p (PV.sc (Value.int IntKind.u32 n)), AV.p (PV.sc (Value.bool st))], []⟩
   (.test (st)
    (.out (Out.ret (AV.agg [AV.p (PV.sc (Value.bool false)), AV.p (PV.sc (Value.bool false)), AV.p (PV.sc (Value.bool true)), AV.p (PV.sc (Value.bool true)), AV.p (PV.sc (Value.bool false)), AV.p (PV.sc (Value.bool false))]) []))
    (.test (op == 2)
     (.must (op == 2)
      (.out (Out.ret (AV.agg [AV.p (PV.sc (Value.bool true)), AV.p (PV.sc (Value.bool false)), AV.p (PV.sc (Value.bool false)), AV.p (PV.sc (Value.bool false)), AV.p (PV.sc (Value.bool false)), AV.p (PV.sc (Value.bool false))]) [])))
     (.test (op == 3)
      (.out (Out.ret (AV.agg [AV.p (PV.sc (Value.bool true)), AV.p (PV.sc (Value.bool false)), AV.p (PV.sc (Value.bool false)), AV.p (PV.sc (Value.bool false)), AV.p (PV.sc (Value.bool false)), AV.p (PV.sc (Value.bool false))]) []))
      (.test (op == 4)
       (.out (Out.ret (AV.agg [AV.p (PV.sc (Value.bool true)), AV.p (PV.sc (Value.bool true)), AV.p (PV.sc (Value.bool false)), AV.p (PV.sc (Value.bool false)), AV.p (PV.sc (Value.bool false)), AV.p (PV.sc (Value.bool false))]) []))
       (.test (op == 12)
        (.must (op == 12)
         (.out (Out.ret (AV.agg [AV.p (PV.sc (Value.bool false)), AV.p (PV.sc (Value.bool false)), AV.p (PV.sc (Value.bool true)), AV.p (PV.sc (Value.bool false)), AV.p (PV.sc (Value.bool false)), AV.p (PV.sc (Value.bool false))]) [])))
        (.test (op == 13)
         (.must (op == 13)
          (.out (Out.ret (AV.agg [AV.p (PV.sc (Value.bool false)), AV.p (PV.sc (Value.bool false)), AV.p (PV.sc (Value.bool true)), AV.p (PV.sc (Value.bool false)), AV.p (PV.sc (Value.bool false)), AV.p (PV.sc (Value.bool false))]) [])))
         (.test (op == 16)
          (.must (op == 16)
           (.out (Out.ret (AV.agg [AV.p (PV.sc (Value.bool false)), AV.p (PV.sc (Value.bool false)), AV.p (PV.sc (Value.bool true)), AV.p (PV.sc (Value.bool false)), AV.p (PV.sc (Value.bool false)), AV.p (PV.sc (Value.bool false))]) [])))
          (.test (op == 17)
           (.must (op == 17)
            (.out (Out.ret (AV.agg [AV.p (PV.sc (Value.bool false)), AV.p (PV.sc (Value.bool false)), AV.p (PV.sc (Value.bool true)), AV.p (PV.sc (Value.bool false)), AV.p (PV.sc (Value.bool false)), AV.p (PV.sc (Value.bool false))]) [])))
           (.test (op == 32)
            (.must (op == 32)
             (.out (Out.ret (AV.agg [AV.p (PV.sc (Value.bool false)), AV.p (PV.sc (Value.bool false)), AV.p (PV.sc (Value.bool true)), AV.p (PV.sc (Value.bool false)), AV.p (PV.sc (Value.bool false)), AV.p (PV.sc (Value.bool false))]) [])))
            (.test (op == 33)
             (.must (op == 33)
              (.out (Out.ret (AV.agg [AV.p (PV.sc (Value.bool false)), AV.p (PV.sc (Value.bool false)), AV.p (PV.sc (Value.bool true)), AV.p (PV.sc (Value.bool false)), AV.p (PV.sc (Value.bool false)), AV.p (PV.sc (Value.bool false))]) [])))
             (.test (op == 34)
              (.must (op == 34)
               (.out (Out.ret (AV.agg [AV.p (PV.sc (Value.bool false)), AV.p (PV.sc (Value.bool false)), AV.p (PV.sc (Value.bool true)), AV.p (PV.sc (Value.bool false)), AV.p (PV.sc (Value.bool false)), AV.p (PV.sc (Value.bool false))]) [])))
              (.test (op == 35)
               (.must (op == 35)
                (.out (Out.ret (AV.agg [AV.p (PV.sc (Value.bool false)), AV.p (PV.sc (Value.bool false)), AV.p (PV.sc (Value.bool true)), AV.p (PV.sc (Value.bool false)), AV.p (PV.sc (Value.bool false)), AV.p (PV.sc (Value.bool false))]) [])))
               (.test (op == 36)
                (.out (Out.ret (AV.agg [AV.p (PV.sc (Value.bool false)), AV.p (PV.sc (Value.bool false)), AV.p (PV.sc (Value.bool true)), AV.p (PV.sc (Value.bool false)), AV.p (PV.sc (Value.bool false)), AV.p (PV.sc (Value.bool false))]) []))
                (.test (op == 14)
                 (.out (Out.ret (AV.agg [AV.p (PV.sc (Value.bool false)), AV.p (PV.sc (Value.bool false)), AV.p (PV.sc (Value.bool true)), AV.p (PV.sc (Value.bool false)), AV.p (PV.sc (Value.bool false)), AV.p (PV.sc (Value.bool true))]) []))
                 (.test (op == 65)
                  (.out (Out.ret (AV.agg [AV.p (PV.sc (Value.bool false)), AV.p (PV.sc (Value.bool false)), AV.p (PV.sc (Value.bool false)), AV.p (PV.sc (Value.bool false)), AV.p (PV.sc (Value.bool true)), AV.p (PV.sc (Value.bool false))]) []))
                  (.out (Out.ret (AV.agg [AV.p (PV.sc (Value.bool false)), AV.p (PV.sc (Value.bool false)), AV.p (PV.sc (Value.bool false)), AV.p (PV.sc (Value.bool false)), AV.p (PV.sc (Value.bool false)), AV.p (PV.sc (Value.bool false))]) []))))))))))))))))))
theorem use_tree (op : Int) (n : Int) (st : Bool) : growF Tryz.prog env (useOrc op n st) 1000000 148 ([sI IntKind.i64 op]) ([]) useSc = useTree op n st := by kernel_rfl

/- may: 2680 steps -/
noncomputable def mayOrc (op : Int) (r : Int) (a : Int) (b : Int) (nn : Int) (tg : List Int) (ll : List Ins) (le : List Ins) (s : ByteArray) (u1 : Bool) (u2 : Bool) (u3 : Bool) (u4 : Bool) (u5 : Bool) (u6 : Bool) : Orc := orcL (mayC op r a b nn tg ll le s u1 u2 u3 u4 u5 u6) noLed [] [(126, 0, 0), (126, 0, 3), (126, 4, 4), (126, 0, 1), (126, 5, 4), (126, 5, 8), (126, 0, 2), (126, 6, 4), (126, 8, 3), (126, 8, 11), (126, 8, 20), (126, 8, 29), (126, 8, 26), (126, 8, 17), (126, 8, 8)] []
def maySc : Sc := (.fork (.yes .fin) (.fork (.lit (.lit .fin)) (.fork (.yes .fin) (.fork (.fork (.lit (.lit .fin)) (.fork (.yes .fin) (.fork (.fork .fin (.fork (.lit (.fork (.lit (.fork (.lit .fin) .fin)) (.fork (.fork (.lit .fin) .fin) (.lit .fin)))) (.fork (.fork (.lit (.fork (.lit .fin) .fin)) (.fork (.fork (.lit .fin) .fin) (.lit .fin))) (.lit (.lit .fin))))) (.lit (.fork (.lit (.fork (.lit (.fork (.lit .fin) .fin)) (.fork (.fork (.lit .fin) .fin) (.lit .fin)))) (.fork (.fork (.lit (.fork (.lit .fin) .fin)) (.fork (.fork (.lit .fin) .fin) (.lit .fin))) (.lit (.lit .fin)))))))) (.lit (.fork (.fork .fin (.fork (.lit (.fork (.lit (.fork (.lit .fin) .fin)) (.fork (.fork (.lit .fin) .fin) (.lit .fin)))) (.fork (.fork (.lit (.fork (.lit .fin) .fin)) (.fork (.fork (.lit .fin) .fin) (.lit .fin))) (.lit (.lit .fin))))) (.lit (.fork (.lit (.fork (.lit (.fork (.lit .fin) .fin)) (.fork (.fork (.lit .fin) .fin) (.lit .fin)))) (.fork (.fork (.lit (.fork (.lit .fin) .fin)) (.fork (.fork (.lit .fin) .fin) (.lit .fin))) (.lit (.lit .fin)))))))))))
noncomputable def mayTree (op : Int) (r : Int) (a : Int) (b : Int) (nn : Int) (tg : List Int) (ll : List Ins) (le : List Ins) (s : ByteArray) (u1 : Bool) (u2 : Bool) (u3 : Bool) (u4 : Bool) (u5 : Bool) (u6 : Bool) : Tree :=
  (.call ⟨148, [AV.p (PV.sc (Value.int IntKind.i64 op))], [], AV.agg [AV.p (PV.sc (Value.bool u1)), AV.p (PV.sc (Value.bool u2)), AV.p (PV.sc (Value.bool u3)), AV.p (PV.sc (Value.bool u4)), AV.p (PV.sc (Value.bool u5)), AV.p (PV.sc (Value.bool u6))], []⟩
   (.call ⟨149, [AV.p (PV.sc (Value.int IntKind.i64 op))], [], AV.p (PV.sc (Value.string s)), []⟩
    (.test (s.data.toList == (ByteArray.mk #[]).data.toList)
     (.must (s.data.toList == (ByteArray.mk #[]).data.toList)
      (.out (Out.ret (AV.p (PV.sc (Value.bool false))) [])))
     (.test (decide (r < 0))
      (.out (Out.ret (AV.p (PV.sc (Value.bool false))) []))
      (.test (decide (r > 1))
       (.must (decide (r > 1))
        (.out (Out.ret (AV.p (PV.sc (Value.bool false))) [])))
       (.test (!u1)
        (.test (r != 0)
         (.out (Out.ret (AV.p (PV.sc (Value.bool false))) []))
         (.test (decide ((↑ll.length : Int) > 0))
          (.must (decide ((↑ll.length : Int) > 0))
           (.out (Out.ret (AV.p (PV.sc (Value.bool false))) [])))
          (.test (!u2)
           (.test (decide ((↑le.length : Int) > 0))
            (.out (Out.ret (AV.p (PV.sc (Value.bool false))) []))
            (.test (u3)
             (.test (u4)
              (.test (u5)
               (.test (u6)
                (.out (Out.ret (AV.p (PV.sc (Value.bool true))) []))
                (.out (Out.ret (AV.p (PV.sc (Value.bool ((↑tg.length : Int) == 0)))) [])))
               (.test (nn == 0)
                (.test (u6)
                 (.out (Out.ret (AV.p (PV.sc (Value.bool true))) []))
                 (.out (Out.ret (AV.p (PV.sc (Value.bool ((↑tg.length : Int) == 0)))) [])))
                (.out (Out.ret (AV.p (PV.sc (Value.bool false))) []))))
              (.test (b == 0)
               (.test (u5)
                (.test (u6)
                 (.out (Out.ret (AV.p (PV.sc (Value.bool true))) []))
                 (.out (Out.ret (AV.p (PV.sc (Value.bool ((↑tg.length : Int) == 0)))) [])))
                (.test (nn == 0)
                 (.test (u6)
                  (.out (Out.ret (AV.p (PV.sc (Value.bool true))) []))
                  (.out (Out.ret (AV.p (PV.sc (Value.bool ((↑tg.length : Int) == 0)))) [])))
                 (.out (Out.ret (AV.p (PV.sc (Value.bool false))) []))))
               (.out (Out.ret (AV.p (PV.sc (Value.bool false))) []))))
             (.test (a == 0)
              (.test (u4)
               (.test (u5)
                (.test (u6)
                 (.out (Out.ret (AV.p (PV.sc (Value.bool true))) []))
                 (.out (Out.ret (AV.p (PV.sc (Value.bool ((↑tg.length : Int) == 0)))) [])))
                (.test (nn == 0)
                 (.test (u6)
                  (.out (Out.ret (AV.p (PV.sc (Value.bool true))) []))
                  (.out (Out.ret (AV.p (PV.sc (Value.bool ((↑tg.length : Int) == 0)))) [])))
                 (.out (Out.ret (AV.p (PV.sc (Value.bool false))) []))))
               (.test (b == 0)
                (.test (u5)
                 (.test (u6)
                  (.out (Out.ret (AV.p (PV.sc (Value.bool true))) []))
                  (.out (Out.ret (AV.p (PV.sc (Value.bool ((↑tg.length : Int) == 0)))) [])))
                 (.test (nn == 0)
                  (.test (u6)
                   (.out (Out.ret (AV.p (PV.sc (Value.bool true))) []))
                   (.out (Out.ret (AV.p (PV.sc (Value.bool ((↑tg.length : Int) == 0)))) [])))
                  (.out (Out.ret (AV.p (PV.sc (Value.bool false))) []))))
                (.out (Out.ret (AV.p (PV.sc (Value.bool false))) []))))
              (.out (Out.ret (AV.p (PV.sc (Value.bool false))) [])))))
           (.test (u3)
            (.test (u4)
             (.test (u5)
              (.test (u6)
               (.out (Out.ret (AV.p (PV.sc (Value.bool true))) []))
               (.out (Out.ret (AV.p (PV.sc (Value.bool ((↑tg.length : Int) == 0)))) [])))
              (.test (nn == 0)
               (.test (u6)
                (.out (Out.ret (AV.p (PV.sc (Value.bool true))) []))
                (.out (Out.ret (AV.p (PV.sc (Value.bool ((↑tg.length : Int) == 0)))) [])))
               (.out (Out.ret (AV.p (PV.sc (Value.bool false))) []))))
             (.test (b == 0)
              (.test (u5)
               (.test (u6)
                (.out (Out.ret (AV.p (PV.sc (Value.bool true))) []))
                (.out (Out.ret (AV.p (PV.sc (Value.bool ((↑tg.length : Int) == 0)))) [])))
               (.test (nn == 0)
                (.test (u6)
                 (.out (Out.ret (AV.p (PV.sc (Value.bool true))) []))
                 (.out (Out.ret (AV.p (PV.sc (Value.bool ((↑tg.length : Int) == 0)))) [])))
                (.out (Out.ret (AV.p (PV.sc (Value.bool false))) []))))
              (.out (Out.ret (AV.p (PV.sc (Value.bool false))) []))))
            (.test (a == 0)
             (.test (u4)
              (.test (u5)
               (.test (u6)
                (.out (Out.ret (AV.p (PV.sc (Value.bool true))) []))
                (.out (Out.ret (AV.p (PV.sc (Value.bool ((↑tg.length : Int) == 0)))) [])))
               (.test (nn == 0)
                (.test (u6)
                 (.out (Out.ret (AV.p (PV.sc (Value.bool true))) []))
                 (.out (Out.ret (AV.p (PV.sc (Value.bool ((↑tg.length : Int) == 0)))) [])))
                (.out (Out.ret (AV.p (PV.sc (Value.bool false))) []))))
              (.test (b == 0)
               (.test (u5)
                (.test (u6)
                 (.out (Out.ret (AV.p (PV.sc (Value.bool true))) []))
                 (.out (Out.ret (AV.p (PV.sc (Value.bool ((↑tg.length : Int) == 0)))) [])))
                (.test (nn == 0)
                 (.test (u6)
                  (.out (Out.ret (AV.p (PV.sc (Value.bool true))) []))
                  (.out (Out.ret (AV.p (PV.sc (Value.bool ((↑tg.length : Int) == 0)))) [])))
                 (.out (Out.ret (AV.p (PV.sc (Value.bool false))) []))))
               (.out (Out.ret (AV.p (PV.sc (Value.bool false))) []))))
             (.out (Out.ret (AV.p (PV.sc (Value.bool false))) [])))))))
        (.test (!u2)
         (.test (decide ((↑le.length : Int) > 0))
          (.out (Out.ret (AV.p (PV.sc (Value.bool false))) []))
          (.test (u3)
           (.test (u4)
            (.test (u5)
             (.test (u6)
              (.out (Out.ret (AV.p (PV.sc (Value.bool true))) []))
              (.out (Out.ret (AV.p (PV.sc (Value.bool ((↑tg.length : Int) == 0)))) [])))
             (.test (nn == 0)
              (.test (u6)
               (.out (Out.ret (AV.p (PV.sc (Value.bool true))) []))
               (.out (Out.ret (AV.p (PV.sc (Value.bool ((↑tg.length : Int) == 0)))) [])))
              (.out (Out.ret (AV.p (PV.sc (Value.bool false))) []))))
            (.test (b == 0)
             (.test (u5)
              (.test (u6)
               (.out (Out.ret (AV.p (PV.sc (Value.bool true))) []))
               (.out (Out.ret (AV.p (PV.sc (Value.bool ((↑tg.length : Int) == 0)))) [])))
              (.test (nn == 0)
               (.test (u6)
                (.out (Out.ret (AV.p (PV.sc (Value.bool true))) []))
                (.out (Out.ret (AV.p (PV.sc (Value.bool ((↑tg.length : Int) == 0)))) [])))
               (.out (Out.ret (AV.p (PV.sc (Value.bool false))) []))))
             (.out (Out.ret (AV.p (PV.sc (Value.bool false))) []))))
           (.test (a == 0)
            (.test (u4)
             (.test (u5)
              (.test (u6)
               (.out (Out.ret (AV.p (PV.sc (Value.bool true))) []))
               (.out (Out.ret (AV.p (PV.sc (Value.bool ((↑tg.length : Int) == 0)))) [])))
              (.test (nn == 0)
               (.test (u6)
                (.out (Out.ret (AV.p (PV.sc (Value.bool true))) []))
                (.out (Out.ret (AV.p (PV.sc (Value.bool ((↑tg.length : Int) == 0)))) [])))
               (.out (Out.ret (AV.p (PV.sc (Value.bool false))) []))))
             (.test (b == 0)
              (.test (u5)
               (.test (u6)
                (.out (Out.ret (AV.p (PV.sc (Value.bool true))) []))
                (.out (Out.ret (AV.p (PV.sc (Value.bool ((↑tg.length : Int) == 0)))) [])))
               (.test (nn == 0)
                (.test (u6)
                 (.out (Out.ret (AV.p (PV.sc (Value.bool true))) []))
                 (.out (Out.ret (AV.p (PV.sc (Value.bool ((↑tg.length : Int) == 0)))) [])))
                (.out (Out.ret (AV.p (PV.sc (Value.bool false))) []))))
              (.out (Out.ret (AV.p (PV.sc (Value.bool false))) []))))
            (.out (Out.ret (AV.p (PV.sc (Value.bool false))) [])))))
         (.test (u3)
          (.test (u4)
           (.test (u5)
            (.test (u6)
             (.out (Out.ret (AV.p (PV.sc (Value.bool true))) []))
             (.out (Out.ret (AV.p (PV.sc (Value.bool ((↑tg.length : Int) == 0)))) [])))
            (.test (nn == 0)
             (.test (u6)
              (.out (Out.ret (AV.p (PV.sc (Value.bool true))) []))
              (.out (Out.ret (AV.p (PV.sc (Value.bool ((↑tg.length : Int) == 0)))) [])))
             (.out (Out.ret (AV.p (PV.sc (Value.bool false))) []))))
           (.test (b == 0)
            (.test (u5)
             (.test (u6)
              (.out (Out.ret (AV.p (PV.sc (Value.bool true))) []))
              (.out (Out.ret (AV.p (PV.sc (Value.bool ((↑tg.length : Int) == 0)))) [])))
             (.test (nn == 0)
              (.test (u6)
               (.out (Out.ret (AV.p (PV.sc (Value.bool true))) []))
               (.out (Out.ret (AV.p (PV.sc (Value.bool ((↑tg.length : Int) == 0)))) [])))
              (.out (Out.ret (AV.p (PV.sc (Value.bool false))) []))))
            (.out (Out.ret (AV.p (PV.sc (Value.bool false))) []))))
          (.test (a == 0)
           (.test (u4)
            (.test (u5)
             (.test (u6)
              (.out (Out.ret (AV.p (PV.sc (Value.bool true))) []))
              (.out (Out.ret (AV.p (PV.sc (Value.bool ((↑tg.length : Int) == 0)))) [])))
             (.test (nn == 0)
              (.test (u6)
               (.out (Out.ret (AV.p (PV.sc (Value.bool true))) []))
               (.out (Out.ret (AV.p (PV.sc (Value.bool ((↑tg.length : Int) == 0)))) [])))
              (.out (Out.ret (AV.p (PV.sc (Value.bool false))) []))))
            (.test (b == 0)
             (.test (u5)
              (.test (u6)
               (.out (Out.ret (AV.p (PV.sc (Value.bool true))) []))
               (.out (Out.ret (AV.p (PV.sc (Value.bool ((↑tg.length : Int) == 0)))) [])))
              (.test (nn == 0)
               (.test (u6)
                (.out (Out.ret (AV.p (PV.sc (Value.bool true))) []))
                (.out (Out.ret (AV.p (PV.sc (Value.bool ((↑tg.length : Int) == 0)))) [])))
               (.out (Out.ret (AV.p (PV.sc (Value.bool false))) []))))
             (.out (Out.ret (AV.p (PV.sc (Value.bool false))) []))))
           (.out (Out.ret (AV.p (PV.sc (Value.bool false))) [])))))))))))
theorem may_tree (op : Int) (r : Int) (a : Int) (b : Int) (nn : Int) (tg : List Int) (ll : List Ins) (le : List Ins) (s : ByteArray) (u1 : Bool) (u2 : Bool) (u3 : Bool) (u4 : Bool) (u5 : Bool) (u6 : Bool) : growF Tryz.prog env (mayOrc op r a b nn tg ll le s u1 u2 u3 u4 u5 u6) 1000000 126 ([aggI op r a b nn tg ll le]) ([]) maySc = mayTree op r a b nn tg ll le s u1 u2 u3 u4 u5 u6 := by kernel_rfl


/-- The name of an operation; none: it is no operation. -/
def nm (op : Int) : ByteArray := if op < 0 ∨ 256 ≤ op then ⟨#[]⟩ else nmL.getD op.toNat ⟨#[]⟩

theorem name_does (op : Int) : Does Tryz.prog env 149 [sI .i64 op] [] (.p (.sc (.string (nm op)))) [] := by
  refine does_of_tree names (nam_tree op) ?_
  simp only [namTree, Tree.ok, decide_eq_true_eq, decide_eq_false_iff_not]
  have hlen : (nmL.map fun s => (AV.p (PV.sc (.string s)))).length = 256 := by kernel_rfl
  refine ⟨fun h => ?_, fun h => ⟨fun h2 => ?_, fun h2 => ⟨Nmdoes, ?_, ?_, ?_⟩⟩⟩
  · rw [nm, if_pos (.inl h)]
  · rw [nm, if_pos (.inr h2)]
  · simp [inB]; omega
  · have hl : op.toNat < (nmL.map fun s => (AV.p (PV.sc (.string s)))).length := by rw [hlen]; omega
    rw [Nat.mul_one, List.getD_eq_getElem?_getD, List.getElem?_eq_getElem hl, Option.getD_some, List.getElem_map, List.getD_eq_getElem?_getD, List.getElem?_eq_getElem (by simpa using hl), Option.getD_some]
  · rw [nm, if_neg (by omega)]

/-- A load, or a store. -/
def isSt (op : Int) : Bool := decide (op = 40 ∨ op = 44 ∨ op = 45 ∨ op = 46 ∨ op = 47 ∨ op = 54 ∨ op = 58 ∨ op = 59)
def alignN (op : Int) : Int := if op = 40 ∨ op = 54 then 2 else if op = 46 ∨ op = 47 ∨ op = 59 then 1 else 0
/-- An operation with lists; with A alone. -/
def isLi (op : Int) : Bool := decide (op = 2 ∨ op = 3 ∨ op = 4)
def isWh (op : Int) : Bool := decide (op = 12 ∨ op = 13 ∨ op = 16 ∨ op = 17 ∨ (32 ≤ op ∧ op ≤ 36))

theorem align_does (op : Int) : Does Tryz.prog env 140 [sI .i64 op] [] (.tup [sI .u32 (alignN op), sB (isSt op)]) [] := by
  refine does_of_tree names (alP_tree op) ?_
  simp only [alPTree, Tree.ok, beq_iff_eq, beq_eq_false_iff_ne]
  repeat' first | apply And.intro | (intro h)
  all_goals first | assumption | (simp only [alignN, isSt]; simp_all; done)

theorem alignR_does (op : Int) : Does Tryz.prog env 146 [sI .i64 op] [] (.tup [sI .u32 (alignN op), sB (isSt op)]) [] := by
  refine does_of_tree names (alR_tree op) ?_
  simp only [alRTree, Tree.ok, beq_iff_eq, beq_eq_false_iff_ne]
  repeat' first | apply And.intro | (intro h)
  all_goals first | assumption | (simp only [alignN, isSt]; simp_all; done)

theorem lists_does (op : Int) : Does Tryz.prog env 165 [sI .i64 op] [] (sB (isLi op)) [] := by
  refine does_of_tree names (lis_tree op) ?_
  simp only [lisTree, Tree.ok, beq_iff_eq, beq_eq_false_iff_ne]
  repeat' first | apply And.intro | (intro h)
  all_goals (simp only [isLi]; congr 4; rw [Bool.eq_iff_iff]; simp only [beq_iff_eq, decide_eq_true_eq, true_iff]; omega)

theorem which_does (op : Int) : Does Tryz.prog env 166 [sI .i64 op] [] (sB (isWh op)) [] := by
  refine does_of_tree names (whi_tree op) ?_
  simp only [whiTree, Tree.ok, beq_iff_eq, beq_eq_false_iff_ne, decide_eq_true_eq, decide_eq_false_iff_not]
  repeat' first | apply And.intro | (intro h)
  all_goals (simp only [isWh]; congr 4; simp only [true_eq_decide_iff, false_eq_decide_iff, decide_eq_decide]; omega)

/-- What an operation uses. -/
def useV (op : Int) : AV := .agg [sB (isLi op), sB (decide (op = 4)), sB (isSt op || isWh op || decide (op = 14)), sB (isSt op), sB (decide (op = 65)), sB (decide (op = 14))]

theorem use_eq {op : Int} {x1 x2 x3 x4 x5 x6 : Bool} (h1 : x1 = true ↔ isLi op = true) (h2 : x2 = true ↔ op = 4) (h3 : x3 = true ↔ isSt op = true ∨ isWh op = true ∨ op = 14) (h4 : x4 = true ↔ isSt op = true) (h5 : x5 = true ↔ op = 65) (h6 : x6 = true ↔ op = 14) :
    Out.ret (.agg [.p (.sc (.bool x1)), .p (.sc (.bool x2)), .p (.sc (.bool x3)), .p (.sc (.bool x4)), .p (.sc (.bool x5)), .p (.sc (.bool x6))]) [] = Out.ret (useV op) [] := by
  obtain rfl : x1 = isLi op := Bool.eq_iff_iff.2 h1
  obtain rfl : x2 = decide (op = 4) := Bool.eq_iff_iff.2 (by rw [h2, decide_eq_true_eq])
  obtain rfl : x3 = (isSt op || isWh op || decide (op = 14)) := Bool.eq_iff_iff.2 (by rw [h3, Bool.or_eq_true, Bool.or_eq_true, decide_eq_true_eq, or_assoc])
  obtain rfl : x4 = isSt op := Bool.eq_iff_iff.2 h4
  obtain rfl : x5 = decide (op = 65) := Bool.eq_iff_iff.2 (by rw [h5, decide_eq_true_eq])
  obtain rfl : x6 = decide (op = 14) := Bool.eq_iff_iff.2 (by rw [h6, decide_eq_true_eq])
  rfl

theorem isSt_iff {op : Int} : isSt op = true ↔ (op = 40 ∨ op = 44 ∨ op = 45 ∨ op = 46 ∨ op = 47 ∨ op = 54 ∨ op = 58 ∨ op = 59) := decide_eq_true_iff
theorem isLi_iff {op : Int} : isLi op = true ↔ (op = 2 ∨ op = 3 ∨ op = 4) := decide_eq_true_iff
theorem isWh_iff {op : Int} : isWh op = true ↔ (op = 12 ∨ op = 13 ∨ op = 16 ∨ op = 17 ∨ (32 ≤ op ∧ op ≤ 36)) := decide_eq_true_iff

set_option maxHeartbeats 2000000 in
theorem uses_does (op : Int) : Does Tryz.prog env 148 [sI .i64 op] [] (useV op) [] := by
  refine does_of_tree names (use_tree op (alignN op) (isSt op)) ?_
  simp only [useTree, Tree.ok, beq_iff_eq, beq_eq_false_iff_ne]
  refine ⟨align_does op, ?_⟩
  rw [← Bool.not_eq_true, isSt_iff]
  repeat' first | apply And.intro | (intro h)
  all_goals first | assumption | (refine use_eq ?_ ?_ ?_ ?_ ?_ ?_ <;> simp only [isSt_iff, isLi_iff, isWh_iff, true_iff, Bool.false_eq_true, false_iff] <;> omega)

/-- May an instruction be, where its operation has this name and uses this? -/
def mayF (e0 u1 u2 u3 u4 u5 u6 e1 e2 e3 e4 e5 e6 e7 e8 e9 : Bool) : Bool := !e0 && (!e1 && (!e2 && ((u1 || !(e3 || e4)) && ((u2 || !e5) && ((u3 || e6) && ((u4 || e7) && ((u5 || e8) && (u6 || e9))))))))

set_option maxHeartbeats 4000000 in
theorem may_of (op r a b nn : Int) (tg : List Int) (ll le : List Ins) (s : ByteArray) (u1 u2 u3 u4 u5 u6 : Bool) (h1 : Does Tryz.prog env 148 [sI .i64 op] [] (.agg [sB u1, sB u2, sB u3, sB u4, sB u5, sB u6]) []) (h2 : Does Tryz.prog env 149 [sI .i64 op] [] (.p (.sc (.string s))) []) :
    Does Tryz.prog env 126 [aggI op r a b nn tg ll le] [] (sB (mayF (s.data.toList == (ByteArray.mk #[]).data.toList) u1 u2 u3 u4 u5 u6 (decide (r < 0)) (decide (r > 1)) (r != 0) (decide ((ll.length : Int) > 0)) (decide ((le.length : Int) > 0)) (a == 0) (b == 0) (nn == 0) ((tg.length : Int) == 0))) [] := by
  refine does_of_tree names (may_tree op r a b nn tg ll le s u1 u2 u3 u4 u5 u6) ?_
  simp only [mayTree, Tree.ok]
  refine ⟨h1, h2, ?_⟩
  generalize (s.data.toList == (ByteArray.mk #[]).data.toList) = e0
  generalize decide (r < 0) = e1
  generalize decide (r > 1) = e2
  generalize (r != 0) = e3
  generalize decide ((ll.length : Int) > 0) = e4
  generalize decide ((le.length : Int) > 0) = e5
  generalize (a == 0) = e6
  generalize (b == 0) = e7
  generalize (nn == 0) = e8
  generalize ((tg.length : Int) == 0) = e9
  cases e0
  case true => simp [mayF]
  cases e1
  case true => simp [mayF]
  cases e2
  case true => simp [mayF]
  cases u1 <;> cases e3 <;> cases e4 <;> (try (simp [mayF]; done)) <;> cases u2 <;> cases e5 <;> (try (simp [mayF]; done)) <;> cases u3 <;> cases e6 <;> (try (simp [mayF]; done)) <;> cases u4 <;> cases e7 <;> (try (simp [mayF]; done)) <;> cases u5 <;> cases e8 <;> (try (simp [mayF]; done)) <;> cases u6 <;> simp [mayF]

end Go.Proofs.YtgbphddecpjlhaaGreatDoor.N
end
