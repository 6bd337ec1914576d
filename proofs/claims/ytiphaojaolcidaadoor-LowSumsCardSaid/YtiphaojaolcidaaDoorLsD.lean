/-
  A call of the law's functions: what it leaves in the machine; its trees (printed by a program of mine).
-/
import Derived.Test.YtiphaojaolcidaaDoorLsC
set_option linter.unusedVariables false
namespace Go.Proofs.YtiphaojaolcidaaDoor.N
open Go Go.Am

def ccC (_n _S _L D _T _x _y S1 L1 T1 : Int) (f : FuncId) (_ : List AV) (_ : Mem) : Option (AV × Mem) := cond (Nat.beq f 25) (some (sI .i64 0, mB S1 L1 D T1)) none
def cbC (n _S _L D _T S1 L1 T1 : Int) (f : FuncId) (_ : List AV) (_ : Mem) : Option (AV × Mem) := cond (Nat.beq f 59) (some (sI .i64 0, mC S1 L1 (IntKind.i64.wrap (D + 1)) T1 n T1)) none
def clC (_n _S _L D _T y S1 L1 T1 : Int) (f : FuncId) (_ : List AV) (_ : Mem) : Option (AV × Mem) := cond (Nat.beq f 55) (some (sI .i64 2, mL S1 L1 (IntKind.i64.wrap (D + 1)) T1 0 y)) none

/- cc: 29 steps -/
noncomputable def ccOrc (n : Int) (S : Int) (L : Int) (D : Int) (T : Int) (x : Int) (y : Int) (S1 : Int) (L1 : Int) (T1 : Int) : Orc := orcL (ccC n S L D T x y S1 L1 T1) noLed [] [] []
def ccSc : Sc := .fin
noncomputable def ccTree (n : Int) (S : Int) (L : Int) (D : Int) (T : Int) (x : Int) (_y : Int) (S1 : Int) (L1 : Int) (T1 : Int) : Tree :=
  (.call ⟨25, [AV.mp 0 0, AV.p (PV.sc (Value.int IntKind.i64 1)), AV.os (Option.some 1) 1 1 [PV.sc (Value.int IntKind.u32 n)]], [Blk.ac [AV.os Option.none 3 3 fns, AV.os Option.none 0 0 [], AV.os Option.none 0 0 [], AV.p (PV.sc (Value.int IntKind.i64 4)), AV.p (PV.sc (Value.int IntKind.i64 0)), AV.mp 2 0, AV.os Option.none 0 0 [], AV.os Option.none 0 0 [], AV.p (PV.sc (Value.int IntKind.i64 0)), AV.p (PV.sc (Value.int IntKind.i64 0)), AV.p (PV.sc (Value.int IntKind.i64 0)), AV.p (PV.sc (Value.int IntKind.i64 S)), AV.os Option.none 0 0 [], AV.p (PV.sc (Value.int IntKind.i64 L)), AV.p (PV.sc (Value.int IntKind.i64 D)), AV.p (PV.sc (Value.int IntKind.u32 T)), AV.p (PV.sc (Value.int IntKind.i64 0))], Blk.tok, Blk.ac [AV.vm 3, AV.p (PV.sc (Value.int IntKind.u32 4)), AV.p (PV.sc (Value.int IntKind.u32 65536))], Blk.ob (ObK.map [] [] 0) []], AV.p (PV.sc (Value.int IntKind.i64 0)), [Blk.ac [AV.os Option.none 3 3 fns, AV.os Option.none 0 0 [], AV.os Option.none 0 0 [], AV.p (PV.sc (Value.int IntKind.i64 4)), AV.p (PV.sc (Value.int IntKind.i64 0)), AV.mp 2 0, AV.os Option.none 0 0 [], AV.os Option.none 0 0 [], AV.p (PV.sc (Value.int IntKind.i64 0)), AV.p (PV.sc (Value.int IntKind.i64 0)), AV.p (PV.sc (Value.int IntKind.i64 0)), AV.p (PV.sc (Value.int IntKind.i64 S1)), AV.os Option.none 0 0 [], AV.p (PV.sc (Value.int IntKind.i64 L1)), AV.p (PV.sc (Value.int IntKind.i64 D)), AV.p (PV.sc (Value.int IntKind.u32 T1)), AV.p (PV.sc (Value.int IntKind.i64 0))], Blk.tok, Blk.ac [AV.vm 3, AV.p (PV.sc (Value.int IntKind.u32 4)), AV.p (PV.sc (Value.int IntKind.u32 65536))], Blk.ob (ObK.map [] [] 0) []]⟩
   (.out (Out.ret (AV.p (PV.sc (Value.int IntKind.i64 0))) [Blk.ac [AV.os Option.none 3 3 fns, AV.os Option.none 0 0 [], AV.os Option.none 0 0 [], AV.p (PV.sc (Value.int IntKind.i64 4)), AV.p (PV.sc (Value.int IntKind.i64 0)), AV.mp 3 0, AV.os Option.none 0 0 [], AV.os Option.none 0 0 [], AV.p (PV.sc (Value.int IntKind.i64 0)), AV.p (PV.sc (Value.int IntKind.i64 0)), AV.p (PV.sc (Value.int IntKind.i64 0)), AV.p (PV.sc (Value.int IntKind.i64 S1)), AV.os Option.none 0 0 [], AV.p (PV.sc (Value.int IntKind.i64 L1)), AV.p (PV.sc (Value.int IntKind.i64 D)), AV.p (PV.sc (Value.int IntKind.u32 T1)), AV.p (PV.sc (Value.int IntKind.i64 0))], Blk.tok, Blk.pc [PV.sc (Value.int IntKind.u32 x), PV.sc (Value.int IntKind.u32 T1)], Blk.ac [AV.vm 4, AV.p (PV.sc (Value.int IntKind.u32 4)), AV.p (PV.sc (Value.int IntKind.u32 65536))], Blk.ob (ObK.map [] [] 0) []])))
theorem cc_tree (n : Int) (S : Int) (L : Int) (D : Int) (T : Int) (x : Int) (y : Int) (S1 : Int) (L1 : Int) (T1 : Int) : growF Tryd.prog env (ccOrc n S L D T x y S1 L1 T1) 1000000 59 (aC 1 n) (mC S L D T x y) ccSc = ccTree n S L D T x y S1 L1 T1 := by kernel_rfl

/- cb: 2058 steps -/
noncomputable def cbOrc (n : Int) (S : Int) (L : Int) (D : Int) (T : Int) (S1 : Int) (L1 : Int) (T1 : Int) : Orc := orcL noC (cbC n S L D T S1 L1 T1) [] [(25, 0, 0), (51, 0, 0), (52, 0, 11)] []
def cbSc : Sc := (.no (.no (.fork (.no (.no .fin)) .fin)))
noncomputable def cbTree (n : Int) (S : Int) (L : Int) (D : Int) (T : Int) (S1 : Int) (L1 : Int) (T1 : Int) : Tree :=
  (.must (!(decide (D ≥ 5000)))
   (.must (!(L == 0))
    (.test (n != 0)
     (.must (!(IntKind.i64.wrap (L - 1) == 0))
      (.call ⟨59, [AV.mp 0 0, AV.p (PV.sc (Value.int IntKind.i64 1)), AV.os (Option.some 1) 1 1 [PV.sc (Value.int IntKind.u32 (IntKind.u32.wrap (n - 1)))], AV.mp 2 1], [Blk.ac [AV.os Option.none 3 3 fns, AV.os Option.none 0 0 [], AV.os Option.none 0 0 [], AV.p (PV.sc (Value.int IntKind.i64 4)), AV.p (PV.sc (Value.int IntKind.i64 0)), AV.mp 3 0, AV.os Option.none 0 0 [], AV.os Option.none 0 0 [], AV.p (PV.sc (Value.int IntKind.i64 0)), AV.p (PV.sc (Value.int IntKind.i64 0)), AV.p (PV.sc (Value.int IntKind.i64 0)), AV.p (PV.sc (Value.int IntKind.i64 (IntKind.i64.wrap (IntKind.i64.wrap (S + 1) + 1)))), AV.os Option.none 0 0 [], AV.p (PV.sc (Value.int IntKind.i64 (IntKind.i64.wrap (IntKind.i64.wrap (L - 1) - 1)))), AV.p (PV.sc (Value.int IntKind.i64 (IntKind.i64.wrap (D + 1)))), AV.p (PV.sc (Value.int IntKind.u32 T)), AV.p (PV.sc (Value.int IntKind.i64 0))], Blk.tok, Blk.pc [PV.sc (Value.int IntKind.u32 n), PV.sc (Value.int IntKind.u32 0)], Blk.ac [AV.vm 4, AV.p (PV.sc (Value.int IntKind.u32 4)), AV.p (PV.sc (Value.int IntKind.u32 65536))], Blk.ob (ObK.map [] [] 0) []], AV.p (PV.sc (Value.int IntKind.i64 0)), [Blk.ac [AV.os Option.none 3 3 fns, AV.os Option.none 0 0 [], AV.os Option.none 0 0 [], AV.p (PV.sc (Value.int IntKind.i64 4)), AV.p (PV.sc (Value.int IntKind.i64 0)), AV.mp 3 0, AV.os Option.none 0 0 [], AV.os Option.none 0 0 [], AV.p (PV.sc (Value.int IntKind.i64 0)), AV.p (PV.sc (Value.int IntKind.i64 0)), AV.p (PV.sc (Value.int IntKind.i64 0)), AV.p (PV.sc (Value.int IntKind.i64 S1)), AV.os Option.none 0 0 [], AV.p (PV.sc (Value.int IntKind.i64 L1)), AV.p (PV.sc (Value.int IntKind.i64 (IntKind.i64.wrap (D + 1)))), AV.p (PV.sc (Value.int IntKind.u32 T1)), AV.p (PV.sc (Value.int IntKind.i64 0))], Blk.tok, Blk.pc [PV.sc (Value.int IntKind.u32 n), PV.sc (Value.int IntKind.u32 T1)], Blk.ac [AV.vm 4, AV.p (PV.sc (Value.int IntKind.u32 4)), AV.p (PV.sc (Value.int IntKind.u32 65536))], Blk.ob (ObK.map [] [] 0) []]⟩
       (.must (!(L1 == 0))
        (.out (Out.ret (AV.p (PV.sc (Value.int IntKind.i64 0))) [Blk.ac [AV.os Option.none 3 3 fns, AV.os Option.none 0 0 [], AV.os Option.none 0 0 [], AV.p (PV.sc (Value.int IntKind.i64 4)), AV.p (PV.sc (Value.int IntKind.i64 0)), AV.mp 2 0, AV.os Option.none 0 0 [], AV.os Option.none 0 0 [], AV.p (PV.sc (Value.int IntKind.i64 0)), AV.p (PV.sc (Value.int IntKind.i64 0)), AV.p (PV.sc (Value.int IntKind.i64 0)), AV.p (PV.sc (Value.int IntKind.i64 (IntKind.i64.wrap (S1 + 1)))), AV.os Option.none 0 0 [], AV.p (PV.sc (Value.int IntKind.i64 (IntKind.i64.wrap (L1 - 1)))), AV.p (PV.sc (Value.int IntKind.i64 (IntKind.i64.wrap (IntKind.i64.wrap (D + 1) - 1)))), AV.p (PV.sc (Value.int IntKind.u32 (IntKind.u32.wrap (n + T1)))), AV.p (PV.sc (Value.int IntKind.i64 0))], Blk.tok, Blk.ac [AV.vm 3, AV.p (PV.sc (Value.int IntKind.u32 4)), AV.p (PV.sc (Value.int IntKind.u32 65536))], Blk.ob (ObK.map [] [] 0) []])))))
     (.out (Out.ret (AV.p (PV.sc (Value.int IntKind.i64 0))) [Blk.ac [AV.os Option.none 3 3 fns, AV.os Option.none 0 0 [], AV.os Option.none 0 0 [], AV.p (PV.sc (Value.int IntKind.i64 4)), AV.p (PV.sc (Value.int IntKind.i64 0)), AV.mp 2 0, AV.os Option.none 0 0 [], AV.os Option.none 0 0 [], AV.p (PV.sc (Value.int IntKind.i64 0)), AV.p (PV.sc (Value.int IntKind.i64 0)), AV.p (PV.sc (Value.int IntKind.i64 0)), AV.p (PV.sc (Value.int IntKind.i64 (IntKind.i64.wrap (S + 1)))), AV.os Option.none 0 0 [], AV.p (PV.sc (Value.int IntKind.i64 (IntKind.i64.wrap (L - 1)))), AV.p (PV.sc (Value.int IntKind.i64 (IntKind.i64.wrap (IntKind.i64.wrap (D + 1) - 1)))), AV.p (PV.sc (Value.int IntKind.u32 0)), AV.p (PV.sc (Value.int IntKind.i64 0))], Blk.tok, Blk.ac [AV.vm 3, AV.p (PV.sc (Value.int IntKind.u32 4)), AV.p (PV.sc (Value.int IntKind.u32 65536))], Blk.ob (ObK.map [] [] 0) []])))))
theorem cb_tree (n : Int) (S : Int) (L : Int) (D : Int) (T : Int) (S1 : Int) (L1 : Int) (T1 : Int) : growF Tryd.prog env (cbOrc n S L D T S1 L1 T1) 1000000 25 (aB 1 n) (mB S L D T) cbSc = cbTree n S L D T S1 L1 T1 := by kernel_rfl

/- ca: 2058 steps -/
noncomputable def caOrc (n : Int) (S : Int) (L : Int) (D : Int) (T : Int) (S1 : Int) (L1 : Int) (T1 : Int) : Orc := orcL noC (cbC n S L D T S1 L1 T1) [] [(25, 0, 0), (51, 0, 0), (52, 0, 11)] []
def caSc : Sc := (.no (.no (.fork (.no (.no .fin)) .fin)))
noncomputable def caTree (n : Int) (S : Int) (L : Int) (D : Int) (T : Int) (S1 : Int) (L1 : Int) (T1 : Int) : Tree :=
  (.must (!(decide (D ≥ 5000)))
   (.must (!(L == 0))
    (.test (n != 0)
     (.must (!(IntKind.i64.wrap (L - 1) == 0))
      (.call ⟨59, [AV.mp 0 0, AV.p (PV.sc (Value.int IntKind.i64 1)), AV.os (Option.some 1) 1 1 [PV.sc (Value.int IntKind.u32 (IntKind.u32.wrap (n - 1)))], AV.mp 2 1], [Blk.ac [AV.os Option.none 3 3 fns, AV.os Option.none 0 0 [], AV.os Option.none 0 0 [], AV.p (PV.sc (Value.int IntKind.i64 4)), AV.p (PV.sc (Value.int IntKind.i64 0)), AV.mp 3 0, AV.os Option.none 0 0 [], AV.os Option.none 0 0 [], AV.p (PV.sc (Value.int IntKind.i64 0)), AV.p (PV.sc (Value.int IntKind.i64 0)), AV.p (PV.sc (Value.int IntKind.i64 0)), AV.p (PV.sc (Value.int IntKind.i64 (IntKind.i64.wrap (IntKind.i64.wrap (S + 1) + 1)))), AV.os Option.none 0 0 [], AV.p (PV.sc (Value.int IntKind.i64 (IntKind.i64.wrap (IntKind.i64.wrap (L - 1) - 1)))), AV.p (PV.sc (Value.int IntKind.i64 (IntKind.i64.wrap (D + 1)))), AV.p (PV.sc (Value.int IntKind.u32 T)), AV.p (PV.sc (Value.int IntKind.i64 0))], Blk.tok, Blk.pc [PV.sc (Value.int IntKind.u32 n), PV.sc (Value.int IntKind.u32 0)], Blk.ac [AV.vm 4, AV.p (PV.sc (Value.int IntKind.u32 4)), AV.p (PV.sc (Value.int IntKind.u32 65536))], Blk.ob (ObK.map [] [] 0) []], AV.p (PV.sc (Value.int IntKind.i64 0)), [Blk.ac [AV.os Option.none 3 3 fns, AV.os Option.none 0 0 [], AV.os Option.none 0 0 [], AV.p (PV.sc (Value.int IntKind.i64 4)), AV.p (PV.sc (Value.int IntKind.i64 0)), AV.mp 3 0, AV.os Option.none 0 0 [], AV.os Option.none 0 0 [], AV.p (PV.sc (Value.int IntKind.i64 0)), AV.p (PV.sc (Value.int IntKind.i64 0)), AV.p (PV.sc (Value.int IntKind.i64 0)), AV.p (PV.sc (Value.int IntKind.i64 S1)), AV.os Option.none 0 0 [], AV.p (PV.sc (Value.int IntKind.i64 L1)), AV.p (PV.sc (Value.int IntKind.i64 (IntKind.i64.wrap (D + 1)))), AV.p (PV.sc (Value.int IntKind.u32 T1)), AV.p (PV.sc (Value.int IntKind.i64 0))], Blk.tok, Blk.pc [PV.sc (Value.int IntKind.u32 n), PV.sc (Value.int IntKind.u32 T1)], Blk.ac [AV.vm 4, AV.p (PV.sc (Value.int IntKind.u32 4)), AV.p (PV.sc (Value.int IntKind.u32 65536))], Blk.ob (ObK.map [] [] 0) []]⟩
       (.must (!(L1 == 0))
        (.out (Out.ret (AV.p (PV.sc (Value.int IntKind.i64 0))) [Blk.ac [AV.os Option.none 3 3 fns, AV.os Option.none 0 0 [], AV.os Option.none 0 0 [], AV.p (PV.sc (Value.int IntKind.i64 4)), AV.p (PV.sc (Value.int IntKind.i64 0)), AV.mp 1 0, AV.os Option.none 0 0 [], AV.os Option.none 0 0 [], AV.p (PV.sc (Value.int IntKind.i64 0)), AV.p (PV.sc (Value.int IntKind.i64 0)), AV.p (PV.sc (Value.int IntKind.i64 0)), AV.p (PV.sc (Value.int IntKind.i64 (IntKind.i64.wrap (S1 + 1)))), AV.os Option.none 0 0 [], AV.p (PV.sc (Value.int IntKind.i64 (IntKind.i64.wrap (L1 - 1)))), AV.p (PV.sc (Value.int IntKind.i64 (IntKind.i64.wrap (IntKind.i64.wrap (D + 1) - 1)))), AV.p (PV.sc (Value.int IntKind.u32 (IntKind.u32.wrap (n + T1)))), AV.p (PV.sc (Value.int IntKind.i64 0))], Blk.ac [AV.vm 2, AV.p (PV.sc (Value.int IntKind.u32 4)), AV.p (PV.sc (Value.int IntKind.u32 65536))], Blk.ob (ObK.map [] [] 0) []])))))
     (.out (Out.ret (AV.p (PV.sc (Value.int IntKind.i64 0))) [Blk.ac [AV.os Option.none 3 3 fns, AV.os Option.none 0 0 [], AV.os Option.none 0 0 [], AV.p (PV.sc (Value.int IntKind.i64 4)), AV.p (PV.sc (Value.int IntKind.i64 0)), AV.mp 1 0, AV.os Option.none 0 0 [], AV.os Option.none 0 0 [], AV.p (PV.sc (Value.int IntKind.i64 0)), AV.p (PV.sc (Value.int IntKind.i64 0)), AV.p (PV.sc (Value.int IntKind.i64 0)), AV.p (PV.sc (Value.int IntKind.i64 (IntKind.i64.wrap (S + 1)))), AV.os Option.none 0 0 [], AV.p (PV.sc (Value.int IntKind.i64 (IntKind.i64.wrap (L - 1)))), AV.p (PV.sc (Value.int IntKind.i64 (IntKind.i64.wrap (IntKind.i64.wrap (D + 1) - 1)))), AV.p (PV.sc (Value.int IntKind.u32 0)), AV.p (PV.sc (Value.int IntKind.i64 0))], Blk.ac [AV.vm 2, AV.p (PV.sc (Value.int IntKind.u32 4)), AV.p (PV.sc (Value.int IntKind.u32 65536))], Blk.ob (ObK.map [] [] 0) []])))))
theorem ca_tree (n : Int) (S : Int) (L : Int) (D : Int) (T : Int) (S1 : Int) (L1 : Int) (T1 : Int) : growF Tryd.prog env (caOrc n S L D T S1 L1 T1) 1000000 25 (aA 1 n) (mA S L D T) caSc = caTree n S L D T S1 L1 T1 := by kernel_rfl

/- lp: 6 steps -/
noncomputable def lpOrc : Orc := orcL noC noLed [(55, 0)] [] []
def lpSc : Sc := .fin
noncomputable def lpTree (x : Int) (y : Int) (S : Int) (L : Int) (D : Int) (T : Int) : Tree :=
  (.at (bodyCfg Tryd.prog env 55 0 [AV.mp 0 0, AV.p (PV.ps 3 6 lps), AV.ms 1 0 2 1 (Option.some 2)] ([Blk.ac [AV.os Option.none 3 3 fns, AV.os Option.none 0 0 [], AV.os Option.none 0 0 [], AV.p (PV.sc (Value.int IntKind.i64 4)), AV.p (PV.sc (Value.int IntKind.i64 0)), AV.mp 2 0, AV.os Option.none 0 0 [], AV.os Option.none 0 0 [], AV.p (PV.sc (Value.int IntKind.i64 0)), AV.p (PV.sc (Value.int IntKind.i64 0)), AV.p (PV.sc (Value.int IntKind.i64 0)), AV.p (PV.sc (Value.int IntKind.i64 S)), AV.os Option.none 0 0 [], AV.p (PV.sc (Value.int IntKind.i64 L)), AV.p (PV.sc (Value.int IntKind.i64 D)), AV.p (PV.sc (Value.int IntKind.u32 T)), AV.p (PV.sc (Value.int IntKind.i64 0))], Blk.pc [PV.sc (Value.int IntKind.u32 x), PV.sc (Value.int IntKind.u32 y)], Blk.ac [AV.vm 3, AV.p (PV.sc (Value.int IntKind.u32 4)), AV.p (PV.sc (Value.int IntKind.u32 65536))], Blk.ob (ObK.map [] [] 0) []]) 4 40))
theorem lp_tree (x : Int) (y : Int) (S : Int) (L : Int) (D : Int) (T : Int) : growF Tryd.prog env lpOrc 1000000 55 (aL) (mL S L D T x y) lpSc = lpTree x y S L D T := by kernel_rfl

/- lb: 2300 steps -/
noncomputable def lbOrc : Orc := orcL noC noLed [(55, 0)] [(51, 0, 0), (52, 0, 11)] []
def lbSc : Sc := (.no (.fork (.no (.no (.no .fin))) (.no .fin)))
noncomputable def lbTree (x : Int) (y : Int) (S : Int) (L : Int) (D : Int) (T : Int) : Tree :=
  (.must (!(L == 0))
   (.test (x != 0)
    (.must (!(IntKind.i64.wrap (L - 1) == 0))
     (.must (!(IntKind.i64.wrap (IntKind.i64.wrap (L - 1) - 1) == 0))
      (.must (!(IntKind.i64.wrap (IntKind.i64.wrap (IntKind.i64.wrap (L - 1) - 1) - 1) == 0))
       (.at (bodyCfg Tryd.prog env 55 0 [AV.mp 0 0, AV.p (PV.ps 3 6 lps), AV.ms 1 0 2 1 (Option.some 2)] ([Blk.ac [AV.os Option.none 3 3 fns, AV.os Option.none 0 0 [], AV.os Option.none 0 0 [], AV.p (PV.sc (Value.int IntKind.i64 4)), AV.p (PV.sc (Value.int IntKind.i64 0)), AV.mp 2 0, AV.os Option.none 0 0 [], AV.os Option.none 0 0 [], AV.p (PV.sc (Value.int IntKind.i64 0)), AV.p (PV.sc (Value.int IntKind.i64 0)), AV.p (PV.sc (Value.int IntKind.i64 0)), AV.p (PV.sc (Value.int IntKind.i64 (IntKind.i64.wrap (IntKind.i64.wrap (IntKind.i64.wrap (IntKind.i64.wrap (S + 1) + 1) + 1) + 1)))), AV.os Option.none 0 0 [], AV.p (PV.sc (Value.int IntKind.i64 (IntKind.i64.wrap (IntKind.i64.wrap (IntKind.i64.wrap (IntKind.i64.wrap (L - 1) - 1) - 1) - 1)))), AV.p (PV.sc (Value.int IntKind.i64 D)), AV.p (PV.sc (Value.int IntKind.u32 T)), AV.p (PV.sc (Value.int IntKind.i64 0))], Blk.pc [PV.sc (Value.int IntKind.u32 (IntKind.u32.wrap (x - 1))), PV.sc (Value.int IntKind.u32 (IntKind.u32.wrap (y + x)))], Blk.ac [AV.vm 3, AV.p (PV.sc (Value.int IntKind.u32 4)), AV.p (PV.sc (Value.int IntKind.u32 65536))], Blk.ob (ObK.map [] [] 0) []]) 4 40)))))
    (.must (!(IntKind.i64.wrap (L - 1) == 0))
     (.out (Out.ret (AV.p (PV.sc (Value.int IntKind.i64 2))) [Blk.ac [AV.os Option.none 3 3 fns, AV.os Option.none 0 0 [], AV.os Option.none 0 0 [], AV.p (PV.sc (Value.int IntKind.i64 4)), AV.p (PV.sc (Value.int IntKind.i64 0)), AV.mp 2 0, AV.os Option.none 0 0 [], AV.os Option.none 0 0 [], AV.p (PV.sc (Value.int IntKind.i64 0)), AV.p (PV.sc (Value.int IntKind.i64 0)), AV.p (PV.sc (Value.int IntKind.i64 0)), AV.p (PV.sc (Value.int IntKind.i64 (IntKind.i64.wrap (IntKind.i64.wrap (S + 1) + 1)))), AV.os Option.none 0 0 [], AV.p (PV.sc (Value.int IntKind.i64 (IntKind.i64.wrap (IntKind.i64.wrap (L - 1) - 1)))), AV.p (PV.sc (Value.int IntKind.i64 D)), AV.p (PV.sc (Value.int IntKind.u32 y)), AV.p (PV.sc (Value.int IntKind.i64 0))], Blk.pc [PV.sc (Value.int IntKind.u32 x), PV.sc (Value.int IntKind.u32 y)], Blk.ac [AV.vm 3, AV.p (PV.sc (Value.int IntKind.u32 4)), AV.p (PV.sc (Value.int IntKind.u32 65536))], Blk.ob (ObK.map [] [] 0) []])))))
theorem lb_tree (x : Int) (y : Int) (S : Int) (L : Int) (D : Int) (T : Int) : grow Tryd.prog env lbOrc 1000000 true (bodyCfg Tryd.prog env 55 0 (aL) (mL S L D T x y) 4 40) lbSc atEnd = lbTree x y S L D T := by kernel_rfl

/- cl: 224 steps -/
noncomputable def clOrc (n : Int) (S : Int) (L : Int) (D : Int) (T : Int) (y : Int) (S1 : Int) (L1 : Int) (T1 : Int) : Orc := orcL (clC n S L D T y S1 L1 T1) noLed [] [(25, 0, 0), (51, 0, 0)] []
def clSc : Sc := (.no (.no .fin))
noncomputable def clTree (n : Int) (S : Int) (L : Int) (D : Int) (T : Int) (y : Int) (S1 : Int) (L1 : Int) (T1 : Int) : Tree :=
  (.must (!(decide (D ≥ 5000)))
   (.must (!(L == 0))
    (.call ⟨55, [AV.mp 0 0, AV.p (PV.ps 3 6 lps), AV.ms 1 0 2 1 (Option.some 2)], [Blk.ac [AV.os Option.none 3 3 fns, AV.os Option.none 0 0 [], AV.os Option.none 0 0 [], AV.p (PV.sc (Value.int IntKind.i64 4)), AV.p (PV.sc (Value.int IntKind.i64 0)), AV.mp 2 0, AV.os Option.none 0 0 [], AV.os Option.none 0 0 [], AV.p (PV.sc (Value.int IntKind.i64 0)), AV.p (PV.sc (Value.int IntKind.i64 0)), AV.p (PV.sc (Value.int IntKind.i64 0)), AV.p (PV.sc (Value.int IntKind.i64 (IntKind.i64.wrap (S + 1)))), AV.os Option.none 0 0 [], AV.p (PV.sc (Value.int IntKind.i64 (IntKind.i64.wrap (L - 1)))), AV.p (PV.sc (Value.int IntKind.i64 (IntKind.i64.wrap (D + 1)))), AV.p (PV.sc (Value.int IntKind.u32 T)), AV.p (PV.sc (Value.int IntKind.i64 0))], Blk.pc [PV.sc (Value.int IntKind.u32 n), PV.sc (Value.int IntKind.u32 0)], Blk.ac [AV.vm 3, AV.p (PV.sc (Value.int IntKind.u32 4)), AV.p (PV.sc (Value.int IntKind.u32 65536))], Blk.ob (ObK.map [] [] 0) []], AV.p (PV.sc (Value.int IntKind.i64 2)), [Blk.ac [AV.os Option.none 3 3 fns, AV.os Option.none 0 0 [], AV.os Option.none 0 0 [], AV.p (PV.sc (Value.int IntKind.i64 4)), AV.p (PV.sc (Value.int IntKind.i64 0)), AV.mp 2 0, AV.os Option.none 0 0 [], AV.os Option.none 0 0 [], AV.p (PV.sc (Value.int IntKind.i64 0)), AV.p (PV.sc (Value.int IntKind.i64 0)), AV.p (PV.sc (Value.int IntKind.i64 0)), AV.p (PV.sc (Value.int IntKind.i64 S1)), AV.os Option.none 0 0 [], AV.p (PV.sc (Value.int IntKind.i64 L1)), AV.p (PV.sc (Value.int IntKind.i64 (IntKind.i64.wrap (D + 1)))), AV.p (PV.sc (Value.int IntKind.u32 T1)), AV.p (PV.sc (Value.int IntKind.i64 0))], Blk.pc [PV.sc (Value.int IntKind.u32 0), PV.sc (Value.int IntKind.u32 y)], Blk.ac [AV.vm 3, AV.p (PV.sc (Value.int IntKind.u32 4)), AV.p (PV.sc (Value.int IntKind.u32 65536))], Blk.ob (ObK.map [] [] 0) []]⟩
     (.out (Out.ret (AV.p (PV.sc (Value.int IntKind.i64 0))) [Blk.ac [AV.os Option.none 3 3 fns, AV.os Option.none 0 0 [], AV.os Option.none 0 0 [], AV.p (PV.sc (Value.int IntKind.i64 4)), AV.p (PV.sc (Value.int IntKind.i64 0)), AV.mp 1 0, AV.os Option.none 0 0 [], AV.os Option.none 0 0 [], AV.p (PV.sc (Value.int IntKind.i64 0)), AV.p (PV.sc (Value.int IntKind.i64 0)), AV.p (PV.sc (Value.int IntKind.i64 0)), AV.p (PV.sc (Value.int IntKind.i64 S1)), AV.os Option.none 0 0 [], AV.p (PV.sc (Value.int IntKind.i64 L1)), AV.p (PV.sc (Value.int IntKind.i64 (IntKind.i64.wrap (IntKind.i64.wrap (D + 1) - 1)))), AV.p (PV.sc (Value.int IntKind.u32 T1)), AV.p (PV.sc (Value.int IntKind.i64 0))], Blk.ac [AV.vm 2, AV.p (PV.sc (Value.int IntKind.u32 4)), AV.p (PV.sc (Value.int IntKind.u32 65536))], Blk.ob (ObK.map [] [] 0) []])))))
theorem cl_tree (n : Int) (S : Int) (L : Int) (D : Int) (T : Int) (y : Int) (S1 : Int) (L1 : Int) (T1 : Int) : growF Tryd.prog env (clOrc n S L D T y S1 L1 T1) 1000000 25 (aA 2 n) (mA S L D T) clSc = clTree n S L D T y S1 L1 T1 := by kernel_rfl


/-- What is below a number, and itself. -/
def tri : Nat → Int
  | 0 => 0
  | n + 1 => tri n + (n + 1)

theorem tri_bound : ∀ n : Nat, 0 ≤ tri n ∧ tri n ≤ n * 301 ∨ 300 < n
  | 0 => .inl ⟨Int.le_refl _, Int.le_refl _⟩
  | n + 1 => by
    rcases tri_bound n with h | h
    · simp only [tri]; omega
    · omega

theorem tri_eq : ∀ n : Nat, 2 * tri n = n * (n + 1)
  | 0 => rfl
  | n + 1 => by
    have := tri_eq n
    simp only [tri, Int.mul_add] at this ⊢
    push_cast
    simp only [Int.mul_add, Int.add_mul] at this ⊢
    omega

theorem cb_does : ∀ (n : Nat) (S L D T S' L' : Int), n ≤ 300 → 0 ≤ S → S + (3 * n + 1) ≤ 20000 → 3 * n + 1 ≤ L → L ≤ 20000 → 0 ≤ D → D + n < 5000 → S' = S + (3 * n + 1) → L' = L - (3 * n + 1) →
    Does Tryd.prog env 25 (aB 1 n) (mB S L D T) (sI .i64 0) (mB S' L' D (tri n))
  | 0, S, L, D, T, S', L', _, hS, hS', hL, hL', hD, hD', eS, eL => by
    obtain rfl : S' = S + 1 := by omega
    obtain rfl : L' = L - 1 := by omega
    refine does_of_tree names (cb_tree 0 S L D T 0 0 0) ?_
    simp (disch := omega) only [cbTree, Tree.ok, i64In, u32In, Int.add_sub_cancel]
    refine ⟨by simp; omega, by simp; omega, fun h => ?_, fun _ => rfl⟩
    simp at h
  | n + 1, S, L, D, T, S', L', hn, hS, hS', hL, hL', hD, hD', eS, eL => by
    have hb := tri_bound n
    obtain rfl : S' = S + 1 + 1 + (3 * n + 1) + 1 := by omega
    obtain rfl : L' = L - 1 - 1 - (3 * n + 1) - 1 := by omega
    refine does_of_tree names (cb_tree ((n + 1 : Nat) : Int) S L D T (S + 1 + 1 + (3 * n + 1)) (L - 1 - 1 - (3 * n + 1)) (tri n)) ?_
    have IH := cb_does n (S + 1 + 1) (L - 1 - 1) (D + 1) T _ _ (by omega) (by omega) (by omega) (by omega) (by omega) (by omega) (by omega) rfl rfl
    have hn1 : (((n + 1 : Nat) : Int) - 1) = n := by omega
    have ht : ((n + 1 : Nat) : Int) + tri n = tri (n + 1) := by simp only [tri]; omega
    simp (disch := omega) only [cbTree, Tree.ok, i64In, u32In, Int.add_sub_cancel, hn1, ht]
    have h1 : ¬ D ≥ 5000 := by omega
    have h2 : ¬ L = 0 := by omega
    have h3 : ¬ L - 1 = 0 := by omega
    have h4 : ¬ L - 1 - 1 - (3 * (n : Int) + 1) = 0 := by omega
    refine ⟨by simpa using h1, by simpa using h2, fun _ => ⟨by simpa using h3, ?_, by simpa using h4, ?_⟩, fun h => ?_⟩
    · refine does_of_tree names (cc_tree n (S + 1 + 1) (L - 1 - 1) (D + 1) T _ _ (S + 1 + 1 + (3 * n + 1)) (L - 1 - 1 - (3 * n + 1)) (tri n)) ?_
      exact ⟨IH, rfl⟩
    · trivial
    · simp at h; omega

end Go.Proofs.YtiphaojaolcidaaDoor.N
