/-
  Words, and bytes, that are got from such a memory.
-/
import Derived.Test.YtiacpconafalhaaMkC
set_option linter.unusedVariables false
set_option linter.unusedSimpArgs false
namespace Go.Proofs.Ytiacpconafalhaa.N
open Go Go.Am

def rNA (a _n : Int) (q : Nat) : List AV := [.mp 0 0, sI .u32 a, sI .u32 q]
def rNM (_a n : Int) (_q : Nat) : Mem := mN n
def zNA (a _n : Int) (q _k i : Nat) (_x : Int) (_X : List PV) : List AV := [.mp 0 0, sI .u32 a, .ms 2 0 (q + 1) 1 (some (q + 1)), sI .i64 (q + 1 : Nat), sI .i64 i]
def zNM (_a n : Int) (_q _k _i : Nat) (_x : Int) (X : List PV) : Mem := (mN n) ++ [.pc X]
def zNS (_a _n : Int) (_q k i : Nat) (_x : Int) (_X : List PV) : FuncId → Nat → Nat → Option (AV → AV) := shapeAt [(10, 12, 7, sI .u64 k), (10, 13, 0, sI .i64 (i + 1 : Nat))]
def zNC (_a _n : Int) (_q _k _i : Nat) (x : Int) (_X : List PV) (f : FuncId) (_ : List AV) (m : Mem) : Option (AV × Mem) := cond (Nat.beq f 19) (some (sI .u8 x, m)) none
def rSA (a _n : Int) (q : Nat) (_c : List PV) : List AV := [.mp 0 0, sI .u32 a, sI .u32 q]
def rSM (_a n : Int) (_q : Nat) (c : List PV) : Mem := mS n c
def zSA (a _n : Int) (q _k i : Nat) (_x : Int) (_X : List PV) (_c : List PV) : List AV := [.mp 0 0, sI .u32 a, .ms 3 0 (q + 1) 1 (some (q + 1)), sI .i64 (q + 1 : Nat), sI .i64 i]
def zSM (_a n : Int) (_q _k _i : Nat) (_x : Int) (X : List PV) (c : List PV) : Mem := (mS n c) ++ [.pc X]
def zSS (_a _n : Int) (_q k i : Nat) (_x : Int) (_X : List PV) (_c : List PV) : FuncId → Nat → Nat → Option (AV → AV) := shapeAt [(10, 12, 7, sI .u64 k), (10, 13, 0, sI .i64 (i + 1 : Nat))]
def zSC (_a _n : Int) (_q _k _i : Nat) (x : Int) (_X : List PV) (_c : List PV) (f : FuncId) (_ : List AV) (m : Mem) : Option (AV × Mem) := cond (Nat.beq f 19) (some (sI .u8 x, m)) none
def pNA (_n : Int) : List AV := [.mp 0 0]
def pNM (n : Int) : Mem := mN n
def pSA (_n : Int) (_c : List PV) : List AV := [.mp 0 0]
def pSM (n : Int) (c : List PV) : Mem := mS n c
def bA (m k : Nat) (c d : List PV) : List AV := [.p (.ps m 1 c), .p (.ps k 1 d)]

/- l40N: 308 steps -/
noncomputable def l40NOrc (a : Int) (o : Int) (n : Int) (k : Nat) (G : Int → Int) : Orc := orcS (l40NC a o n k G) noLed [] [(8, 0, 2)] [] (l40NS a o n k G)
def l40NSc : Sc := .fin
noncomputable def l40NTree (a : Int) (o : Int) (n : Int) (k : Nat) (G : Int → Int) : Tree :=
  (.need (AV.p (PV.sc (Value.int IntKind.u64 (IntKind.u64.wrap (IntKind.u64.wrap a + IntKind.u64.wrap o)))) = sI IntKind.u64 (↑k : Int))
   (.test (!decide (IntKind.u64.wrap ((↑k : Int) + 4) ≤ IntKind.u64.wrap (IntKind.u64.wrap n * 65536)))
    (.out (Out.ret (AV.tup [AV.p (PV.sc (Value.int IntKind.u32 0)), AV.p (PV.sc (Value.int IntKind.i64 220))]) [Blk.ac [AV.vm 1, AV.p (PV.sc (Value.int IntKind.u32 n)), AV.p (PV.sc (Value.int IntKind.u32 2))], Blk.ob (ObK.map [] [] 0) []]))
    (.call ⟨19, [AV.mp 0 0, AV.p (PV.sc (Value.int IntKind.u64 (IntKind.u64.wrap ((↑k : Int) + 0))))], [Blk.ac [AV.vm 1, AV.p (PV.sc (Value.int IntKind.u32 n)), AV.p (PV.sc (Value.int IntKind.u32 2))], Blk.ob (ObK.map [] [] 0) []], AV.p (PV.sc (Value.int IntKind.u8 (G (IntKind.u64.wrap ((↑k : Int) + 0))))), [Blk.ac [AV.vm 1, AV.p (PV.sc (Value.int IntKind.u32 n)), AV.p (PV.sc (Value.int IntKind.u32 2))], Blk.ob (ObK.map [] [] 0) []]⟩
     (.call ⟨19, [AV.mp 0 0, AV.p (PV.sc (Value.int IntKind.u64 (IntKind.u64.wrap ((↑k : Int) + 1))))], [Blk.ac [AV.vm 1, AV.p (PV.sc (Value.int IntKind.u32 n)), AV.p (PV.sc (Value.int IntKind.u32 2))], Blk.ob (ObK.map [] [] 0) []], AV.p (PV.sc (Value.int IntKind.u8 (G (IntKind.u64.wrap ((↑k : Int) + 1))))), [Blk.ac [AV.vm 1, AV.p (PV.sc (Value.int IntKind.u32 n)), AV.p (PV.sc (Value.int IntKind.u32 2))], Blk.ob (ObK.map [] [] 0) []]⟩
      (.call ⟨19, [AV.mp 0 0, AV.p (PV.sc (Value.int IntKind.u64 (IntKind.u64.wrap ((↑k : Int) + 2))))], [Blk.ac [AV.vm 1, AV.p (PV.sc (Value.int IntKind.u32 n)), AV.p (PV.sc (Value.int IntKind.u32 2))], Blk.ob (ObK.map [] [] 0) []], AV.p (PV.sc (Value.int IntKind.u8 (G (IntKind.u64.wrap ((↑k : Int) + 2))))), [Blk.ac [AV.vm 1, AV.p (PV.sc (Value.int IntKind.u32 n)), AV.p (PV.sc (Value.int IntKind.u32 2))], Blk.ob (ObK.map [] [] 0) []]⟩
       (.call ⟨19, [AV.mp 0 0, AV.p (PV.sc (Value.int IntKind.u64 (IntKind.u64.wrap ((↑k : Int) + 3))))], [Blk.ac [AV.vm 1, AV.p (PV.sc (Value.int IntKind.u32 n)), AV.p (PV.sc (Value.int IntKind.u32 2))], Blk.ob (ObK.map [] [] 0) []], AV.p (PV.sc (Value.int IntKind.u8 (G (IntKind.u64.wrap ((↑k : Int) + 3))))), [Blk.ac [AV.vm 1, AV.p (PV.sc (Value.int IntKind.u32 n)), AV.p (PV.sc (Value.int IntKind.u32 2))], Blk.ob (ObK.map [] [] 0) []]⟩
        (.out (Out.ret (AV.tup [AV.p (PV.sc (Value.int IntKind.u32 (IntKind.u32.wrap (↑(BitVec.ofInt 32 (IntKind.u32.wrap (↑(BitVec.ofInt 32 (IntKind.u32.wrap (↑(BitVec.ofInt 32 (IntKind.u32.wrap (↑(BitVec.ofInt 32 0 ||| BitVec.ofInt 32 (IntKind.u32.wrap (IntKind.u32.wrap (G (IntKind.u64.wrap ((↑k : Int) + 0))) * 1))).toNat : Int)) ||| BitVec.ofInt 32 (IntKind.u32.wrap (IntKind.u32.wrap (G (IntKind.u64.wrap ((↑k : Int) + 1))) * 256))).toNat : Int)) ||| BitVec.ofInt 32 (IntKind.u32.wrap (IntKind.u32.wrap (G (IntKind.u64.wrap ((↑k : Int) + 2))) * 65536))).toNat : Int)) ||| BitVec.ofInt 32 (IntKind.u32.wrap (IntKind.u32.wrap (G (IntKind.u64.wrap ((↑k : Int) + 3))) * 16777216))).toNat : Int)))), AV.p (PV.sc (Value.int IntKind.i64 0))]) [Blk.ac [AV.vm 1, AV.p (PV.sc (Value.int IntKind.u32 n)), AV.p (PV.sc (Value.int IntKind.u32 2))], Blk.ob (ObK.map [] [] 0) []]))))))))
theorem l40N_tree (a : Int) (o : Int) (n : Int) (k : Nat) (G : Int → Int) : growF Try.prog env (l40NOrc a o n k G) 1000000 8 ([AV.mp 0 0, sI IntKind.i64 40, sI IntKind.u32 a, sI IntKind.u32 o]) (mN n) l40NSc = l40NTree a o n k G := by kernel_rfl

/- l40S: 308 steps -/
noncomputable def l40SOrc (a : Int) (o : Int) (n : Int) (k : Nat) (G : Int → Int) (c : List PV) : Orc := orcS (l40SC a o n k G c) noLed [] [(8, 0, 2)] [] (l40SS a o n k G c)
def l40SSc : Sc := .fin
noncomputable def l40STree (a : Int) (o : Int) (n : Int) (k : Nat) (G : Int → Int) (c : List PV) : Tree :=
  (.need (AV.p (PV.sc (Value.int IntKind.u64 (IntKind.u64.wrap (IntKind.u64.wrap a + IntKind.u64.wrap o)))) = sI IntKind.u64 (↑k : Int))
   (.test (!decide (IntKind.u64.wrap ((↑k : Int) + 4) ≤ IntKind.u64.wrap (IntKind.u64.wrap n * 65536)))
    (.out (Out.ret (AV.tup [AV.p (PV.sc (Value.int IntKind.u32 0)), AV.p (PV.sc (Value.int IntKind.i64 220))]) [Blk.ac [AV.vm 1, AV.p (PV.sc (Value.int IntKind.u32 n)), AV.p (PV.sc (Value.int IntKind.u32 2))], Blk.ob (ObK.map [Value.int IntKind.u32 0] [0] 1) [AV.mp 2 0], Blk.pc c]))
    (.call ⟨19, [AV.mp 0 0, AV.p (PV.sc (Value.int IntKind.u64 (IntKind.u64.wrap ((↑k : Int) + 0))))], [Blk.ac [AV.vm 1, AV.p (PV.sc (Value.int IntKind.u32 n)), AV.p (PV.sc (Value.int IntKind.u32 2))], Blk.ob (ObK.map [Value.int IntKind.u32 0] [0] 1) [AV.mp 2 0], Blk.pc c], AV.p (PV.sc (Value.int IntKind.u8 (G (IntKind.u64.wrap ((↑k : Int) + 0))))), [Blk.ac [AV.vm 1, AV.p (PV.sc (Value.int IntKind.u32 n)), AV.p (PV.sc (Value.int IntKind.u32 2))], Blk.ob (ObK.map [Value.int IntKind.u32 0] [0] 1) [AV.mp 2 0], Blk.pc c]⟩
     (.call ⟨19, [AV.mp 0 0, AV.p (PV.sc (Value.int IntKind.u64 (IntKind.u64.wrap ((↑k : Int) + 1))))], [Blk.ac [AV.vm 1, AV.p (PV.sc (Value.int IntKind.u32 n)), AV.p (PV.sc (Value.int IntKind.u32 2))], Blk.ob (ObK.map [Value.int IntKind.u32 0] [0] 1) [AV.mp 2 0], Blk.pc c], AV.p (PV.sc (Value.int IntKind.u8 (G (IntKind.u64.wrap ((↑k : Int) + 1))))), [Blk.ac [AV.vm 1, AV.p (PV.sc (Value.int IntKind.u32 n)), AV.p (PV.sc (Value.int IntKind.u32 2))], Blk.ob (ObK.map [Value.int IntKind.u32 0] [0] 1) [AV.mp 2 0], Blk.pc c]⟩
      (.call ⟨19, [AV.mp 0 0, AV.p (PV.sc (Value.int IntKind.u64 (IntKind.u64.wrap ((↑k : Int) + 2))))], [Blk.ac [AV.vm 1, AV.p (PV.sc (Value.int IntKind.u32 n)), AV.p (PV.sc (Value.int IntKind.u32 2))], Blk.ob (ObK.map [Value.int IntKind.u32 0] [0] 1) [AV.mp 2 0], Blk.pc c], AV.p (PV.sc (Value.int IntKind.u8 (G (IntKind.u64.wrap ((↑k : Int) + 2))))), [Blk.ac [AV.vm 1, AV.p (PV.sc (Value.int IntKind.u32 n)), AV.p (PV.sc (Value.int IntKind.u32 2))], Blk.ob (ObK.map [Value.int IntKind.u32 0] [0] 1) [AV.mp 2 0], Blk.pc c]⟩
       (.call ⟨19, [AV.mp 0 0, AV.p (PV.sc (Value.int IntKind.u64 (IntKind.u64.wrap ((↑k : Int) + 3))))], [Blk.ac [AV.vm 1, AV.p (PV.sc (Value.int IntKind.u32 n)), AV.p (PV.sc (Value.int IntKind.u32 2))], Blk.ob (ObK.map [Value.int IntKind.u32 0] [0] 1) [AV.mp 2 0], Blk.pc c], AV.p (PV.sc (Value.int IntKind.u8 (G (IntKind.u64.wrap ((↑k : Int) + 3))))), [Blk.ac [AV.vm 1, AV.p (PV.sc (Value.int IntKind.u32 n)), AV.p (PV.sc (Value.int IntKind.u32 2))], Blk.ob (ObK.map [Value.int IntKind.u32 0] [0] 1) [AV.mp 2 0], Blk.pc c]⟩
        (.out (Out.ret (AV.tup [AV.p (PV.sc (Value.int IntKind.u32 (IntKind.u32.wrap (↑(BitVec.ofInt 32 (IntKind.u32.wrap (↑(BitVec.ofInt 32 (IntKind.u32.wrap (↑(BitVec.ofInt 32 (IntKind.u32.wrap (↑(BitVec.ofInt 32 0 ||| BitVec.ofInt 32 (IntKind.u32.wrap (IntKind.u32.wrap (G (IntKind.u64.wrap ((↑k : Int) + 0))) * 1))).toNat : Int)) ||| BitVec.ofInt 32 (IntKind.u32.wrap (IntKind.u32.wrap (G (IntKind.u64.wrap ((↑k : Int) + 1))) * 256))).toNat : Int)) ||| BitVec.ofInt 32 (IntKind.u32.wrap (IntKind.u32.wrap (G (IntKind.u64.wrap ((↑k : Int) + 2))) * 65536))).toNat : Int)) ||| BitVec.ofInt 32 (IntKind.u32.wrap (IntKind.u32.wrap (G (IntKind.u64.wrap ((↑k : Int) + 3))) * 16777216))).toNat : Int)))), AV.p (PV.sc (Value.int IntKind.i64 0))]) [Blk.ac [AV.vm 1, AV.p (PV.sc (Value.int IntKind.u32 n)), AV.p (PV.sc (Value.int IntKind.u32 2))], Blk.ob (ObK.map [Value.int IntKind.u32 0] [0] 1) [AV.mp 2 0], Blk.pc c]))))))))
theorem l40S_tree (a : Int) (o : Int) (n : Int) (k : Nat) (G : Int → Int) (c : List PV) : growF Try.prog env (l40SOrc a o n k G c) 1000000 8 ([AV.mp 0 0, sI IntKind.i64 40, sI IntKind.u32 a, sI IntKind.u32 o]) (mS n c) l40SSc = l40STree a o n k G c := by kernel_rfl

/- l47N: 252 steps -/
noncomputable def l47NOrc (a : Int) (o : Int) (n : Int) (k : Nat) (G : Int → Int) : Orc := orcS (l47NC a o n k G) noLed [] [(8, 0, 2)] [] (l47NS a o n k G)
def l47NSc : Sc := .fin
noncomputable def l47NTree (a : Int) (o : Int) (n : Int) (k : Nat) (G : Int → Int) : Tree :=
  (.need (AV.p (PV.sc (Value.int IntKind.u64 (IntKind.u64.wrap (IntKind.u64.wrap a + IntKind.u64.wrap o)))) = sI IntKind.u64 (↑k : Int))
   (.test (!decide (IntKind.u64.wrap ((↑k : Int) + 2) ≤ IntKind.u64.wrap (IntKind.u64.wrap n * 65536)))
    (.out (Out.ret (AV.tup [AV.p (PV.sc (Value.int IntKind.u32 0)), AV.p (PV.sc (Value.int IntKind.i64 220))]) [Blk.ac [AV.vm 1, AV.p (PV.sc (Value.int IntKind.u32 n)), AV.p (PV.sc (Value.int IntKind.u32 2))], Blk.ob (ObK.map [] [] 0) []]))
    (.call ⟨19, [AV.mp 0 0, AV.p (PV.sc (Value.int IntKind.u64 (IntKind.u64.wrap ((↑k : Int) + 0))))], [Blk.ac [AV.vm 1, AV.p (PV.sc (Value.int IntKind.u32 n)), AV.p (PV.sc (Value.int IntKind.u32 2))], Blk.ob (ObK.map [] [] 0) []], AV.p (PV.sc (Value.int IntKind.u8 (G (IntKind.u64.wrap ((↑k : Int) + 0))))), [Blk.ac [AV.vm 1, AV.p (PV.sc (Value.int IntKind.u32 n)), AV.p (PV.sc (Value.int IntKind.u32 2))], Blk.ob (ObK.map [] [] 0) []]⟩
     (.call ⟨19, [AV.mp 0 0, AV.p (PV.sc (Value.int IntKind.u64 (IntKind.u64.wrap ((↑k : Int) + 1))))], [Blk.ac [AV.vm 1, AV.p (PV.sc (Value.int IntKind.u32 n)), AV.p (PV.sc (Value.int IntKind.u32 2))], Blk.ob (ObK.map [] [] 0) []], AV.p (PV.sc (Value.int IntKind.u8 (G (IntKind.u64.wrap ((↑k : Int) + 1))))), [Blk.ac [AV.vm 1, AV.p (PV.sc (Value.int IntKind.u32 n)), AV.p (PV.sc (Value.int IntKind.u32 2))], Blk.ob (ObK.map [] [] 0) []]⟩
      (.out (Out.ret (AV.tup [AV.p (PV.sc (Value.int IntKind.u32 (IntKind.u32.wrap (↑(BitVec.ofInt 32 (IntKind.u32.wrap (↑(BitVec.ofInt 32 0 ||| BitVec.ofInt 32 (IntKind.u32.wrap (IntKind.u32.wrap (G (IntKind.u64.wrap ((↑k : Int) + 0))) * 1))).toNat : Int)) ||| BitVec.ofInt 32 (IntKind.u32.wrap (IntKind.u32.wrap (G (IntKind.u64.wrap ((↑k : Int) + 1))) * 256))).toNat : Int)))), AV.p (PV.sc (Value.int IntKind.i64 0))]) [Blk.ac [AV.vm 1, AV.p (PV.sc (Value.int IntKind.u32 n)), AV.p (PV.sc (Value.int IntKind.u32 2))], Blk.ob (ObK.map [] [] 0) []]))))))
theorem l47N_tree (a : Int) (o : Int) (n : Int) (k : Nat) (G : Int → Int) : growF Try.prog env (l47NOrc a o n k G) 1000000 8 ([AV.mp 0 0, sI IntKind.i64 47, sI IntKind.u32 a, sI IntKind.u32 o]) (mN n) l47NSc = l47NTree a o n k G := by kernel_rfl

/- l47S: 252 steps -/
noncomputable def l47SOrc (a : Int) (o : Int) (n : Int) (k : Nat) (G : Int → Int) (c : List PV) : Orc := orcS (l47SC a o n k G c) noLed [] [(8, 0, 2)] [] (l47SS a o n k G c)
def l47SSc : Sc := .fin
noncomputable def l47STree (a : Int) (o : Int) (n : Int) (k : Nat) (G : Int → Int) (c : List PV) : Tree :=
  (.need (AV.p (PV.sc (Value.int IntKind.u64 (IntKind.u64.wrap (IntKind.u64.wrap a + IntKind.u64.wrap o)))) = sI IntKind.u64 (↑k : Int))
   (.test (!decide (IntKind.u64.wrap ((↑k : Int) + 2) ≤ IntKind.u64.wrap (IntKind.u64.wrap n * 65536)))
    (.out (Out.ret (AV.tup [AV.p (PV.sc (Value.int IntKind.u32 0)), AV.p (PV.sc (Value.int IntKind.i64 220))]) [Blk.ac [AV.vm 1, AV.p (PV.sc (Value.int IntKind.u32 n)), AV.p (PV.sc (Value.int IntKind.u32 2))], Blk.ob (ObK.map [Value.int IntKind.u32 0] [0] 1) [AV.mp 2 0], Blk.pc c]))
    (.call ⟨19, [AV.mp 0 0, AV.p (PV.sc (Value.int IntKind.u64 (IntKind.u64.wrap ((↑k : Int) + 0))))], [Blk.ac [AV.vm 1, AV.p (PV.sc (Value.int IntKind.u32 n)), AV.p (PV.sc (Value.int IntKind.u32 2))], Blk.ob (ObK.map [Value.int IntKind.u32 0] [0] 1) [AV.mp 2 0], Blk.pc c], AV.p (PV.sc (Value.int IntKind.u8 (G (IntKind.u64.wrap ((↑k : Int) + 0))))), [Blk.ac [AV.vm 1, AV.p (PV.sc (Value.int IntKind.u32 n)), AV.p (PV.sc (Value.int IntKind.u32 2))], Blk.ob (ObK.map [Value.int IntKind.u32 0] [0] 1) [AV.mp 2 0], Blk.pc c]⟩
     (.call ⟨19, [AV.mp 0 0, AV.p (PV.sc (Value.int IntKind.u64 (IntKind.u64.wrap ((↑k : Int) + 1))))], [Blk.ac [AV.vm 1, AV.p (PV.sc (Value.int IntKind.u32 n)), AV.p (PV.sc (Value.int IntKind.u32 2))], Blk.ob (ObK.map [Value.int IntKind.u32 0] [0] 1) [AV.mp 2 0], Blk.pc c], AV.p (PV.sc (Value.int IntKind.u8 (G (IntKind.u64.wrap ((↑k : Int) + 1))))), [Blk.ac [AV.vm 1, AV.p (PV.sc (Value.int IntKind.u32 n)), AV.p (PV.sc (Value.int IntKind.u32 2))], Blk.ob (ObK.map [Value.int IntKind.u32 0] [0] 1) [AV.mp 2 0], Blk.pc c]⟩
      (.out (Out.ret (AV.tup [AV.p (PV.sc (Value.int IntKind.u32 (IntKind.u32.wrap (↑(BitVec.ofInt 32 (IntKind.u32.wrap (↑(BitVec.ofInt 32 0 ||| BitVec.ofInt 32 (IntKind.u32.wrap (IntKind.u32.wrap (G (IntKind.u64.wrap ((↑k : Int) + 0))) * 1))).toNat : Int)) ||| BitVec.ofInt 32 (IntKind.u32.wrap (IntKind.u32.wrap (G (IntKind.u64.wrap ((↑k : Int) + 1))) * 256))).toNat : Int)))), AV.p (PV.sc (Value.int IntKind.i64 0))]) [Blk.ac [AV.vm 1, AV.p (PV.sc (Value.int IntKind.u32 n)), AV.p (PV.sc (Value.int IntKind.u32 2))], Blk.ob (ObK.map [Value.int IntKind.u32 0] [0] 1) [AV.mp 2 0], Blk.pc c]))))))
theorem l47S_tree (a : Int) (o : Int) (n : Int) (k : Nat) (G : Int → Int) (c : List PV) : growF Try.prog env (l47SOrc a o n k G c) 1000000 8 ([AV.mp 0 0, sI IntKind.i64 47, sI IntKind.u32 a, sI IntKind.u32 o]) (mS n c) l47SSc = l47STree a o n k G c := by kernel_rfl

/- l45N: 230 steps -/
noncomputable def l45NOrc (a : Int) (o : Int) (n : Int) (k : Nat) (G : Int → Int) : Orc := orcS (l45NC a o n k G) noLed [] [(8, 0, 2)] [] (l45NS a o n k G)
def l45NSc : Sc := .fin
noncomputable def l45NTree (a : Int) (o : Int) (n : Int) (k : Nat) (G : Int → Int) : Tree :=
  (.need (AV.p (PV.sc (Value.int IntKind.u64 (IntKind.u64.wrap (IntKind.u64.wrap a + IntKind.u64.wrap o)))) = sI IntKind.u64 (↑k : Int))
   (.test (!decide (IntKind.u64.wrap ((↑k : Int) + 1) ≤ IntKind.u64.wrap (IntKind.u64.wrap n * 65536)))
    (.out (Out.ret (AV.tup [AV.p (PV.sc (Value.int IntKind.u32 0)), AV.p (PV.sc (Value.int IntKind.i64 220))]) [Blk.ac [AV.vm 1, AV.p (PV.sc (Value.int IntKind.u32 n)), AV.p (PV.sc (Value.int IntKind.u32 2))], Blk.ob (ObK.map [] [] 0) []]))
    (.call ⟨19, [AV.mp 0 0, AV.p (PV.sc (Value.int IntKind.u64 (IntKind.u64.wrap ((↑k : Int) + 0))))], [Blk.ac [AV.vm 1, AV.p (PV.sc (Value.int IntKind.u32 n)), AV.p (PV.sc (Value.int IntKind.u32 2))], Blk.ob (ObK.map [] [] 0) []], AV.p (PV.sc (Value.int IntKind.u8 (G (IntKind.u64.wrap ((↑k : Int) + 0))))), [Blk.ac [AV.vm 1, AV.p (PV.sc (Value.int IntKind.u32 n)), AV.p (PV.sc (Value.int IntKind.u32 2))], Blk.ob (ObK.map [] [] 0) []]⟩
     (.out (Out.ret (AV.tup [AV.p (PV.sc (Value.int IntKind.u32 (IntKind.u32.wrap (↑(BitVec.ofInt 32 0 ||| BitVec.ofInt 32 (IntKind.u32.wrap (IntKind.u32.wrap (G (IntKind.u64.wrap ((↑k : Int) + 0))) * 1))).toNat : Int)))), AV.p (PV.sc (Value.int IntKind.i64 0))]) [Blk.ac [AV.vm 1, AV.p (PV.sc (Value.int IntKind.u32 n)), AV.p (PV.sc (Value.int IntKind.u32 2))], Blk.ob (ObK.map [] [] 0) []])))))
theorem l45N_tree (a : Int) (o : Int) (n : Int) (k : Nat) (G : Int → Int) : growF Try.prog env (l45NOrc a o n k G) 1000000 8 ([AV.mp 0 0, sI IntKind.i64 45, sI IntKind.u32 a, sI IntKind.u32 o]) (mN n) l45NSc = l45NTree a o n k G := by kernel_rfl

/- l45S: 230 steps -/
noncomputable def l45SOrc (a : Int) (o : Int) (n : Int) (k : Nat) (G : Int → Int) (c : List PV) : Orc := orcS (l45SC a o n k G c) noLed [] [(8, 0, 2)] [] (l45SS a o n k G c)
def l45SSc : Sc := .fin
noncomputable def l45STree (a : Int) (o : Int) (n : Int) (k : Nat) (G : Int → Int) (c : List PV) : Tree :=
  (.need (AV.p (PV.sc (Value.int IntKind.u64 (IntKind.u64.wrap (IntKind.u64.wrap a + IntKind.u64.wrap o)))) = sI IntKind.u64 (↑k : Int))
   (.test (!decide (IntKind.u64.wrap ((↑k : Int) + 1) ≤ IntKind.u64.wrap (IntKind.u64.wrap n * 65536)))
    (.out (Out.ret (AV.tup [AV.p (PV.sc (Value.int IntKind.u32 0)), AV.p (PV.sc (Value.int IntKind.i64 220))]) [Blk.ac [AV.vm 1, AV.p (PV.sc (Value.int IntKind.u32 n)), AV.p (PV.sc (Value.int IntKind.u32 2))], Blk.ob (ObK.map [Value.int IntKind.u32 0] [0] 1) [AV.mp 2 0], Blk.pc c]))
    (.call ⟨19, [AV.mp 0 0, AV.p (PV.sc (Value.int IntKind.u64 (IntKind.u64.wrap ((↑k : Int) + 0))))], [Blk.ac [AV.vm 1, AV.p (PV.sc (Value.int IntKind.u32 n)), AV.p (PV.sc (Value.int IntKind.u32 2))], Blk.ob (ObK.map [Value.int IntKind.u32 0] [0] 1) [AV.mp 2 0], Blk.pc c], AV.p (PV.sc (Value.int IntKind.u8 (G (IntKind.u64.wrap ((↑k : Int) + 0))))), [Blk.ac [AV.vm 1, AV.p (PV.sc (Value.int IntKind.u32 n)), AV.p (PV.sc (Value.int IntKind.u32 2))], Blk.ob (ObK.map [Value.int IntKind.u32 0] [0] 1) [AV.mp 2 0], Blk.pc c]⟩
     (.out (Out.ret (AV.tup [AV.p (PV.sc (Value.int IntKind.u32 (IntKind.u32.wrap (↑(BitVec.ofInt 32 0 ||| BitVec.ofInt 32 (IntKind.u32.wrap (IntKind.u32.wrap (G (IntKind.u64.wrap ((↑k : Int) + 0))) * 1))).toNat : Int)))), AV.p (PV.sc (Value.int IntKind.i64 0))]) [Blk.ac [AV.vm 1, AV.p (PV.sc (Value.int IntKind.u32 n)), AV.p (PV.sc (Value.int IntKind.u32 2))], Blk.ob (ObK.map [Value.int IntKind.u32 0] [0] 1) [AV.mp 2 0], Blk.pc c])))))
theorem l45S_tree (a : Int) (o : Int) (n : Int) (k : Nat) (G : Int → Int) (c : List PV) : growF Try.prog env (l45SOrc a o n k G c) 1000000 8 ([AV.mp 0 0, sI IntKind.i64 45, sI IntKind.u32 a, sI IntKind.u32 o]) (mS n c) l45SSc = l45STree a o n k G c := by kernel_rfl

/- rN: 108 steps -/
noncomputable def rNOrc : Orc := orcL noC noLed [(10, 3)] [(10, 0, 1), (10, 0, 2)] [(10, 8, 1)]
def rNSc : Sc := .fin
noncomputable def rNTree (a : Int) (n : Int) (q : Nat) : Tree :=
  (.test (!decide (IntKind.u64.wrap (IntKind.u64.wrap a + IntKind.u64.wrap (↑q : Int)) ≤ IntKind.u64.wrap (IntKind.u64.wrap n * 65536)))
   (.out (Out.ret (AV.tup [AV.os Option.none 0 0 [], AV.p (PV.sc (Value.int IntKind.i64 220))]) [Blk.ac [AV.vm 1, AV.p (PV.sc (Value.int IntKind.u32 n)), AV.p (PV.sc (Value.int IntKind.u32 2))], Blk.ob (ObK.map [] [] 0) []]))
   (.test (decide ((↑q : Int) > 1048576))
    (.out (Out.ret (AV.tup [AV.os Option.none 0 0 [], AV.p (PV.sc (Value.int IntKind.i64 2))]) [Blk.ac [AV.vm 1, AV.p (PV.sc (Value.int IntKind.u32 n)), AV.p (PV.sc (Value.int IntKind.u32 2))], Blk.ob (ObK.map [] [] 0) []]))
    (.must (decide ((↑q : Int) ≤ (↑q : Int)) && (↑q : Int).toNat.ble lim && (1 * (↑q : Int).toNat).ble lim && true)
     (.at (bodyCfg Try.prog env 10 3 [AV.mp 0 0, AV.p (PV.sc (Value.int IntKind.u32 a)), AV.ms 2 0 (↑q : Int).toNat 1 (Option.some (↑q : Int).toNat), AV.p (PV.sc (Value.int IntKind.i64 (↑(↑q : Int).toNat : Int))), AV.p (PV.sc (Value.int IntKind.i64 0))] ([Blk.ac [AV.vm 1, AV.p (PV.sc (Value.int IntKind.u32 n)), AV.p (PV.sc (Value.int IntKind.u32 2))], Blk.ob (ObK.map [] [] 0) [], Blk.pc (List.replicate (↑q : Int).toNat (pvOf (ofCell (Value.int IntKind.u8 0))))]) 2 43)))))
theorem rN_tree (a : Int) (n : Int) (q : Nat) : growF Try.prog env rNOrc 1000000 10 ([AV.mp 0 0, sI IntKind.u32 a, sI IntKind.u32 (↑q : Int)]) (mN n) rNSc = rNTree a n q := by kernel_rfl

/- zN: 42 steps -/
noncomputable def zNOrc (a : Int) (n : Int) (q : Nat) (k : Nat) (i : Nat) (x : Int) (X : List PV) : Orc := orcS (zNC a n q k i x X) noLed [(10, 3)] [(10, 0, 4)] [(10, 12, 9), (10, 12, 10), (10, 0, 5)] (zNS a n q k i x X)
def zNSc : Sc := .fin
noncomputable def zNTree (a : Int) (n : Int) (q : Nat) (k : Nat) (i : Nat) (x : Int) (X : List PV) : Tree :=
  (.test (decide ((↑i : Int) < (↑(q + 1) : Int)))
   (.need (AV.p (PV.sc (Value.int IntKind.u64 (IntKind.u64.wrap (IntKind.u64.wrap a + IntKind.u64.wrap (↑i : Int))))) = sI IntKind.u64 (↑k : Int))
    (.call ⟨19, [AV.mp 0 0, AV.p (PV.sc (Value.int IntKind.u64 (↑k : Int)))], [Blk.ac [AV.vm 1, AV.p (PV.sc (Value.int IntKind.u32 n)), AV.p (PV.sc (Value.int IntKind.u32 2))], Blk.ob (ObK.map [] [] 0) []], AV.p (PV.sc (Value.int IntKind.u8 x)), [Blk.ac [AV.vm 1, AV.p (PV.sc (Value.int IntKind.u32 n)), AV.p (PV.sc (Value.int IntKind.u32 2))], Blk.ob (ObK.map [] [] 0) []]⟩
     (.must (inB (↑i : Int) (q + 1) && true && true)
      (.must ((0 + (↑i : Int).toNat * 1 + 1).ble X.length && true && true && true)
       (.need (AV.p (PV.sc (Value.int IntKind.i64 (IntKind.i64.wrap ((↑i : Int) + 1)))) = sI IntKind.i64 (↑(i + 1) : Int))
        (.at (bodyCfg Try.prog env 10 3 [AV.mp 0 0, AV.p (PV.sc (Value.int IntKind.u32 a)), AV.ms 2 0 (q + 1) 1 (Option.some (q + 1)), AV.p (PV.sc (Value.int IntKind.i64 (↑(q + 1) : Int))), AV.p (PV.sc (Value.int IntKind.i64 (↑(i + 1) : Int)))] ([Blk.ac [AV.vm 1, AV.p (PV.sc (Value.int IntKind.u32 n)), AV.p (PV.sc (Value.int IntKind.u32 2))], Blk.ob (ObK.map [] [] 0) [], Blk.pc (setL X (0 + (↑i : Int).toNat * 1) [PV.sc (Value.int IntKind.u8 x)])]) 2 43)))))))
   (.must ((0 + (q + 1) * 1).ble X.length && true && true && true)
    (.out (Out.ret (AV.tup [AV.p (PV.ps (q + 1) 1 (List.take ((q + 1) * 1) (List.drop 0 X))), AV.p (PV.sc (Value.int IntKind.i64 0))]) [Blk.ac [AV.vm 1, AV.p (PV.sc (Value.int IntKind.u32 n)), AV.p (PV.sc (Value.int IntKind.u32 2))], Blk.ob (ObK.map [] [] 0) []]))))
theorem zN_tree (a : Int) (n : Int) (q : Nat) (k : Nat) (i : Nat) (x : Int) (X : List PV) : grow Try.prog env (zNOrc a n q k i x X) 1000000 true (bodyCfg Try.prog env 10 3 ([AV.mp 0 0, sI IntKind.u32 a, AV.ms 2 0 (q + 1) 1 (Option.some (q + 1)), sI IntKind.i64 (↑(q + 1) : Int), sI IntKind.i64 (↑i : Int)]) (mN n ++ [Blk.pc X]) 2 43) zNSc atEnd = zNTree a n q k i x X := by kernel_rfl

/- rS: 108 steps -/
noncomputable def rSOrc : Orc := orcL noC noLed [(10, 3)] [(10, 0, 1), (10, 0, 2)] [(10, 8, 1)]
def rSSc : Sc := .fin
noncomputable def rSTree (a : Int) (n : Int) (q : Nat) (c : List PV) : Tree :=
  (.test (!decide (IntKind.u64.wrap (IntKind.u64.wrap a + IntKind.u64.wrap (↑q : Int)) ≤ IntKind.u64.wrap (IntKind.u64.wrap n * 65536)))
   (.out (Out.ret (AV.tup [AV.os Option.none 0 0 [], AV.p (PV.sc (Value.int IntKind.i64 220))]) [Blk.ac [AV.vm 1, AV.p (PV.sc (Value.int IntKind.u32 n)), AV.p (PV.sc (Value.int IntKind.u32 2))], Blk.ob (ObK.map [Value.int IntKind.u32 0] [0] 1) [AV.mp 2 0], Blk.pc c]))
   (.test (decide ((↑q : Int) > 1048576))
    (.out (Out.ret (AV.tup [AV.os Option.none 0 0 [], AV.p (PV.sc (Value.int IntKind.i64 2))]) [Blk.ac [AV.vm 1, AV.p (PV.sc (Value.int IntKind.u32 n)), AV.p (PV.sc (Value.int IntKind.u32 2))], Blk.ob (ObK.map [Value.int IntKind.u32 0] [0] 1) [AV.mp 2 0], Blk.pc c]))
    (.must (decide ((↑q : Int) ≤ (↑q : Int)) && (↑q : Int).toNat.ble lim && (1 * (↑q : Int).toNat).ble lim && true)
     (.at (bodyCfg Try.prog env 10 3 [AV.mp 0 0, AV.p (PV.sc (Value.int IntKind.u32 a)), AV.ms 3 0 (↑q : Int).toNat 1 (Option.some (↑q : Int).toNat), AV.p (PV.sc (Value.int IntKind.i64 (↑(↑q : Int).toNat : Int))), AV.p (PV.sc (Value.int IntKind.i64 0))] ([Blk.ac [AV.vm 1, AV.p (PV.sc (Value.int IntKind.u32 n)), AV.p (PV.sc (Value.int IntKind.u32 2))], Blk.ob (ObK.map [Value.int IntKind.u32 0] [0] 1) [AV.mp 2 0], Blk.pc c, Blk.pc (List.replicate (↑q : Int).toNat (pvOf (ofCell (Value.int IntKind.u8 0))))]) 3 43)))))
theorem rS_tree (a : Int) (n : Int) (q : Nat) (c : List PV) : growF Try.prog env rSOrc 1000000 10 ([AV.mp 0 0, sI IntKind.u32 a, sI IntKind.u32 (↑q : Int)]) (mS n c) rSSc = rSTree a n q c := by kernel_rfl

/- zS: 42 steps -/
noncomputable def zSOrc (a : Int) (n : Int) (q : Nat) (k : Nat) (i : Nat) (x : Int) (X : List PV) (c : List PV) : Orc := orcS (zSC a n q k i x X c) noLed [(10, 3)] [(10, 0, 4)] [(10, 12, 9), (10, 12, 10), (10, 0, 5)] (zSS a n q k i x X c)
def zSSc : Sc := .fin
noncomputable def zSTree (a : Int) (n : Int) (q : Nat) (k : Nat) (i : Nat) (x : Int) (X : List PV) (c : List PV) : Tree :=
  (.test (decide ((↑i : Int) < (↑(q + 1) : Int)))
   (.need (AV.p (PV.sc (Value.int IntKind.u64 (IntKind.u64.wrap (IntKind.u64.wrap a + IntKind.u64.wrap (↑i : Int))))) = sI IntKind.u64 (↑k : Int))
    (.call ⟨19, [AV.mp 0 0, AV.p (PV.sc (Value.int IntKind.u64 (↑k : Int)))], [Blk.ac [AV.vm 1, AV.p (PV.sc (Value.int IntKind.u32 n)), AV.p (PV.sc (Value.int IntKind.u32 2))], Blk.ob (ObK.map [Value.int IntKind.u32 0] [0] 1) [AV.mp 2 0], Blk.pc c], AV.p (PV.sc (Value.int IntKind.u8 x)), [Blk.ac [AV.vm 1, AV.p (PV.sc (Value.int IntKind.u32 n)), AV.p (PV.sc (Value.int IntKind.u32 2))], Blk.ob (ObK.map [Value.int IntKind.u32 0] [0] 1) [AV.mp 2 0], Blk.pc c]⟩
     (.must (inB (↑i : Int) (q + 1) && true && true)
      (.must ((0 + (↑i : Int).toNat * 1 + 1).ble X.length && true && true && true)
       (.need (AV.p (PV.sc (Value.int IntKind.i64 (IntKind.i64.wrap ((↑i : Int) + 1)))) = sI IntKind.i64 (↑(i + 1) : Int))
        (.at (bodyCfg Try.prog env 10 3 [AV.mp 0 0, AV.p (PV.sc (Value.int IntKind.u32 a)), AV.ms 3 0 (q + 1) 1 (Option.some (q + 1)), AV.p (PV.sc (Value.int IntKind.i64 (↑(q + 1) : Int))), AV.p (PV.sc (Value.int IntKind.i64 (↑(i + 1) : Int)))] ([Blk.ac [AV.vm 1, AV.p (PV.sc (Value.int IntKind.u32 n)), AV.p (PV.sc (Value.int IntKind.u32 2))], Blk.ob (ObK.map [Value.int IntKind.u32 0] [0] 1) [AV.mp 2 0], Blk.pc c, Blk.pc (setL X (0 + (↑i : Int).toNat * 1) [PV.sc (Value.int IntKind.u8 x)])]) 3 43)))))))
   (.must ((0 + (q + 1) * 1).ble X.length && true && true && true)
    (.out (Out.ret (AV.tup [AV.p (PV.ps (q + 1) 1 (List.take ((q + 1) * 1) (List.drop 0 X))), AV.p (PV.sc (Value.int IntKind.i64 0))]) [Blk.ac [AV.vm 1, AV.p (PV.sc (Value.int IntKind.u32 n)), AV.p (PV.sc (Value.int IntKind.u32 2))], Blk.ob (ObK.map [Value.int IntKind.u32 0] [0] 1) [AV.mp 2 0], Blk.pc c]))))
theorem zS_tree (a : Int) (n : Int) (q : Nat) (k : Nat) (i : Nat) (x : Int) (X : List PV) (c : List PV) : grow Try.prog env (zSOrc a n q k i x X c) 1000000 true (bodyCfg Try.prog env 10 3 ([AV.mp 0 0, sI IntKind.u32 a, AV.ms 3 0 (q + 1) 1 (Option.some (q + 1)), sI IntKind.i64 (↑(q + 1) : Int), sI IntKind.i64 (↑i : Int)]) (mS n c ++ [Blk.pc X]) 3 43) zSSc atEnd = zSTree a n q k i x X c := by kernel_rfl

/- pN: 46 steps -/
noncomputable def pNOrc : Orc := orcL noC noLed [] [] []
def pNSc : Sc := .fin
noncomputable def pNTree (n : Int) : Tree :=
  (.out (Out.ret (AV.p (PV.sc (Value.int IntKind.u32 n))) [Blk.ac [AV.vm 1, AV.p (PV.sc (Value.int IntKind.u32 n)), AV.p (PV.sc (Value.int IntKind.u32 2))], Blk.ob (ObK.map [] [] 0) []]))
theorem pN_tree (n : Int) : growF Try.prog env pNOrc 1000000 12 ([AV.mp 0 0]) (mN n) pNSc = pNTree n := by kernel_rfl

/- pS: 46 steps -/
noncomputable def pSOrc : Orc := orcL noC noLed [] [] []
def pSSc : Sc := .fin
noncomputable def pSTree (n : Int) (c : List PV) : Tree :=
  (.out (Out.ret (AV.p (PV.sc (Value.int IntKind.u32 n))) [Blk.ac [AV.vm 1, AV.p (PV.sc (Value.int IntKind.u32 n)), AV.p (PV.sc (Value.int IntKind.u32 2))], Blk.ob (ObK.map [Value.int IntKind.u32 0] [0] 1) [AV.mp 2 0], Blk.pc c]))
theorem pS_tree (n : Int) (c : List PV) : growF Try.prog env pSOrc 1000000 12 ([AV.mp 0 0]) (mS n c) pSSc = pSTree n c := by kernel_rfl

/- sb: 15 steps -/
noncomputable def sbOrc : Orc := orcL noC noLed [] [] [(11, 2, 1), (11, 2, 3)]
def sbSc : Sc := .fin
noncomputable def sbTree (_m : Nat) (_k : Nat) (c : List PV) (d : List PV) : Tree :=
  (.must (c.all isByte && true)
   (.must (d.all isByte && true)
    (.out (Out.ret (AV.p (PV.sc (Value.bool ((ByteArray.mk (List.map Am.byteOf c).toArray).data.toList == (ByteArray.mk (List.map Am.byteOf d).toArray).data.toList)))) []))))
theorem sb_tree (m : Nat) (k : Nat) (c : List PV) (d : List PV) : growF Try.prog env sbOrc 1000000 11 ([AV.p (PV.ps m 1 c), AV.p (PV.ps k 1 d)]) ([]) sbSc = sbTree m k c d := by kernel_rfl


theorem orB {x y : Nat} (k : Nat) (hx : x < 2 ^ k) (h : x + y * 2 ^ k < 4294967296) : IntKind.u32.wrap (((BitVec.ofInt 32 (x : Int) ||| BitVec.ofInt 32 ((y * 2 ^ k : Nat) : Int)).toNat : Nat) : Int) = ((x + y * 2 ^ k : Nat) : Int) := by
  have h1 : x < 4294967296 := by omega
  have h2 : y * 2 ^ k < 4294967296 := by omega
  have e : (BitVec.ofInt 32 (x : Int) ||| BitVec.ofInt 32 ((y * 2 ^ k : Nat) : Int)).toNat = x + y * 2 ^ k := by
    rw [BitVec.ofInt_natCast, BitVec.ofInt_natCast, BitVec.toNat_or, BitVec.toNat_ofNat, BitVec.toNat_ofNat, Nat.mod_eq_of_lt h1, Nat.mod_eq_of_lt h2]
    have := Nat.shiftLeft_add_eq_or_of_lt hx y
    rw [Nat.shiftLeft_eq] at this
    rw [Nat.or_comm, ← this, Nat.add_comm]
  rw [e, wU32]
  omega

theorem mulB {y : Nat} (hy : y < 256) (m : Nat) (hm : y * m < 4294967296) : IntKind.u32.wrap (IntKind.u32.wrap (y : Int) * (m : Int)) = ((y * m : Nat) : Int) := by
  rw [wU32 (y : Int), show ((y : Int) % 4294967296) = (y : Int) by omega, show (y : Int) * (m : Int) = ((y * m : Nat) : Int) by push_cast; rfl, wU32]
  omega

/-- What bytes tell, the lowest first. -/
def leV : List Int → Int
  | [] => 0
  | b :: r => b + 256 * leV r

theorem getNat {s : Pg} (hs : okP s) (i : Nat) : ∃ y : Nat, y < 256 ∧ getP s i = y := by
  have h := okP_get hs i
  exact ⟨(getP s i).toNat, by omega, by omega⟩

abbrev lA' (op : Int) (a o : Nat) : List AV := [.mp 0 0, sI .i64 op, sI .u32 a, sI .u32 o]

theorem val40 {s : Pg} (hs : okP s) (k : Nat) (hk : k + 4 ≤ 65536) : IntKind.u32.wrap (((BitVec.ofInt 32 (IntKind.u32.wrap (((BitVec.ofInt 32 (IntKind.u32.wrap (((BitVec.ofInt 32 (IntKind.u32.wrap (((BitVec.ofInt 32 (0) ||| BitVec.ofInt 32 (IntKind.u32.wrap (IntKind.u32.wrap (getP s (IntKind.u64.wrap ((k : Int) + 0)).toNat) * 1))).toNat : Nat) : Int)) ||| BitVec.ofInt 32 (IntKind.u32.wrap (IntKind.u32.wrap (getP s (IntKind.u64.wrap ((k : Int) + 1)).toNat) * 256))).toNat : Nat) : Int)) ||| BitVec.ofInt 32 (IntKind.u32.wrap (IntKind.u32.wrap (getP s (IntKind.u64.wrap ((k : Int) + 2)).toNat) * 65536))).toNat : Nat) : Int)) ||| BitVec.ofInt 32 (IntKind.u32.wrap (IntKind.u32.wrap (getP s (IntKind.u64.wrap ((k : Int) + 3)).toNat) * 16777216))).toNat : Nat) : Int) = leV (readP s k 4) := by
  obtain ⟨y0, q0, e0⟩ := getNat hs (k + 0)
  obtain ⟨y1, q1, e1⟩ := getNat hs (k + 1)
  obtain ⟨y2, q2, e2⟩ := getNat hs (k + 2)
  obtain ⟨y3, q3, e3⟩ := getNat hs (k + 3)
  have i0 : (IntKind.u64.wrap ((k : Int) + 0)).toNat = k + 0 := by rw [u64In (by omega) (by omega)]; omega
  have i1 : (IntKind.u64.wrap ((k : Int) + 1)).toNat = k + 1 := by rw [u64In (by omega) (by omega)]; omega
  have i2 : (IntKind.u64.wrap ((k : Int) + 2)).toNat = k + 2 := by rw [u64In (by omega) (by omega)]; omega
  have i3 : (IntKind.u64.wrap ((k : Int) + 3)).toNat = k + 3 := by rw [u64In (by omega) (by omega)]; omega
  have m0 := mulB q0 1 (by omega)
  have m1 := mulB q1 256 (by omega)
  have m2 := mulB q2 65536 (by omega)
  have m3 := mulB q3 16777216 (by omega)
  have o0 := orB (x := 0) (y := y0) 0 (by omega) (by omega)
  have o1 := orB (x := 0 + y0 * 2 ^ 0) (y := y1) 8 (by omega) (by omega)
  have o2 := orB (x := 0 + y0 * 2 ^ 0 + y1 * 2 ^ 8) (y := y2) 16 (by omega) (by omega)
  have o3 := orB (x := 0 + y0 * 2 ^ 0 + y1 * 2 ^ 8 + y2 * 2 ^ 16) (y := y3) 24 (by omega) (by omega)
  simp only [i0, i1, i2, i3, e0, e1, e2, e3]
  rw [show IntKind.u32.wrap (IntKind.u32.wrap (y0 : Int) * 1) = ((y0 * 2 ^ 0 : Nat) : Int) from m0]
  rw [show IntKind.u32.wrap (IntKind.u32.wrap (y1 : Int) * 256) = ((y1 * 2 ^ 8 : Nat) : Int) from m1]
  rw [show IntKind.u32.wrap (IntKind.u32.wrap (y2 : Int) * 65536) = ((y2 * 2 ^ 16 : Nat) : Int) from m2]
  rw [show IntKind.u32.wrap (IntKind.u32.wrap (y3 : Int) * 16777216) = ((y3 * 2 ^ 24 : Nat) : Int) from m3]
  rw [show (0 : Int) = ((0 : Nat) : Int) from rfl, o0]
  rw [o1]
  rw [o2]
  rw [o3]
  have r0 : getP s (k) = y0 := e0
  have r1 : getP s (k + 1) = y1 := e1
  have r2 : getP s (k + 1 + 1) = y2 := e2
  have r3 : getP s (k + 1 + 1 + 1) = y3 := e3
  simp only [readP, leV, r0, r1, r2, r3]
  omega

theorem load40_does {s : Pg} (hs : okP s) {a o : Nat} (ha : a + o + 4 ≤ 65536) : Does Try.prog env 8 (lA' 40 a o) (stM 1 s) (.tup [sI .u32 (leV (readP s (a + o) 4)), sI .i64 0]) (stM 1 s) := by
  have hT : ¬ ¬ IntKind.u64.wrap (((a + o : Nat) : Int) + 4) ≤ IntKind.u64.wrap (IntKind.u64.wrap 1 * 65536) := by
    rw [wU64, wU64, wU64]; omega
  have hk := u64add (a := a) (i := o) (by omega)
  have hv := val40 hs (a + o) ha
  have hg : ∀ j : Nat, j < 4 → Does Try.prog env 19 [.mp 0 0, sI .u64 (IntKind.u64.wrap (((a + o : Nat) : Int) + (j : Int)))] (stM 1 s) (sI .u8 (getP s (IntKind.u64.wrap (((a + o : Nat) : Int) + (j : Int))).toNat)) (stM 1 s) := fun j hj => by
    have e : IntKind.u64.wrap (((a + o : Nat) : Int) + (j : Int)) = ((a + o + j : Nat) : Int) := by rw [u64In (by omega) (by omega)]; rfl
    rw [e, Int.toNat_natCast]
    exact get_does hs (by omega) 1
  cases s with
  | none =>
    refine does_of_tree names (l40N_tree a o 1 (a + o) (fun z => getP none z.toNat)) ?_
    simp only [l40NTree, Tree.ok, hk]
    refine ⟨trivial, fun h => absurd (by simpa using h) hT, fun _ => ⟨hg 0 (by omega), hg 1 (by omega), hg 2 (by omega), hg 3 (by omega), ?_⟩⟩
    rw [hv]; rfl
  | some l =>
    refine does_of_tree names (l40S_tree a o 1 (a + o) (fun z => getP (some l) z.toNat) (encB l)) ?_
    simp only [l40STree, Tree.ok, hk]
    refine ⟨trivial, fun h => absurd (by simpa using h) hT, fun _ => ⟨hg 0 (by omega), hg 1 (by omega), hg 2 (by omega), hg 3 (by omega), ?_⟩⟩
    rw [hv]; rfl

theorem val47 {s : Pg} (hs : okP s) (k : Nat) (hk : k + 2 ≤ 65536) : IntKind.u32.wrap (((BitVec.ofInt 32 (IntKind.u32.wrap (((BitVec.ofInt 32 (0) ||| BitVec.ofInt 32 (IntKind.u32.wrap (IntKind.u32.wrap (getP s (IntKind.u64.wrap ((k : Int) + 0)).toNat) * 1))).toNat : Nat) : Int)) ||| BitVec.ofInt 32 (IntKind.u32.wrap (IntKind.u32.wrap (getP s (IntKind.u64.wrap ((k : Int) + 1)).toNat) * 256))).toNat : Nat) : Int) = leV (readP s k 2) := by
  obtain ⟨y0, q0, e0⟩ := getNat hs (k + 0)
  obtain ⟨y1, q1, e1⟩ := getNat hs (k + 1)
  have i0 : (IntKind.u64.wrap ((k : Int) + 0)).toNat = k + 0 := by rw [u64In (by omega) (by omega)]; omega
  have i1 : (IntKind.u64.wrap ((k : Int) + 1)).toNat = k + 1 := by rw [u64In (by omega) (by omega)]; omega
  have m0 := mulB q0 1 (by omega)
  have m1 := mulB q1 256 (by omega)
  have o0 := orB (x := 0) (y := y0) 0 (by omega) (by omega)
  have o1 := orB (x := 0 + y0 * 2 ^ 0) (y := y1) 8 (by omega) (by omega)
  simp only [i0, i1, e0, e1]
  rw [show IntKind.u32.wrap (IntKind.u32.wrap (y0 : Int) * 1) = ((y0 * 2 ^ 0 : Nat) : Int) from m0]
  rw [show IntKind.u32.wrap (IntKind.u32.wrap (y1 : Int) * 256) = ((y1 * 2 ^ 8 : Nat) : Int) from m1]
  rw [show (0 : Int) = ((0 : Nat) : Int) from rfl, o0]
  rw [o1]
  have r0 : getP s (k) = y0 := e0
  have r1 : getP s (k + 1) = y1 := e1
  simp only [readP, leV, r0, r1]
  omega

theorem load47_does {s : Pg} (hs : okP s) {a o : Nat} (ha : a + o + 2 ≤ 65536) : Does Try.prog env 8 (lA' 47 a o) (stM 1 s) (.tup [sI .u32 (leV (readP s (a + o) 2)), sI .i64 0]) (stM 1 s) := by
  have hT : ¬ ¬ IntKind.u64.wrap (((a + o : Nat) : Int) + 2) ≤ IntKind.u64.wrap (IntKind.u64.wrap 1 * 65536) := by
    rw [wU64, wU64, wU64]; omega
  have hk := u64add (a := a) (i := o) (by omega)
  have hv := val47 hs (a + o) ha
  have hg : ∀ j : Nat, j < 2 → Does Try.prog env 19 [.mp 0 0, sI .u64 (IntKind.u64.wrap (((a + o : Nat) : Int) + (j : Int)))] (stM 1 s) (sI .u8 (getP s (IntKind.u64.wrap (((a + o : Nat) : Int) + (j : Int))).toNat)) (stM 1 s) := fun j hj => by
    have e : IntKind.u64.wrap (((a + o : Nat) : Int) + (j : Int)) = ((a + o + j : Nat) : Int) := by rw [u64In (by omega) (by omega)]; rfl
    rw [e, Int.toNat_natCast]
    exact get_does hs (by omega) 1
  cases s with
  | none =>
    refine does_of_tree names (l47N_tree a o 1 (a + o) (fun z => getP none z.toNat)) ?_
    simp only [l47NTree, Tree.ok, hk]
    refine ⟨trivial, fun h => absurd (by simpa using h) hT, fun _ => ⟨hg 0 (by omega), hg 1 (by omega), ?_⟩⟩
    rw [hv]; rfl
  | some l =>
    refine does_of_tree names (l47S_tree a o 1 (a + o) (fun z => getP (some l) z.toNat) (encB l)) ?_
    simp only [l47STree, Tree.ok, hk]
    refine ⟨trivial, fun h => absurd (by simpa using h) hT, fun _ => ⟨hg 0 (by omega), hg 1 (by omega), ?_⟩⟩
    rw [hv]; rfl

theorem val45 {s : Pg} (hs : okP s) (k : Nat) (hk : k + 1 ≤ 65536) : IntKind.u32.wrap (((BitVec.ofInt 32 (0) ||| BitVec.ofInt 32 (IntKind.u32.wrap (IntKind.u32.wrap (getP s (IntKind.u64.wrap ((k : Int) + 0)).toNat) * 1))).toNat : Nat) : Int) = leV (readP s k 1) := by
  obtain ⟨y0, q0, e0⟩ := getNat hs (k + 0)
  have i0 : (IntKind.u64.wrap ((k : Int) + 0)).toNat = k + 0 := by rw [u64In (by omega) (by omega)]; omega
  have m0 := mulB q0 1 (by omega)
  have o0 := orB (x := 0) (y := y0) 0 (by omega) (by omega)
  simp only [i0, e0]
  rw [show IntKind.u32.wrap (IntKind.u32.wrap (y0 : Int) * 1) = ((y0 * 2 ^ 0 : Nat) : Int) from m0]
  rw [show (0 : Int) = ((0 : Nat) : Int) from rfl, o0]
  have r0 : getP s (k) = y0 := e0
  simp only [readP, leV, r0]
  omega

theorem load45_does {s : Pg} (hs : okP s) {a o : Nat} (ha : a + o + 1 ≤ 65536) : Does Try.prog env 8 (lA' 45 a o) (stM 1 s) (.tup [sI .u32 (leV (readP s (a + o) 1)), sI .i64 0]) (stM 1 s) := by
  have hT : ¬ ¬ IntKind.u64.wrap (((a + o : Nat) : Int) + 1) ≤ IntKind.u64.wrap (IntKind.u64.wrap 1 * 65536) := by
    rw [wU64, wU64, wU64]; omega
  have hk := u64add (a := a) (i := o) (by omega)
  have hv := val45 hs (a + o) ha
  have hg : ∀ j : Nat, j < 1 → Does Try.prog env 19 [.mp 0 0, sI .u64 (IntKind.u64.wrap (((a + o : Nat) : Int) + (j : Int)))] (stM 1 s) (sI .u8 (getP s (IntKind.u64.wrap (((a + o : Nat) : Int) + (j : Int))).toNat)) (stM 1 s) := fun j hj => by
    have e : IntKind.u64.wrap (((a + o : Nat) : Int) + (j : Int)) = ((a + o + j : Nat) : Int) := by rw [u64In (by omega) (by omega)]; rfl
    rw [e, Int.toNat_natCast]
    exact get_does hs (by omega) 1
  cases s with
  | none =>
    refine does_of_tree names (l45N_tree a o 1 (a + o) (fun z => getP none z.toNat)) ?_
    simp only [l45NTree, Tree.ok, hk]
    refine ⟨trivial, fun h => absurd (by simpa using h) hT, fun _ => ⟨hg 0 (by omega), ?_⟩⟩
    rw [hv]; rfl
  | some l =>
    refine does_of_tree names (l45S_tree a o 1 (a + o) (fun z => getP (some l) z.toNat) (encB l)) ?_
    simp only [l45STree, Tree.ok, hk]
    refine ⟨trivial, fun h => absurd (by simpa using h) hT, fun _ => ⟨hg 0 (by omega), ?_⟩⟩
    rw [hv]; rfl

theorem read_succ (s : Pg) : ∀ (i a : Nat), readP s a (i + 1) = readP s a i ++ [getP s (a + i)]
  | 0, _ => rfl
  | i + 1, a => by
    show getP s a :: readP s (a + 1) (i + 1) = getP s a :: readP s (a + 1) i ++ _
    rw [read_succ s i (a + 1), show a + 1 + i = a + (i + 1) by omega]
    rfl

theorem set_read (s : Pg) (a i m : Nat) (hm : 0 < m) : (readP s a i ++ List.replicate m 0).set i (getP s (a + i)) = readP s a (i + 1) ++ List.replicate (m - 1) 0 := by
  obtain ⟨m, rfl⟩ : ∃ k, m = k + 1 := ⟨m - 1, by omega⟩
  have h : (readP s a i).length ≤ i := by rw [readP_len]; exact Nat.le_refl i
  rw [List.set_append_right _ _ h, readP_len, Nat.sub_self, read_succ, List.append_assoc]
  rfl

theorem r_none {s : Pg} (hs : okP s) (he : s = none) {a q : Nat} (n : Int) (ha : a + (q + 1) ≤ 65536) : ∀ (r i : Nat), i + r = q + 1 → Am.Good Try.prog env (bodyCfg Try.prog env 10 3 [.mp 0 0, sI .u32 a, .ms 2 0 (q + 1) 1 (some (q + 1)), sI .i64 (q + 1 : Nat), sI .i64 i] (mN n ++ [.pc (encB (readP s a i ++ List.replicate (q + 1 - i) 0))]) 2 43)
    (.ret (.tup [.p (.ps (q + 1) 1 (encB (readP s a (q + 1)))), sI .i64 0]) (mN n)) := by
  intro r
  induction r with
  | zero =>
    intro i hr
    obtain rfl : i = q + 1 := by omega
    have hX : (encB (readP s a (q + 1) ++ List.replicate (q + 1 - (q + 1)) 0)) = encB (readP s a (q + 1)) := by rw [Nat.sub_self]; simp
    have hl : (encB (readP s a (q + 1))).length = q + 1 := by rw [encB_len, readP_len]
    refine good_of_tree names (zN_tree a n q 0 (q + 1) 0 _) ?_
    simp only [zNTree, Tree.ok, hX, hl, Nat.mul_one, List.drop_zero, List.take_of_length_le (Nat.le_of_eq hl)]
    exact ⟨fun h => absurd (of_decide_eq_true h) (Int.lt_irrefl _), fun _ => ⟨by simp, trivial⟩⟩
  | succ r ih =>
    intro i hr
    have nx := ih (i + 1) (by omega)
    have hiI : (i : Int) < ((q + 1 : Nat) : Int) := by omega
    have hg := get_does hs (i := a + i) (by omega) n
    have hlen : (encB (readP s a i ++ List.replicate (q + 1 - i) 0)).length = q + 1 := by rw [encB_len, List.length_append, readP_len, List.length_replicate]; omega
    have hset : setL (encB (readP s a i ++ List.replicate (q + 1 - i) 0)) i [.sc (.int .u8 (getP s (a + i)))] = encB (readP s a (i + 1) ++ List.replicate (q + 1 - (i + 1)) 0) := by
      show List.set _ _ _ = _
      rw [encB_set, set_read s a i (q + 1 - i) (by omega), show q + 1 - i - 1 = q + 1 - (i + 1) by omega]
    subst he
    refine good_of_tree names (zN_tree a n q (a + i) i (getP none (a + i)) _) ?_
    simp only [zNTree, Tree.ok, Int.toNat_natCast, Nat.mul_one, Nat.zero_add, hlen, inB, u64add (a := a) (i := i) (by omega), i64succ (i := i) (by omega), hset]
    exact ⟨fun _ => ⟨trivial, hg, by simp; omega, by simp; omega, trivial, nx⟩, fun h => absurd hiI (by simpa using h)⟩

theorem r_some {s : Pg} (hs : okP s) {l : List Int} (he : s = some l) {a q : Nat} (n : Int) (ha : a + (q + 1) ≤ 65536) : ∀ (r i : Nat), i + r = q + 1 → Am.Good Try.prog env (bodyCfg Try.prog env 10 3 [.mp 0 0, sI .u32 a, .ms 3 0 (q + 1) 1 (some (q + 1)), sI .i64 (q + 1 : Nat), sI .i64 i] (mS n (encB l) ++ [.pc (encB (readP s a i ++ List.replicate (q + 1 - i) 0))]) 3 43)
    (.ret (.tup [.p (.ps (q + 1) 1 (encB (readP s a (q + 1)))), sI .i64 0]) (mS n (encB l))) := by
  intro r
  induction r with
  | zero =>
    intro i hr
    obtain rfl : i = q + 1 := by omega
    have hX : (encB (readP s a (q + 1) ++ List.replicate (q + 1 - (q + 1)) 0)) = encB (readP s a (q + 1)) := by rw [Nat.sub_self]; simp
    have hl : (encB (readP s a (q + 1))).length = q + 1 := by rw [encB_len, readP_len]
    refine good_of_tree names (zS_tree a n q 0 (q + 1) 0 _ (encB l)) ?_
    simp only [zSTree, Tree.ok, hX, hl, Nat.mul_one, List.drop_zero, List.take_of_length_le (Nat.le_of_eq hl)]
    exact ⟨fun h => absurd (of_decide_eq_true h) (Int.lt_irrefl _), fun _ => ⟨by simp, trivial⟩⟩
  | succ r ih =>
    intro i hr
    have nx := ih (i + 1) (by omega)
    have hiI : (i : Int) < ((q + 1 : Nat) : Int) := by omega
    have hg := get_does hs (i := a + i) (by omega) n
    have hlen : (encB (readP s a i ++ List.replicate (q + 1 - i) 0)).length = q + 1 := by rw [encB_len, List.length_append, readP_len, List.length_replicate]; omega
    have hset : setL (encB (readP s a i ++ List.replicate (q + 1 - i) 0)) i [.sc (.int .u8 (getP s (a + i)))] = encB (readP s a (i + 1) ++ List.replicate (q + 1 - (i + 1)) 0) := by
      show List.set _ _ _ = _
      rw [encB_set, set_read s a i (q + 1 - i) (by omega), show q + 1 - i - 1 = q + 1 - (i + 1) by omega]
    subst he
    refine good_of_tree names (zS_tree a n q (a + i) i (getP (some l) (a + i)) _ (encB l)) ?_
    simp only [zSTree, Tree.ok, Int.toNat_natCast, Nat.mul_one, Nat.zero_add, hlen, inB, u64add (a := a) (i := i) (by omega), i64succ (i := i) (by omega), hset]
    exact ⟨fun _ => ⟨trivial, hg, by simp; omega, by simp; omega, trivial, nx⟩, fun h => absurd hiI (by simpa using h)⟩

theorem read_does {s : Pg} (hs : okP s) {a q : Nat} (n : Int) (hn : n = 1 ∨ n = 2) (h0 : 0 < q) (ha : a + q ≤ 65536) : Does Try.prog env 10 [.mp 0 0, sI .u32 a, sI .u32 q] (stM n s) (.tup [.p (.ps q 1 (encB (readP s a q))), sI .i64 0]) (stM n s) := by
  obtain ⟨q, rfl⟩ : ∃ k, q = k + 1 := ⟨q - 1, by omega⟩
  have hT : ¬ ¬ IntKind.u64.wrap (IntKind.u64.wrap (a : Int) + IntKind.u64.wrap ((q + 1 : Nat) : Int)) ≤ IntKind.u64.wrap (IntKind.u64.wrap n * 65536) := by
    rw [u64add (by omega), wU64, wU64]; omega
  have hM : ¬ ((q + 1 : Nat) : Int) > 1048576 := by omega
  have hlim : lim = 70368744177664 := rfl
  have hrep : List.replicate (q + 1) (pvOf (ofCell (Value.int IntKind.u8 0))) = encB (readP s a 0 ++ List.replicate (q + 1 - 0) 0) := by
    show List.replicate (q + 1) (PV.sc (.int .u8 0)) = encB (List.replicate (q + 1) 0)
    rw [encB, List.map_replicate]
  cases hq : s with
  | none =>
    have nx := r_none hs hq (a := a) (q := q) n ha (q + 1) 0 (by omega)
    subst hq
    refine does_of_tree names (rN_tree a n (q + 1)) ?_
    simp only [rNTree, Tree.ok, Int.toNat_natCast, hrep]
    exact ⟨fun h => absurd (by simpa using h) hT, fun _ => ⟨fun h => absurd (of_decide_eq_true h) hM, fun _ => ⟨by simp [hlim]; omega, nx⟩⟩⟩
  | some l =>
    have nx := r_some hs hq (a := a) (q := q) n ha (q + 1) 0 (by omega)
    subst hq
    refine does_of_tree names (rS_tree a n (q + 1) (encB l)) ?_
    simp only [rSTree, Tree.ok, Int.toNat_natCast, hrep]
    exact ⟨fun h => absurd (by simpa using h) hT, fun _ => ⟨fun h => absurd (of_decide_eq_true h) hM, fun _ => ⟨by simp [hlim]; omega, nx⟩⟩⟩

theorem pages_does (s : Pg) (n : Int) : Does Try.prog env 12 [.mp 0 0] (stM n s) (sI .u32 n) (stM n s) := by
  cases s with
  | none => exact does_of_tree names (pN_tree n) rfl
  | some l => exact does_of_tree names (pS_tree n (encB l)) rfl

theorem encB_isByte (l : List Int) : (encB l).all isByte = true := List.all_eq_true.2 fun x hx => by
  obtain ⟨b, _, rfl⟩ := List.mem_map.1 hx; rfl

theorem same_does (m k : Nat) (l : List Int) : Does Try.prog env 11 [.p (.ps m 1 (encB l)), .p (.ps k 1 (encB l))] [] (sB true) [] := by
  refine does_of_tree names (sb_tree m k (encB l) (encB l)) ?_
  simp only [sbTree, Tree.ok, encB_isByte, beq_self_eq_true]
  exact ⟨rfl, rfl, trivial⟩

end Go.Proofs.Ytiacpconafalhaa.N
