/-
  Bytes, and words, that are laid in such a memory.
-/
import Derived.Test.YtiacpconafalhaaMkB
set_option linter.unusedVariables false
set_option linter.unusedSimpArgs false
namespace Go.Proofs.Ytiacpconafalhaa.N
open Go Go.Am

abbrev aB (b : List Int) : AV := .p (.ps b.length 1 (encB b))
def wA (a : Int) (b : List Int) : List AV := [.mp 0 0, sI .u32 a, aB b]
def w1A (a : Int) (b : List Int) (n : Int) := wA a b
def w1M (_a : Int) (_b : List Int) (n : Int) : Mem := mN n
def w2A (a : Int) (b : List Int) (n : Int) (c : List PV) := wA a b
def w2M (_a : Int) (_b : List Int) (n : Int) (c : List PV) : Mem := mS n c
def wL (a : Int) (b : List Int) (i : Nat) : List AV := [.mp 0 0, sI .u32 a, aB b, sI .i64 b.length, sI .i64 i]
def wS (k i : Nat) (x : Int) : FuncId → Nat → Nat → Option (AV → AV) := shapeAt [(6, 8, 2, sI .u8 x), (6, 9, 5, sI .u64 k), (6, 10, 0, sI .i64 (i + 1 : Nat))]
def x1A (a : Int) (b : List Int) (i k : Nat) (x n : Int) := wL a b i
def x1S (a : Int) (b : List Int) (i k : Nat) (x n : Int) := wS k i x
def x1M (_a : Int) (_b : List Int) (_i _k : Nat) (_x n : Int) : Mem := mN n
def x1C (_a : Int) (_b : List Int) (_i _k : Nat) (_x n : Int) (f : FuncId) (_ : List AV) (_m : Mem) : Option (AV × Mem) := cond (Nat.beq f 17) (some (.tup [], mN n)) none
def x2A (a : Int) (b : List Int) (i k : Nat) (x n : Int) (c : List PV) := wL a b i
def x2S (a : Int) (b : List Int) (i k : Nat) (x n : Int) (c : List PV) := wS k i x
def x2M (_a : Int) (_b : List Int) (_i _k : Nat) (_x n : Int) (_c : List PV) : Mem := mN n
def x2C (_a : Int) (_b : List Int) (_i _k : Nat) (_x n : Int) (c : List PV) (f : FuncId) (_ : List AV) (_m : Mem) : Option (AV × Mem) := cond (Nat.beq f 17) (some (.tup [], mS n c)) none
def x3A (a : Int) (b : List Int) (i k : Nat) (x n : Int) (c d : List PV) := wL a b i
def x3S (a : Int) (b : List Int) (i k : Nat) (x n : Int) (c d : List PV) := wS k i x
def x3M (_a : Int) (_b : List Int) (_i _k : Nat) (_x n : Int) (c _d : List PV) : Mem := mS n c
def x3C (_a : Int) (_b : List Int) (_i _k : Nat) (_x n : Int) (_c d : List PV) (f : FuncId) (_ : List AV) (_m : Mem) : Option (AV × Mem) := cond (Nat.beq f 17) (some (.tup [], mS n d)) none
def tS (k : Nat) : FuncId → Nat → Nat → Option (AV → AV) := shapeAt [(7, 3, 4, sI .u64 k)]
def t54NA (a o v _n : Int) (_k : Nat) : List AV := [.mp 0 0, sI .i64 54, sI .u32 a, sI .u32 o, sI .u32 v]
def t54NS (a o v n : Int) (k : Nat) := tS k
def t54NM (_a _o _v n : Int) (_k : Nat) : Mem := mN n
def t54SA (a o v _n : Int) (_k : Nat) (_c : List PV) : List AV := [.mp 0 0, sI .i64 54, sI .u32 a, sI .u32 o, sI .u32 v]
def t54SS (a o v n : Int) (k : Nat) (c : List PV) := tS k
def t54SM (_a _o _v n : Int) (_k : Nat) (c : List PV) : Mem := mS n c
def t59NA (a o v _n : Int) (_k : Nat) : List AV := [.mp 0 0, sI .i64 59, sI .u32 a, sI .u32 o, sI .u32 v]
def t59NS (a o v n : Int) (k : Nat) := tS k
def t59NM (_a _o _v n : Int) (_k : Nat) : Mem := mN n
def t59SA (a o v _n : Int) (_k : Nat) (_c : List PV) : List AV := [.mp 0 0, sI .i64 59, sI .u32 a, sI .u32 o, sI .u32 v]
def t59SS (a o v n : Int) (k : Nat) (c : List PV) := tS k
def t59SM (_a _o _v n : Int) (_k : Nat) (c : List PV) : Mem := mS n c
def t58NA (a o v _n : Int) (_k : Nat) : List AV := [.mp 0 0, sI .i64 58, sI .u32 a, sI .u32 o, sI .u32 v]
def t58NS (a o v n : Int) (k : Nat) := tS k
def t58NM (_a _o _v n : Int) (_k : Nat) : Mem := mN n
def t58SA (a o v _n : Int) (_k : Nat) (_c : List PV) : List AV := [.mp 0 0, sI .i64 58, sI .u32 a, sI .u32 o, sI .u32 v]
def t58SS (a o v n : Int) (k : Nat) (c : List PV) := tS k
def t58SM (_a _o _v n : Int) (_k : Nat) (c : List PV) : Mem := mS n c
def yL (v w : Int) (k i : Nat) : List AV := [.mp 0 0, sI .u32 v, sI .u64 k, sI .u64 w, sI .u64 i]
def yS (k i : Nat) (x : Int) : FuncId → Nat → Nat → Option (AV → AV) := shapeAt [(7, 13, 3, sI .u64 (k + i : Nat)), (7, 13, 8, sI .u8 x), (7, 14, 0, sI .u64 (i + 1 : Nat))]
def y1A (v w : Int) (k i : Nat) (x n : Int) := yL v w k i
def y1S (v w : Int) (k i : Nat) (x n : Int) := yS k i x
def y1M (_v _w : Int) (_k _i : Nat) (_x n : Int) : Mem := mN n
def y1C (_v _w : Int) (_k _i : Nat) (_x n : Int) (f : FuncId) (_ : List AV) (_m : Mem) : Option (AV × Mem) := cond (Nat.beq f 17) (some (.tup [], mN n)) none
def y2A (v w : Int) (k i : Nat) (x n : Int) (c : List PV) := yL v w k i
def y2S (v w : Int) (k i : Nat) (x n : Int) (c : List PV) := yS k i x
def y2M (_v _w : Int) (_k _i : Nat) (_x n : Int) (_c : List PV) : Mem := mN n
def y2C (_v _w : Int) (_k _i : Nat) (_x n : Int) (c : List PV) (f : FuncId) (_ : List AV) (_m : Mem) : Option (AV × Mem) := cond (Nat.beq f 17) (some (.tup [], mS n c)) none
def y3A (v w : Int) (k i : Nat) (x n : Int) (c d : List PV) := yL v w k i
def y3S (v w : Int) (k i : Nat) (x n : Int) (c d : List PV) := yS k i x
def y3M (_v _w : Int) (_k _i : Nat) (_x n : Int) (c _d : List PV) : Mem := mS n c
def y3C (_v _w : Int) (_k _i : Nat) (_x n : Int) (_c d : List PV) (f : FuncId) (_ : List AV) (_m : Mem) : Option (AV × Mem) := cond (Nat.beq f 17) (some (.tup [], mS n d)) none
def lS (k : Nat) : FuncId → Nat → Nat → Option (AV → AV) := shapeAt [(8, 3, 4, sI .u64 k)]
def lC (G : Int → Int) (f : FuncId) (args : List AV) (m : Mem) : Option (AV × Mem) := cond (Nat.beq f 19) (match args with
  | [_, .p (.sc (.int _ k))] => some (sI .u8 (G k), m)
  | _ => none) none
def l40NA (a o _n : Int) (_k : Nat) (_G : Int → Int) : List AV := [.mp 0 0, sI .i64 40, sI .u32 a, sI .u32 o]
def l40NS (a o n : Int) (k : Nat) (G : Int → Int) := lS k
def l40NM (_a _o n : Int) (_k : Nat) (_G : Int → Int) : Mem := mN n
def l40NC (a o n : Int) (k : Nat) (G : Int → Int) := lC G
def l40SA (a o _n : Int) (_k : Nat) (_G : Int → Int) (_c : List PV) : List AV := [.mp 0 0, sI .i64 40, sI .u32 a, sI .u32 o]
def l40SS (a o n : Int) (k : Nat) (G : Int → Int) (c : List PV) := lS k
def l40SM (_a _o n : Int) (_k : Nat) (_G : Int → Int) (c : List PV) : Mem := mS n c
def l40SC (a o n : Int) (k : Nat) (G : Int → Int) (c : List PV) := lC G
def l47NA (a o _n : Int) (_k : Nat) (_G : Int → Int) : List AV := [.mp 0 0, sI .i64 47, sI .u32 a, sI .u32 o]
def l47NS (a o n : Int) (k : Nat) (G : Int → Int) := lS k
def l47NM (_a _o n : Int) (_k : Nat) (_G : Int → Int) : Mem := mN n
def l47NC (a o n : Int) (k : Nat) (G : Int → Int) := lC G
def l47SA (a o _n : Int) (_k : Nat) (_G : Int → Int) (_c : List PV) : List AV := [.mp 0 0, sI .i64 47, sI .u32 a, sI .u32 o]
def l47SS (a o n : Int) (k : Nat) (G : Int → Int) (c : List PV) := lS k
def l47SM (_a _o n : Int) (_k : Nat) (_G : Int → Int) (c : List PV) : Mem := mS n c
def l47SC (a o n : Int) (k : Nat) (G : Int → Int) (c : List PV) := lC G
def l45NA (a o _n : Int) (_k : Nat) (_G : Int → Int) : List AV := [.mp 0 0, sI .i64 45, sI .u32 a, sI .u32 o]
def l45NS (a o n : Int) (k : Nat) (G : Int → Int) := lS k
def l45NM (_a _o n : Int) (_k : Nat) (_G : Int → Int) : Mem := mN n
def l45NC (a o n : Int) (k : Nat) (G : Int → Int) := lC G
def l45SA (a o _n : Int) (_k : Nat) (_G : Int → Int) (_c : List PV) : List AV := [.mp 0 0, sI .i64 45, sI .u32 a, sI .u32 o]
def l45SS (a o n : Int) (k : Nat) (G : Int → Int) (c : List PV) := lS k
def l45SM (_a _o n : Int) (_k : Nat) (_G : Int → Int) (c : List PV) : Mem := mS n c
def l45SC (a o n : Int) (k : Nat) (G : Int → Int) (c : List PV) := lC G

/- w1: 87 steps -/
noncomputable def w1Orc : Orc := orcL noC noLed [(6, 2)] [(6, 0, 1)] []
def w1Sc : Sc := .fin
noncomputable def w1Tree (a : Int) (b : List Int) (n : Int) : Tree :=
  (.test (!decide (IntKind.u64.wrap (IntKind.u64.wrap a + IntKind.u64.wrap (↑b.length : Int)) ≤ IntKind.u64.wrap (IntKind.u64.wrap n * 65536)))
   (.out (Out.ret (AV.p (PV.sc (Value.int IntKind.i64 220))) [Blk.ac [AV.vm 1, AV.p (PV.sc (Value.int IntKind.u32 n)), AV.p (PV.sc (Value.int IntKind.u32 2))], Blk.ob (ObK.map [] [] 0) []]))
   (.at (bodyCfg Try.prog env 6 2 [AV.mp 0 0, AV.p (PV.sc (Value.int IntKind.u32 a)), AV.p (PV.ps b.length 1 (encB b)), AV.p (PV.sc (Value.int IntKind.i64 (↑b.length : Int))), AV.p (PV.sc (Value.int IntKind.i64 0))] ([Blk.ac [AV.vm 1, AV.p (PV.sc (Value.int IntKind.u32 n)), AV.p (PV.sc (Value.int IntKind.u32 2))], Blk.ob (ObK.map [] [] 0) []]) 2 37)))
theorem w1_tree (a : Int) (b : List Int) (n : Int) : growF Try.prog env w1Orc 1000000 6 (wA a b) (mN n) w1Sc = w1Tree a b n := by kernel_rfl

/- w2: 87 steps -/
noncomputable def w2Orc : Orc := orcL noC noLed [(6, 2)] [(6, 0, 1)] []
def w2Sc : Sc := .fin
noncomputable def w2Tree (a : Int) (b : List Int) (n : Int) (c : List PV) : Tree :=
  (.test (!decide (IntKind.u64.wrap (IntKind.u64.wrap a + IntKind.u64.wrap (↑b.length : Int)) ≤ IntKind.u64.wrap (IntKind.u64.wrap n * 65536)))
   (.out (Out.ret (AV.p (PV.sc (Value.int IntKind.i64 220))) [Blk.ac [AV.vm 1, AV.p (PV.sc (Value.int IntKind.u32 n)), AV.p (PV.sc (Value.int IntKind.u32 2))], Blk.ob (ObK.map [Value.int IntKind.u32 0] [0] 1) [AV.mp 2 0], Blk.pc c]))
   (.at (bodyCfg Try.prog env 6 2 [AV.mp 0 0, AV.p (PV.sc (Value.int IntKind.u32 a)), AV.p (PV.ps b.length 1 (encB b)), AV.p (PV.sc (Value.int IntKind.i64 (↑b.length : Int))), AV.p (PV.sc (Value.int IntKind.i64 0))] ([Blk.ac [AV.vm 1, AV.p (PV.sc (Value.int IntKind.u32 n)), AV.p (PV.sc (Value.int IntKind.u32 2))], Blk.ob (ObK.map [Value.int IntKind.u32 0] [0] 1) [AV.mp 2 0], Blk.pc c]) 3 37)))
theorem w2_tree (a : Int) (b : List Int) (n : Int) (c : List PV) : growF Try.prog env w2Orc 1000000 6 (wA a b) (mS n c) w2Sc = w2Tree a b n c := by kernel_rfl

/- x1: 40 steps -/
noncomputable def x1Orc (a : Int) (b : List Int) (i : Nat) (k : Nat) (x : Int) (n : Int) : Orc := orcS (x1C a b i k x n) noLed [(6, 2)] [(6, 0, 3)] [(6, 8, 1), (6, 8, 2)] (x1S a b i k x n)
def x1Sc : Sc := .fin
noncomputable def x1Tree (a : Int) (b : List Int) (i : Nat) (k : Nat) (x : Int) (n : Int) : Tree :=
  (.test (decide ((↑i : Int) < (↑b.length : Int)))
   (.must (inB (↑i : Int) b.length && true && true)
    (.must (isInt IntKind.u8 ((encB b).getD ((↑i : Int).toNat * 1) PV.bad) && true)
     (.need (AV.p (PV.sc (Value.int IntKind.u8 (pvInt ((encB b).getD ((↑i : Int).toNat * 1) PV.bad)))) = sI IntKind.u8 x)
      (.need (AV.p (PV.sc (Value.int IntKind.u64 (IntKind.u64.wrap (IntKind.u64.wrap a + IntKind.u64.wrap (↑i : Int))))) = sI IntKind.u64 (↑k : Int))
       (.call ⟨17, [AV.mp 0 0, AV.p (PV.sc (Value.int IntKind.u64 (↑k : Int))), AV.p (PV.sc (Value.int IntKind.u8 x))], [Blk.ac [AV.vm 1, AV.p (PV.sc (Value.int IntKind.u32 n)), AV.p (PV.sc (Value.int IntKind.u32 2))], Blk.ob (ObK.map [] [] 0) []], AV.tup [], [Blk.ac [AV.vm 1, AV.p (PV.sc (Value.int IntKind.u32 n)), AV.p (PV.sc (Value.int IntKind.u32 2))], Blk.ob (ObK.map [] [] 0) []]⟩
        (.need (AV.p (PV.sc (Value.int IntKind.i64 (IntKind.i64.wrap ((↑i : Int) + 1)))) = sI IntKind.i64 (↑(i + 1) : Int))
         (.at (bodyCfg Try.prog env 6 2 [AV.mp 0 0, AV.p (PV.sc (Value.int IntKind.u32 a)), AV.p (PV.ps b.length 1 (encB b)), AV.p (PV.sc (Value.int IntKind.i64 (↑b.length : Int))), AV.p (PV.sc (Value.int IntKind.i64 (↑(i + 1) : Int)))] ([Blk.ac [AV.vm 1, AV.p (PV.sc (Value.int IntKind.u32 n)), AV.p (PV.sc (Value.int IntKind.u32 2))], Blk.ob (ObK.map [] [] 0) []]) 2 37))))))))
   (.out (Out.ret (AV.p (PV.sc (Value.int IntKind.i64 0))) [Blk.ac [AV.vm 1, AV.p (PV.sc (Value.int IntKind.u32 n)), AV.p (PV.sc (Value.int IntKind.u32 2))], Blk.ob (ObK.map [] [] 0) []])))
theorem x1_tree (a : Int) (b : List Int) (i : Nat) (k : Nat) (x : Int) (n : Int) : grow Try.prog env (x1Orc a b i k x n) 1000000 true (bodyCfg Try.prog env 6 2 (wL a b i) (mN n) 2 37) x1Sc atEnd = x1Tree a b i k x n := by kernel_rfl

/- x2: 40 steps -/
noncomputable def x2Orc (a : Int) (b : List Int) (i : Nat) (k : Nat) (x : Int) (n : Int) (c : List PV) : Orc := orcS (x2C a b i k x n c) noLed [(6, 2)] [(6, 0, 3)] [(6, 8, 1), (6, 8, 2)] (x2S a b i k x n c)
def x2Sc : Sc := .fin
noncomputable def x2Tree (a : Int) (b : List Int) (i : Nat) (k : Nat) (x : Int) (n : Int) (c : List PV) : Tree :=
  (.test (decide ((↑i : Int) < (↑b.length : Int)))
   (.must (inB (↑i : Int) b.length && true && true)
    (.must (isInt IntKind.u8 ((encB b).getD ((↑i : Int).toNat * 1) PV.bad) && true)
     (.need (AV.p (PV.sc (Value.int IntKind.u8 (pvInt ((encB b).getD ((↑i : Int).toNat * 1) PV.bad)))) = sI IntKind.u8 x)
      (.need (AV.p (PV.sc (Value.int IntKind.u64 (IntKind.u64.wrap (IntKind.u64.wrap a + IntKind.u64.wrap (↑i : Int))))) = sI IntKind.u64 (↑k : Int))
       (.call ⟨17, [AV.mp 0 0, AV.p (PV.sc (Value.int IntKind.u64 (↑k : Int))), AV.p (PV.sc (Value.int IntKind.u8 x))], [Blk.ac [AV.vm 1, AV.p (PV.sc (Value.int IntKind.u32 n)), AV.p (PV.sc (Value.int IntKind.u32 2))], Blk.ob (ObK.map [] [] 0) []], AV.tup [], [Blk.ac [AV.vm 1, AV.p (PV.sc (Value.int IntKind.u32 n)), AV.p (PV.sc (Value.int IntKind.u32 2))], Blk.ob (ObK.map [Value.int IntKind.u32 0] [0] 1) [AV.mp 2 0], Blk.pc c]⟩
        (.need (AV.p (PV.sc (Value.int IntKind.i64 (IntKind.i64.wrap ((↑i : Int) + 1)))) = sI IntKind.i64 (↑(i + 1) : Int))
         (.at (bodyCfg Try.prog env 6 2 [AV.mp 0 0, AV.p (PV.sc (Value.int IntKind.u32 a)), AV.p (PV.ps b.length 1 (encB b)), AV.p (PV.sc (Value.int IntKind.i64 (↑b.length : Int))), AV.p (PV.sc (Value.int IntKind.i64 (↑(i + 1) : Int)))] ([Blk.ac [AV.vm 1, AV.p (PV.sc (Value.int IntKind.u32 n)), AV.p (PV.sc (Value.int IntKind.u32 2))], Blk.ob (ObK.map [Value.int IntKind.u32 0] [0] 1) [AV.mp 2 0], Blk.pc c]) 2 37))))))))
   (.out (Out.ret (AV.p (PV.sc (Value.int IntKind.i64 0))) [Blk.ac [AV.vm 1, AV.p (PV.sc (Value.int IntKind.u32 n)), AV.p (PV.sc (Value.int IntKind.u32 2))], Blk.ob (ObK.map [] [] 0) []])))
theorem x2_tree (a : Int) (b : List Int) (i : Nat) (k : Nat) (x : Int) (n : Int) (c : List PV) : grow Try.prog env (x2Orc a b i k x n c) 1000000 true (bodyCfg Try.prog env 6 2 (wL a b i) (mN n) 2 37) x2Sc atEnd = x2Tree a b i k x n c := by kernel_rfl

/- x3: 40 steps -/
noncomputable def x3Orc (a : Int) (b : List Int) (i : Nat) (k : Nat) (x : Int) (n : Int) (c : List PV) (d : List PV) : Orc := orcS (x3C a b i k x n c d) noLed [(6, 2)] [(6, 0, 3)] [(6, 8, 1), (6, 8, 2)] (x3S a b i k x n c d)
def x3Sc : Sc := .fin
noncomputable def x3Tree (a : Int) (b : List Int) (i : Nat) (k : Nat) (x : Int) (n : Int) (c : List PV) (d : List PV) : Tree :=
  (.test (decide ((↑i : Int) < (↑b.length : Int)))
   (.must (inB (↑i : Int) b.length && true && true)
    (.must (isInt IntKind.u8 ((encB b).getD ((↑i : Int).toNat * 1) PV.bad) && true)
     (.need (AV.p (PV.sc (Value.int IntKind.u8 (pvInt ((encB b).getD ((↑i : Int).toNat * 1) PV.bad)))) = sI IntKind.u8 x)
      (.need (AV.p (PV.sc (Value.int IntKind.u64 (IntKind.u64.wrap (IntKind.u64.wrap a + IntKind.u64.wrap (↑i : Int))))) = sI IntKind.u64 (↑k : Int))
       (.call ⟨17, [AV.mp 0 0, AV.p (PV.sc (Value.int IntKind.u64 (↑k : Int))), AV.p (PV.sc (Value.int IntKind.u8 x))], [Blk.ac [AV.vm 1, AV.p (PV.sc (Value.int IntKind.u32 n)), AV.p (PV.sc (Value.int IntKind.u32 2))], Blk.ob (ObK.map [Value.int IntKind.u32 0] [0] 1) [AV.mp 2 0], Blk.pc c], AV.tup [], [Blk.ac [AV.vm 1, AV.p (PV.sc (Value.int IntKind.u32 n)), AV.p (PV.sc (Value.int IntKind.u32 2))], Blk.ob (ObK.map [Value.int IntKind.u32 0] [0] 1) [AV.mp 2 0], Blk.pc d]⟩
        (.need (AV.p (PV.sc (Value.int IntKind.i64 (IntKind.i64.wrap ((↑i : Int) + 1)))) = sI IntKind.i64 (↑(i + 1) : Int))
         (.at (bodyCfg Try.prog env 6 2 [AV.mp 0 0, AV.p (PV.sc (Value.int IntKind.u32 a)), AV.p (PV.ps b.length 1 (encB b)), AV.p (PV.sc (Value.int IntKind.i64 (↑b.length : Int))), AV.p (PV.sc (Value.int IntKind.i64 (↑(i + 1) : Int)))] ([Blk.ac [AV.vm 1, AV.p (PV.sc (Value.int IntKind.u32 n)), AV.p (PV.sc (Value.int IntKind.u32 2))], Blk.ob (ObK.map [Value.int IntKind.u32 0] [0] 1) [AV.mp 2 0], Blk.pc d]) 3 37))))))))
   (.out (Out.ret (AV.p (PV.sc (Value.int IntKind.i64 0))) [Blk.ac [AV.vm 1, AV.p (PV.sc (Value.int IntKind.u32 n)), AV.p (PV.sc (Value.int IntKind.u32 2))], Blk.ob (ObK.map [Value.int IntKind.u32 0] [0] 1) [AV.mp 2 0], Blk.pc c])))
theorem x3_tree (a : Int) (b : List Int) (i : Nat) (k : Nat) (x : Int) (n : Int) (c : List PV) (d : List PV) : grow Try.prog env (x3Orc a b i k x n c d) 1000000 true (bodyCfg Try.prog env 6 2 (wL a b i) (mS n c) 3 37) x3Sc atEnd = x3Tree a b i k x n c d := by kernel_rfl

/- x4: 40 steps -/
noncomputable def x4Orc (a : Int) (b : List Int) (i : Nat) (k : Nat) (x : Int) (n : Int) (c : List PV) (d : List PV) : Orc := orcS (x3C a b i k x n c d) noLed [(6, 2)] [(6, 0, 3)] [(6, 8, 1), (6, 8, 2)] (x3S a b i k x n c d)
def x4Sc : Sc := .fin
noncomputable def x4Tree (a : Int) (b : List Int) (i : Nat) (k : Nat) (x : Int) (n : Int) (c : List PV) (d : List PV) : Tree :=
  (.test (decide ((↑i : Int) < (↑b.length : Int)))
   (.must (inB (↑i : Int) b.length && true && true)
    (.must (isInt IntKind.u8 ((encB b).getD ((↑i : Int).toNat * 1) PV.bad) && true)
     (.need (AV.p (PV.sc (Value.int IntKind.u8 (pvInt ((encB b).getD ((↑i : Int).toNat * 1) PV.bad)))) = sI IntKind.u8 x)
      (.need (AV.p (PV.sc (Value.int IntKind.u64 (IntKind.u64.wrap (IntKind.u64.wrap a + IntKind.u64.wrap (↑i : Int))))) = sI IntKind.u64 (↑k : Int))
       (.call ⟨17, [AV.mp 0 0, AV.p (PV.sc (Value.int IntKind.u64 (↑k : Int))), AV.p (PV.sc (Value.int IntKind.u8 x))], [Blk.ac [AV.vm 1, AV.p (PV.sc (Value.int IntKind.u32 n)), AV.p (PV.sc (Value.int IntKind.u32 2))], Blk.ob (ObK.map [Value.int IntKind.u32 0] [0] 1) [AV.mp 2 0], Blk.pc c], AV.tup [], [Blk.ac [AV.vm 1, AV.p (PV.sc (Value.int IntKind.u32 n)), AV.p (PV.sc (Value.int IntKind.u32 2))], Blk.ob (ObK.map [Value.int IntKind.u32 0] [0] 1) [AV.mp 2 0], Blk.pc d]⟩
        (.need (AV.p (PV.sc (Value.int IntKind.i64 (IntKind.i64.wrap ((↑i : Int) + 1)))) = sI IntKind.i64 (↑(i + 1) : Int))
         (.at (bodyCfg Try.prog env 6 2 [AV.mp 0 0, AV.p (PV.sc (Value.int IntKind.u32 a)), AV.p (PV.ps b.length 1 (encB b)), AV.p (PV.sc (Value.int IntKind.i64 (↑b.length : Int))), AV.p (PV.sc (Value.int IntKind.i64 (↑(i + 1) : Int)))] ([Blk.ac [AV.vm 1, AV.p (PV.sc (Value.int IntKind.u32 n)), AV.p (PV.sc (Value.int IntKind.u32 2))], Blk.ob (ObK.map [Value.int IntKind.u32 0] [0] 1) [AV.mp 2 0], Blk.pc d]) 2 37))))))))
   (.out (Out.ret (AV.p (PV.sc (Value.int IntKind.i64 0))) [Blk.ac [AV.vm 1, AV.p (PV.sc (Value.int IntKind.u32 n)), AV.p (PV.sc (Value.int IntKind.u32 2))], Blk.ob (ObK.map [Value.int IntKind.u32 0] [0] 1) [AV.mp 2 0], Blk.pc c])))
theorem x4_tree (a : Int) (b : List Int) (i : Nat) (k : Nat) (x : Int) (n : Int) (c : List PV) (d : List PV) : grow Try.prog env (x4Orc a b i k x n c d) 1000000 true (bodyCfg Try.prog env 6 2 (wL a b i) (mS n c) 2 37) x4Sc atEnd = x4Tree a b i k x n c d := by kernel_rfl

/- t54N: 163 steps -/
noncomputable def t54NOrc (a : Int) (o : Int) (v : Int) (n : Int) (k : Nat) : Orc := orcS noC noLed [(7, 3)] [(7, 0, 2)] [] (t54NS a o v n k)
def t54NSc : Sc := .fin
noncomputable def t54NTree (a : Int) (o : Int) (v : Int) (n : Int) (k : Nat) : Tree :=
  (.need (AV.p (PV.sc (Value.int IntKind.u64 (IntKind.u64.wrap (IntKind.u64.wrap a + IntKind.u64.wrap o)))) = sI IntKind.u64 (↑k : Int))
   (.test (!decide (IntKind.u64.wrap ((↑k : Int) + 4) ≤ IntKind.u64.wrap (IntKind.u64.wrap n * 65536)))
    (.out (Out.ret (AV.p (PV.sc (Value.int IntKind.i64 220))) [Blk.ac [AV.vm 1, AV.p (PV.sc (Value.int IntKind.u32 n)), AV.p (PV.sc (Value.int IntKind.u32 2))], Blk.ob (ObK.map [] [] 0) []]))
    (.at (bodyCfg Try.prog env 7 3 [AV.mp 0 0, AV.p (PV.sc (Value.int IntKind.u32 v)), AV.p (PV.sc (Value.int IntKind.u64 (↑k : Int))), AV.p (PV.sc (Value.int IntKind.u64 4)), AV.p (PV.sc (Value.int IntKind.u64 0))] ([Blk.ac [AV.vm 1, AV.p (PV.sc (Value.int IntKind.u32 n)), AV.p (PV.sc (Value.int IntKind.u32 2))], Blk.ob (ObK.map [] [] 0) []]) 2 52))))
theorem t54N_tree (a : Int) (o : Int) (v : Int) (n : Int) (k : Nat) : growF Try.prog env (t54NOrc a o v n k) 1000000 7 ([AV.mp 0 0, sI IntKind.i64 54, sI IntKind.u32 a, sI IntKind.u32 o, sI IntKind.u32 v]) (mN n) t54NSc = t54NTree a o v n k := by kernel_rfl

/- t54S: 163 steps -/
noncomputable def t54SOrc (a : Int) (o : Int) (v : Int) (n : Int) (k : Nat) (c : List PV) : Orc := orcS noC noLed [(7, 3)] [(7, 0, 2)] [] (t54SS a o v n k c)
def t54SSc : Sc := .fin
noncomputable def t54STree (a : Int) (o : Int) (v : Int) (n : Int) (k : Nat) (c : List PV) : Tree :=
  (.need (AV.p (PV.sc (Value.int IntKind.u64 (IntKind.u64.wrap (IntKind.u64.wrap a + IntKind.u64.wrap o)))) = sI IntKind.u64 (↑k : Int))
   (.test (!decide (IntKind.u64.wrap ((↑k : Int) + 4) ≤ IntKind.u64.wrap (IntKind.u64.wrap n * 65536)))
    (.out (Out.ret (AV.p (PV.sc (Value.int IntKind.i64 220))) [Blk.ac [AV.vm 1, AV.p (PV.sc (Value.int IntKind.u32 n)), AV.p (PV.sc (Value.int IntKind.u32 2))], Blk.ob (ObK.map [Value.int IntKind.u32 0] [0] 1) [AV.mp 2 0], Blk.pc c]))
    (.at (bodyCfg Try.prog env 7 3 [AV.mp 0 0, AV.p (PV.sc (Value.int IntKind.u32 v)), AV.p (PV.sc (Value.int IntKind.u64 (↑k : Int))), AV.p (PV.sc (Value.int IntKind.u64 4)), AV.p (PV.sc (Value.int IntKind.u64 0))] ([Blk.ac [AV.vm 1, AV.p (PV.sc (Value.int IntKind.u32 n)), AV.p (PV.sc (Value.int IntKind.u32 2))], Blk.ob (ObK.map [Value.int IntKind.u32 0] [0] 1) [AV.mp 2 0], Blk.pc c]) 3 52))))
theorem t54S_tree (a : Int) (o : Int) (v : Int) (n : Int) (k : Nat) (c : List PV) : growF Try.prog env (t54SOrc a o v n k c) 1000000 7 ([AV.mp 0 0, sI IntKind.i64 54, sI IntKind.u32 a, sI IntKind.u32 o, sI IntKind.u32 v]) (mS n c) t54SSc = t54STree a o v n k c := by kernel_rfl

/- t59N: 169 steps -/
noncomputable def t59NOrc (a : Int) (o : Int) (v : Int) (n : Int) (k : Nat) : Orc := orcS noC noLed [(7, 3)] [(7, 0, 2)] [] (t59NS a o v n k)
def t59NSc : Sc := .fin
noncomputable def t59NTree (a : Int) (o : Int) (v : Int) (n : Int) (k : Nat) : Tree :=
  (.need (AV.p (PV.sc (Value.int IntKind.u64 (IntKind.u64.wrap (IntKind.u64.wrap a + IntKind.u64.wrap o)))) = sI IntKind.u64 (↑k : Int))
   (.test (!decide (IntKind.u64.wrap ((↑k : Int) + 2) ≤ IntKind.u64.wrap (IntKind.u64.wrap n * 65536)))
    (.out (Out.ret (AV.p (PV.sc (Value.int IntKind.i64 220))) [Blk.ac [AV.vm 1, AV.p (PV.sc (Value.int IntKind.u32 n)), AV.p (PV.sc (Value.int IntKind.u32 2))], Blk.ob (ObK.map [] [] 0) []]))
    (.at (bodyCfg Try.prog env 7 3 [AV.mp 0 0, AV.p (PV.sc (Value.int IntKind.u32 v)), AV.p (PV.sc (Value.int IntKind.u64 (↑k : Int))), AV.p (PV.sc (Value.int IntKind.u64 2)), AV.p (PV.sc (Value.int IntKind.u64 0))] ([Blk.ac [AV.vm 1, AV.p (PV.sc (Value.int IntKind.u32 n)), AV.p (PV.sc (Value.int IntKind.u32 2))], Blk.ob (ObK.map [] [] 0) []]) 2 52))))
theorem t59N_tree (a : Int) (o : Int) (v : Int) (n : Int) (k : Nat) : growF Try.prog env (t59NOrc a o v n k) 1000000 7 ([AV.mp 0 0, sI IntKind.i64 59, sI IntKind.u32 a, sI IntKind.u32 o, sI IntKind.u32 v]) (mN n) t59NSc = t59NTree a o v n k := by kernel_rfl

/- t59S: 169 steps -/
noncomputable def t59SOrc (a : Int) (o : Int) (v : Int) (n : Int) (k : Nat) (c : List PV) : Orc := orcS noC noLed [(7, 3)] [(7, 0, 2)] [] (t59SS a o v n k c)
def t59SSc : Sc := .fin
noncomputable def t59STree (a : Int) (o : Int) (v : Int) (n : Int) (k : Nat) (c : List PV) : Tree :=
  (.need (AV.p (PV.sc (Value.int IntKind.u64 (IntKind.u64.wrap (IntKind.u64.wrap a + IntKind.u64.wrap o)))) = sI IntKind.u64 (↑k : Int))
   (.test (!decide (IntKind.u64.wrap ((↑k : Int) + 2) ≤ IntKind.u64.wrap (IntKind.u64.wrap n * 65536)))
    (.out (Out.ret (AV.p (PV.sc (Value.int IntKind.i64 220))) [Blk.ac [AV.vm 1, AV.p (PV.sc (Value.int IntKind.u32 n)), AV.p (PV.sc (Value.int IntKind.u32 2))], Blk.ob (ObK.map [Value.int IntKind.u32 0] [0] 1) [AV.mp 2 0], Blk.pc c]))
    (.at (bodyCfg Try.prog env 7 3 [AV.mp 0 0, AV.p (PV.sc (Value.int IntKind.u32 v)), AV.p (PV.sc (Value.int IntKind.u64 (↑k : Int))), AV.p (PV.sc (Value.int IntKind.u64 2)), AV.p (PV.sc (Value.int IntKind.u64 0))] ([Blk.ac [AV.vm 1, AV.p (PV.sc (Value.int IntKind.u32 n)), AV.p (PV.sc (Value.int IntKind.u32 2))], Blk.ob (ObK.map [Value.int IntKind.u32 0] [0] 1) [AV.mp 2 0], Blk.pc c]) 3 52))))
theorem t59S_tree (a : Int) (o : Int) (v : Int) (n : Int) (k : Nat) (c : List PV) : growF Try.prog env (t59SOrc a o v n k c) 1000000 7 ([AV.mp 0 0, sI IntKind.i64 59, sI IntKind.u32 a, sI IntKind.u32 o, sI IntKind.u32 v]) (mS n c) t59SSc = t59STree a o v n k c := by kernel_rfl

/- t58N: 175 steps -/
noncomputable def t58NOrc (a : Int) (o : Int) (v : Int) (n : Int) (k : Nat) : Orc := orcS noC noLed [(7, 3)] [(7, 0, 2)] [] (t58NS a o v n k)
def t58NSc : Sc := .fin
noncomputable def t58NTree (a : Int) (o : Int) (v : Int) (n : Int) (k : Nat) : Tree :=
  (.need (AV.p (PV.sc (Value.int IntKind.u64 (IntKind.u64.wrap (IntKind.u64.wrap a + IntKind.u64.wrap o)))) = sI IntKind.u64 (↑k : Int))
   (.test (!decide (IntKind.u64.wrap ((↑k : Int) + 1) ≤ IntKind.u64.wrap (IntKind.u64.wrap n * 65536)))
    (.out (Out.ret (AV.p (PV.sc (Value.int IntKind.i64 220))) [Blk.ac [AV.vm 1, AV.p (PV.sc (Value.int IntKind.u32 n)), AV.p (PV.sc (Value.int IntKind.u32 2))], Blk.ob (ObK.map [] [] 0) []]))
    (.at (bodyCfg Try.prog env 7 3 [AV.mp 0 0, AV.p (PV.sc (Value.int IntKind.u32 v)), AV.p (PV.sc (Value.int IntKind.u64 (↑k : Int))), AV.p (PV.sc (Value.int IntKind.u64 1)), AV.p (PV.sc (Value.int IntKind.u64 0))] ([Blk.ac [AV.vm 1, AV.p (PV.sc (Value.int IntKind.u32 n)), AV.p (PV.sc (Value.int IntKind.u32 2))], Blk.ob (ObK.map [] [] 0) []]) 2 52))))
theorem t58N_tree (a : Int) (o : Int) (v : Int) (n : Int) (k : Nat) : growF Try.prog env (t58NOrc a o v n k) 1000000 7 ([AV.mp 0 0, sI IntKind.i64 58, sI IntKind.u32 a, sI IntKind.u32 o, sI IntKind.u32 v]) (mN n) t58NSc = t58NTree a o v n k := by kernel_rfl

/- t58S: 175 steps -/
noncomputable def t58SOrc (a : Int) (o : Int) (v : Int) (n : Int) (k : Nat) (c : List PV) : Orc := orcS noC noLed [(7, 3)] [(7, 0, 2)] [] (t58SS a o v n k c)
def t58SSc : Sc := .fin
noncomputable def t58STree (a : Int) (o : Int) (v : Int) (n : Int) (k : Nat) (c : List PV) : Tree :=
  (.need (AV.p (PV.sc (Value.int IntKind.u64 (IntKind.u64.wrap (IntKind.u64.wrap a + IntKind.u64.wrap o)))) = sI IntKind.u64 (↑k : Int))
   (.test (!decide (IntKind.u64.wrap ((↑k : Int) + 1) ≤ IntKind.u64.wrap (IntKind.u64.wrap n * 65536)))
    (.out (Out.ret (AV.p (PV.sc (Value.int IntKind.i64 220))) [Blk.ac [AV.vm 1, AV.p (PV.sc (Value.int IntKind.u32 n)), AV.p (PV.sc (Value.int IntKind.u32 2))], Blk.ob (ObK.map [Value.int IntKind.u32 0] [0] 1) [AV.mp 2 0], Blk.pc c]))
    (.at (bodyCfg Try.prog env 7 3 [AV.mp 0 0, AV.p (PV.sc (Value.int IntKind.u32 v)), AV.p (PV.sc (Value.int IntKind.u64 (↑k : Int))), AV.p (PV.sc (Value.int IntKind.u64 1)), AV.p (PV.sc (Value.int IntKind.u64 0))] ([Blk.ac [AV.vm 1, AV.p (PV.sc (Value.int IntKind.u32 n)), AV.p (PV.sc (Value.int IntKind.u32 2))], Blk.ob (ObK.map [Value.int IntKind.u32 0] [0] 1) [AV.mp 2 0], Blk.pc c]) 3 52))))
theorem t58S_tree (a : Int) (o : Int) (v : Int) (n : Int) (k : Nat) (c : List PV) : growF Try.prog env (t58SOrc a o v n k c) 1000000 7 ([AV.mp 0 0, sI IntKind.i64 58, sI IntKind.u32 a, sI IntKind.u32 o, sI IntKind.u32 v]) (mS n c) t58SSc = t58STree a o v n k c := by kernel_rfl

/- y1: 39 steps -/
noncomputable def y1Orc (v : Int) (w : Int) (k : Nat) (i : Nat) (x : Int) (n : Int) : Orc := orcS (y1C v w k i x n) noLed [(7, 3)] [(7, 0, 4)] [] (y1S v w k i x n)
def y1Sc : Sc := .fin
noncomputable def y1Tree (v : Int) (w : Int) (k : Nat) (i : Nat) (x : Int) (n : Int) : Tree :=
  (.test (decide ((↑i : Int) < w))
   (.need (AV.p (PV.sc (Value.int IntKind.u64 (IntKind.u64.wrap ((↑k : Int) + (↑i : Int))))) = sI IntKind.u64 (↑(k + i) : Int))
    (.need (AV.p (PV.sc (Value.int IntKind.u8 (IntKind.u8.wrap (v.fdiv (2 ^ Min.min (IntKind.u64.wrap (8 * (↑i : Int))).toNat 32))))) = sI IntKind.u8 x)
     (.call ⟨17, [AV.mp 0 0, AV.p (PV.sc (Value.int IntKind.u64 (↑(k + i) : Int))), AV.p (PV.sc (Value.int IntKind.u8 x))], [Blk.ac [AV.vm 1, AV.p (PV.sc (Value.int IntKind.u32 n)), AV.p (PV.sc (Value.int IntKind.u32 2))], Blk.ob (ObK.map [] [] 0) []], AV.tup [], [Blk.ac [AV.vm 1, AV.p (PV.sc (Value.int IntKind.u32 n)), AV.p (PV.sc (Value.int IntKind.u32 2))], Blk.ob (ObK.map [] [] 0) []]⟩
      (.need (AV.p (PV.sc (Value.int IntKind.u64 (IntKind.u64.wrap ((↑i : Int) + 1)))) = sI IntKind.u64 (↑(i + 1) : Int))
       (.at (bodyCfg Try.prog env 7 3 [AV.mp 0 0, AV.p (PV.sc (Value.int IntKind.u32 v)), AV.p (PV.sc (Value.int IntKind.u64 (↑k : Int))), AV.p (PV.sc (Value.int IntKind.u64 w)), AV.p (PV.sc (Value.int IntKind.u64 (↑(i + 1) : Int)))] ([Blk.ac [AV.vm 1, AV.p (PV.sc (Value.int IntKind.u32 n)), AV.p (PV.sc (Value.int IntKind.u32 2))], Blk.ob (ObK.map [] [] 0) []]) 2 52))))))
   (.out (Out.ret (AV.p (PV.sc (Value.int IntKind.i64 0))) [Blk.ac [AV.vm 1, AV.p (PV.sc (Value.int IntKind.u32 n)), AV.p (PV.sc (Value.int IntKind.u32 2))], Blk.ob (ObK.map [] [] 0) []])))
theorem y1_tree (v : Int) (w : Int) (k : Nat) (i : Nat) (x : Int) (n : Int) : grow Try.prog env (y1Orc v w k i x n) 1000000 true (bodyCfg Try.prog env 7 3 (yL v w k i) (mN n) 2 52) y1Sc atEnd = y1Tree v w k i x n := by kernel_rfl

/- y2: 39 steps -/
noncomputable def y2Orc (v : Int) (w : Int) (k : Nat) (i : Nat) (x : Int) (n : Int) (c : List PV) : Orc := orcS (y2C v w k i x n c) noLed [(7, 3)] [(7, 0, 4)] [] (y2S v w k i x n c)
def y2Sc : Sc := .fin
noncomputable def y2Tree (v : Int) (w : Int) (k : Nat) (i : Nat) (x : Int) (n : Int) (c : List PV) : Tree :=
  (.test (decide ((↑i : Int) < w))
   (.need (AV.p (PV.sc (Value.int IntKind.u64 (IntKind.u64.wrap ((↑k : Int) + (↑i : Int))))) = sI IntKind.u64 (↑(k + i) : Int))
    (.need (AV.p (PV.sc (Value.int IntKind.u8 (IntKind.u8.wrap (v.fdiv (2 ^ Min.min (IntKind.u64.wrap (8 * (↑i : Int))).toNat 32))))) = sI IntKind.u8 x)
     (.call ⟨17, [AV.mp 0 0, AV.p (PV.sc (Value.int IntKind.u64 (↑(k + i) : Int))), AV.p (PV.sc (Value.int IntKind.u8 x))], [Blk.ac [AV.vm 1, AV.p (PV.sc (Value.int IntKind.u32 n)), AV.p (PV.sc (Value.int IntKind.u32 2))], Blk.ob (ObK.map [] [] 0) []], AV.tup [], [Blk.ac [AV.vm 1, AV.p (PV.sc (Value.int IntKind.u32 n)), AV.p (PV.sc (Value.int IntKind.u32 2))], Blk.ob (ObK.map [Value.int IntKind.u32 0] [0] 1) [AV.mp 2 0], Blk.pc c]⟩
      (.need (AV.p (PV.sc (Value.int IntKind.u64 (IntKind.u64.wrap ((↑i : Int) + 1)))) = sI IntKind.u64 (↑(i + 1) : Int))
       (.at (bodyCfg Try.prog env 7 3 [AV.mp 0 0, AV.p (PV.sc (Value.int IntKind.u32 v)), AV.p (PV.sc (Value.int IntKind.u64 (↑k : Int))), AV.p (PV.sc (Value.int IntKind.u64 w)), AV.p (PV.sc (Value.int IntKind.u64 (↑(i + 1) : Int)))] ([Blk.ac [AV.vm 1, AV.p (PV.sc (Value.int IntKind.u32 n)), AV.p (PV.sc (Value.int IntKind.u32 2))], Blk.ob (ObK.map [Value.int IntKind.u32 0] [0] 1) [AV.mp 2 0], Blk.pc c]) 2 52))))))
   (.out (Out.ret (AV.p (PV.sc (Value.int IntKind.i64 0))) [Blk.ac [AV.vm 1, AV.p (PV.sc (Value.int IntKind.u32 n)), AV.p (PV.sc (Value.int IntKind.u32 2))], Blk.ob (ObK.map [] [] 0) []])))
theorem y2_tree (v : Int) (w : Int) (k : Nat) (i : Nat) (x : Int) (n : Int) (c : List PV) : grow Try.prog env (y2Orc v w k i x n c) 1000000 true (bodyCfg Try.prog env 7 3 (yL v w k i) (mN n) 2 52) y2Sc atEnd = y2Tree v w k i x n c := by kernel_rfl

/- y3: 39 steps -/
noncomputable def y3Orc (v : Int) (w : Int) (k : Nat) (i : Nat) (x : Int) (n : Int) (c : List PV) (d : List PV) : Orc := orcS (y3C v w k i x n c d) noLed [(7, 3)] [(7, 0, 4)] [] (y3S v w k i x n c d)
def y3Sc : Sc := .fin
noncomputable def y3Tree (v : Int) (w : Int) (k : Nat) (i : Nat) (x : Int) (n : Int) (c : List PV) (d : List PV) : Tree :=
  (.test (decide ((↑i : Int) < w))
   (.need (AV.p (PV.sc (Value.int IntKind.u64 (IntKind.u64.wrap ((↑k : Int) + (↑i : Int))))) = sI IntKind.u64 (↑(k + i) : Int))
    (.need (AV.p (PV.sc (Value.int IntKind.u8 (IntKind.u8.wrap (v.fdiv (2 ^ Min.min (IntKind.u64.wrap (8 * (↑i : Int))).toNat 32))))) = sI IntKind.u8 x)
     (.call ⟨17, [AV.mp 0 0, AV.p (PV.sc (Value.int IntKind.u64 (↑(k + i) : Int))), AV.p (PV.sc (Value.int IntKind.u8 x))], [Blk.ac [AV.vm 1, AV.p (PV.sc (Value.int IntKind.u32 n)), AV.p (PV.sc (Value.int IntKind.u32 2))], Blk.ob (ObK.map [Value.int IntKind.u32 0] [0] 1) [AV.mp 2 0], Blk.pc c], AV.tup [], [Blk.ac [AV.vm 1, AV.p (PV.sc (Value.int IntKind.u32 n)), AV.p (PV.sc (Value.int IntKind.u32 2))], Blk.ob (ObK.map [Value.int IntKind.u32 0] [0] 1) [AV.mp 2 0], Blk.pc d]⟩
      (.need (AV.p (PV.sc (Value.int IntKind.u64 (IntKind.u64.wrap ((↑i : Int) + 1)))) = sI IntKind.u64 (↑(i + 1) : Int))
       (.at (bodyCfg Try.prog env 7 3 [AV.mp 0 0, AV.p (PV.sc (Value.int IntKind.u32 v)), AV.p (PV.sc (Value.int IntKind.u64 (↑k : Int))), AV.p (PV.sc (Value.int IntKind.u64 w)), AV.p (PV.sc (Value.int IntKind.u64 (↑(i + 1) : Int)))] ([Blk.ac [AV.vm 1, AV.p (PV.sc (Value.int IntKind.u32 n)), AV.p (PV.sc (Value.int IntKind.u32 2))], Blk.ob (ObK.map [Value.int IntKind.u32 0] [0] 1) [AV.mp 2 0], Blk.pc d]) 3 52))))))
   (.out (Out.ret (AV.p (PV.sc (Value.int IntKind.i64 0))) [Blk.ac [AV.vm 1, AV.p (PV.sc (Value.int IntKind.u32 n)), AV.p (PV.sc (Value.int IntKind.u32 2))], Blk.ob (ObK.map [Value.int IntKind.u32 0] [0] 1) [AV.mp 2 0], Blk.pc c])))
theorem y3_tree (v : Int) (w : Int) (k : Nat) (i : Nat) (x : Int) (n : Int) (c : List PV) (d : List PV) : grow Try.prog env (y3Orc v w k i x n c d) 1000000 true (bodyCfg Try.prog env 7 3 (yL v w k i) (mS n c) 3 52) y3Sc atEnd = y3Tree v w k i x n c d := by kernel_rfl

/- y4: 39 steps -/
noncomputable def y4Orc (v : Int) (w : Int) (k : Nat) (i : Nat) (x : Int) (n : Int) (c : List PV) (d : List PV) : Orc := orcS (y3C v w k i x n c d) noLed [(7, 3)] [(7, 0, 4)] [] (y3S v w k i x n c d)
def y4Sc : Sc := .fin
noncomputable def y4Tree (v : Int) (w : Int) (k : Nat) (i : Nat) (x : Int) (n : Int) (c : List PV) (d : List PV) : Tree :=
  (.test (decide ((↑i : Int) < w))
   (.need (AV.p (PV.sc (Value.int IntKind.u64 (IntKind.u64.wrap ((↑k : Int) + (↑i : Int))))) = sI IntKind.u64 (↑(k + i) : Int))
    (.need (AV.p (PV.sc (Value.int IntKind.u8 (IntKind.u8.wrap (v.fdiv (2 ^ Min.min (IntKind.u64.wrap (8 * (↑i : Int))).toNat 32))))) = sI IntKind.u8 x)
     (.call ⟨17, [AV.mp 0 0, AV.p (PV.sc (Value.int IntKind.u64 (↑(k + i) : Int))), AV.p (PV.sc (Value.int IntKind.u8 x))], [Blk.ac [AV.vm 1, AV.p (PV.sc (Value.int IntKind.u32 n)), AV.p (PV.sc (Value.int IntKind.u32 2))], Blk.ob (ObK.map [Value.int IntKind.u32 0] [0] 1) [AV.mp 2 0], Blk.pc c], AV.tup [], [Blk.ac [AV.vm 1, AV.p (PV.sc (Value.int IntKind.u32 n)), AV.p (PV.sc (Value.int IntKind.u32 2))], Blk.ob (ObK.map [Value.int IntKind.u32 0] [0] 1) [AV.mp 2 0], Blk.pc d]⟩
      (.need (AV.p (PV.sc (Value.int IntKind.u64 (IntKind.u64.wrap ((↑i : Int) + 1)))) = sI IntKind.u64 (↑(i + 1) : Int))
       (.at (bodyCfg Try.prog env 7 3 [AV.mp 0 0, AV.p (PV.sc (Value.int IntKind.u32 v)), AV.p (PV.sc (Value.int IntKind.u64 (↑k : Int))), AV.p (PV.sc (Value.int IntKind.u64 w)), AV.p (PV.sc (Value.int IntKind.u64 (↑(i + 1) : Int)))] ([Blk.ac [AV.vm 1, AV.p (PV.sc (Value.int IntKind.u32 n)), AV.p (PV.sc (Value.int IntKind.u32 2))], Blk.ob (ObK.map [Value.int IntKind.u32 0] [0] 1) [AV.mp 2 0], Blk.pc d]) 2 52))))))
   (.out (Out.ret (AV.p (PV.sc (Value.int IntKind.i64 0))) [Blk.ac [AV.vm 1, AV.p (PV.sc (Value.int IntKind.u32 n)), AV.p (PV.sc (Value.int IntKind.u32 2))], Blk.ob (ObK.map [Value.int IntKind.u32 0] [0] 1) [AV.mp 2 0], Blk.pc c])))
theorem y4_tree (v : Int) (w : Int) (k : Nat) (i : Nat) (x : Int) (n : Int) (c : List PV) (d : List PV) : grow Try.prog env (y4Orc v w k i x n c d) 1000000 true (bodyCfg Try.prog env 7 3 (yL v w k i) (mS n c) 2 52) y4Sc atEnd = y4Tree v w k i x n c d := by kernel_rfl


theorem u64add {a i : Nat} (h : a + i ≤ 9223372036854775807) : IntKind.u64.wrap (IntKind.u64.wrap (a : Int) + IntKind.u64.wrap (i : Int)) = ((a + i : Nat) : Int) := by
  rw [wU64, wU64, wU64]; omega

theorem u64In {n : Int} (h : 0 ≤ n) (h' : n ≤ 18446744073709551615) : IntKind.u64.wrap n = n := by rw [wU64]; omega

theorem i64succ {i : Nat} (h : i ≤ 9223372036854775806) : IntKind.i64.wrap ((i : Int) + 1) = ((i + 1 : Nat) : Int) := by rw [i64In (by omega) (by omega)]; rfl

theorem u64succ {i : Nat} (h : i ≤ 9223372036854775806) : IntKind.u64.wrap ((i : Int) + 1) = ((i + 1 : Nat) : Int) := by rw [u64In (by omega) (by omega)]; rfl

def putL (l : List Int) (at_ : Nat) : List Int → List Int
  | [] => l
  | x :: r => putL (l.set at_ x) (at_ + 1) r

theorem putP_some : ∀ (bs l : List Int) (at_ : Nat), putP (some l) at_ bs = some (putL l at_ bs)
  | [], _, _ => rfl
  | x :: r, l, at_ => putP_some r (l.set at_ x) (at_ + 1)

def isB (b : List Int) : Prop := ∀ x ∈ b, 0 ≤ x ∧ x < 256

theorem drop_at {α : Type} {l : List α} {i : Nat} (h : i < l.length) (d : α) : l.drop i = l.getD i d :: l.drop (i + 1) := by
  rw [List.drop_eq_getElem_cons h, List.getD_eq_getElem?_getD, List.getElem?_eq_getElem h]; rfl

theorem isB_at {b : List Int} (hb : isB b) {i : Nat} (h : i < b.length) : 0 ≤ b.getD i 0 ∧ b.getD i 0 < 256 := by
  rw [List.getD_eq_getElem?_getD, List.getElem?_eq_getElem h]
  exact hb _ (List.getElem_mem h)

theorem w_some3 {a : Nat} {b : List Int} (hb : isB b) (ha : a + b.length ≤ 65536) (n : Int) : ∀ (r i : Nat) (l : List Int), i + r = b.length → okP (some l) → Am.Good Try.prog env (bodyCfg Try.prog env 6 2 (wL a b i) (mS n (encB l)) 3 37) (.ret (sI .i64 0) (mS n (encB (putL l (a + i) (b.drop i))))) := by
  intro r
  induction r with
  | zero =>
    intro i l hr hs
    have hiI : ¬ (i : Int) < (b.length : Int) := by omega
    rw [List.drop_eq_nil_of_le (by omega)]
    refine good_of_tree names (x3_tree a b i (a + i) 0 n (encB l) []) ?_
    simp only [x3Tree, Tree.ok]
    exact ⟨fun h => absurd (by simpa using h) hiI, fun _ => rfl⟩
  | succ r ih =>
    intro i l hr hs
    have hi : i < b.length := by omega
    have hiI : (i : Int) < (b.length : Int) := by omega
    have hx := isB_at hb hi
    have nx := ih (i + 1) (l.set (a + i) (b.getD i 0)) (by omega) (okP_set (s := some l) (i := a + i) hs hx.1 hx.2)
    rw [drop_at hi 0]
    refine good_of_tree names (x3_tree a b i (a + i) (b.getD i 0) n (encB l) (encB (l.set (a + i) (b.getD i 0)))) ?_
    simp only [x3Tree, Tree.ok, Int.toNat_natCast, Nat.mul_one, encB_get hi, isInt, pvInt, inB, u64add (a := a) (i := i) (by omega), i64succ (i := i) (by omega)]
    exact ⟨fun _ => ⟨by simp; omega, by decide, trivial, trivial, set_does hs (by omega) n _, trivial, nx⟩, fun h => absurd hiI (by simpa using h)⟩

theorem w_some2 {a : Nat} {b : List Int} (hb : isB b) (ha : a + b.length ≤ 65536) (n : Int) : ∀ (r i : Nat) (l : List Int), i + r = b.length → okP (some l) → Am.Good Try.prog env (bodyCfg Try.prog env 6 2 (wL a b i) (mS n (encB l)) 2 37) (.ret (sI .i64 0) (mS n (encB (putL l (a + i) (b.drop i))))) := by
  intro r
  induction r with
  | zero =>
    intro i l hr hs
    have hiI : ¬ (i : Int) < (b.length : Int) := by omega
    rw [List.drop_eq_nil_of_le (by omega)]
    refine good_of_tree names (x4_tree a b i (a + i) 0 n (encB l) []) ?_
    simp only [x4Tree, Tree.ok]
    exact ⟨fun h => absurd (by simpa using h) hiI, fun _ => rfl⟩
  | succ r ih =>
    intro i l hr hs
    have hi : i < b.length := by omega
    have hiI : (i : Int) < (b.length : Int) := by omega
    have hx := isB_at hb hi
    have nx := ih (i + 1) (l.set (a + i) (b.getD i 0)) (by omega) (okP_set (s := some l) (i := a + i) hs hx.1 hx.2)
    rw [drop_at hi 0]
    refine good_of_tree names (x4_tree a b i (a + i) (b.getD i 0) n (encB l) (encB (l.set (a + i) (b.getD i 0)))) ?_
    simp only [x4Tree, Tree.ok, Int.toNat_natCast, Nat.mul_one, encB_get hi, isInt, pvInt, inB, u64add (a := a) (i := i) (by omega), i64succ (i := i) (by omega)]
    exact ⟨fun _ => ⟨by simp; omega, by decide, trivial, trivial, set_does hs (by omega) n _, trivial, nx⟩, fun h => absurd hiI (by simpa using h)⟩

theorem w_none {a : Nat} {b : List Int} (hb : isB b) (ha : a + b.length ≤ 65536) (n : Int) : ∀ (r i : Nat), i + r = b.length → Am.Good Try.prog env (bodyCfg Try.prog env 6 2 (wL a b i) (mN n) 2 37) (.ret (sI .i64 0) (stM n (putP none (a + i) (b.drop i)))) := by
  intro r
  induction r with
  | zero =>
    intro i hr
    have hiI : ¬ (i : Int) < (b.length : Int) := by omega
    rw [List.drop_eq_nil_of_le (by omega)]
    refine good_of_tree names (x1_tree a b i (a + i) 0 n) ?_
    simp only [x1Tree, Tree.ok]
    exact ⟨fun h => absurd (by simpa using h) hiI, fun _ => rfl⟩
  | succ r ih =>
    intro i hr
    have hi : i < b.length := by omega
    have hiI : (i : Int) < (b.length : Int) := by omega
    have hx := isB_at hb hi
    have hset := set_does (s := none) trivial (i := a + i) (by omega) n (b.getD i 0)
    rw [drop_at hi 0]
    show Am.Good _ _ _ (.ret _ (stM n (putP (setP none (a + i) (b.getD i 0)) (a + i + 1) (b.drop (i + 1)))))
    by_cases h0 : b.getD i 0 = 0
    · have nx := ih (i + 1) (by omega)
      have e : setP none (a + i) (b.getD i 0) = none := if_pos h0
      rw [e] at hset ⊢
      refine good_of_tree names (x1_tree a b i (a + i) 0 n) ?_
      simp only [x1Tree, Tree.ok, Int.toNat_natCast, Nat.mul_one, encB_get hi, isInt, pvInt, inB, u64add (a := a) (i := i) (by omega), i64succ (i := i) (by omega)]
      rw [h0] at hset ⊢
      exact ⟨fun _ => ⟨by simp; omega, by decide, rfl, trivial, hset, trivial, nx⟩, fun h => absurd hiI (by simpa using h)⟩
    · have e : setP none (a + i) (b.getD i 0) = some (nought.set (a + i) (b.getD i 0)) := if_neg h0
      have hok := okP_set (s := none) (i := a + i) trivial hx.1 hx.2
      rw [e] at hset hok ⊢
      have nx := w_some2 hb ha n r (i + 1) _ (by omega) hok
      rw [putP_some]
      refine good_of_tree names (x2_tree a b i (a + i) (b.getD i 0) n (encB (nought.set (a + i) (b.getD i 0)))) ?_
      simp only [x2Tree, Tree.ok, Int.toNat_natCast, Nat.mul_one, encB_get hi, isInt, pvInt, inB, u64add (a := a) (i := i) (by omega), i64succ (i := i) (by omega)]
      exact ⟨fun _ => ⟨by simp; omega, by decide, trivial, trivial, hset, trivial, nx⟩, fun h => absurd hiI (by simpa using h)⟩

theorem write_does {s : Pg} (hs : okP s) {a : Nat} {b : List Int} (hb : isB b) (ha : a + b.length ≤ 65536) : Does Try.prog env 6 (wA a b) (stM 1 s) (sI .i64 0) (stM 1 (putP s a b)) := by
  have hT : ¬ ¬ IntKind.u64.wrap (IntKind.u64.wrap (a : Int) + IntKind.u64.wrap (b.length : Int)) ≤ IntKind.u64.wrap (IntKind.u64.wrap 1 * 65536) := by
    rw [u64add (by omega), wU64, wU64]; omega
  cases s with
  | none =>
    refine does_of_tree names (w1_tree a b 1) ?_
    have nx := w_none hb ha 1 b.length 0 (by omega)
    refine ⟨fun h => absurd (by simpa using h) hT, fun _ => nx⟩
  | some l =>
    refine does_of_tree names (w2_tree a b 1 (encB l)) ?_
    have nx := w_some3 hb ha 1 b.length 0 l (by omega) hs
    rw [putP_some]
    refine ⟨fun h => absurd (by simpa using h) hT, fun _ => nx⟩

theorem y_some3 {a : Nat} {b : List Int} {v : Int} (hb : isB b) (ha : a + b.length ≤ 65536) (hv : ∀ i : Nat, i < b.length → IntKind.u8.wrap (v.fdiv (2 ^ Min.min (IntKind.u64.wrap (8 * (i : Int))).toNat 32)) = b.getD i 0) (n : Int) : ∀ (r i : Nat) (l : List Int), i + r = b.length → okP (some l) → Am.Good Try.prog env (bodyCfg Try.prog env 7 3 (yL v b.length a i) (mS n (encB l)) 3 52) (.ret (sI .i64 0) (mS n (encB (putL l (a + i) (b.drop i))))) := by
  intro r
  induction r with
  | zero =>
    intro i l hr hs
    have hiI : ¬ (i : Int) < (b.length : Int) := by omega
    rw [List.drop_eq_nil_of_le (by omega)]
    refine good_of_tree names (y3_tree v b.length a i 0 n (encB l) []) ?_
    simp only [y3Tree, Tree.ok]
    exact ⟨fun h => absurd (by simpa using h) hiI, fun _ => rfl⟩
  | succ r ih =>
    intro i l hr hs
    have hi : i < b.length := by omega
    have hiI : (i : Int) < (b.length : Int) := by omega
    have hx := isB_at hb hi
    have nx := ih (i + 1) (l.set (a + i) (b.getD i 0)) (by omega) (okP_set (s := some l) (i := a + i) hs hx.1 hx.2)
    rw [drop_at hi 0]
    refine good_of_tree names (y3_tree v b.length a i (b.getD i 0) n (encB l) (encB (l.set (a + i) (b.getD i 0)))) ?_
    simp only [y3Tree, Tree.ok, Int.toNat_natCast, Nat.mul_one, hv i hi, u64In (n := (a : Int) + i) (by omega) (by omega), u64succ (i := i) (by omega)]
    exact ⟨fun _ => ⟨rfl, trivial, set_does hs (by omega) n _, trivial, nx⟩, fun h => absurd hiI (by simpa using h)⟩

theorem y_some2 {a : Nat} {b : List Int} {v : Int} (hb : isB b) (ha : a + b.length ≤ 65536) (hv : ∀ i : Nat, i < b.length → IntKind.u8.wrap (v.fdiv (2 ^ Min.min (IntKind.u64.wrap (8 * (i : Int))).toNat 32)) = b.getD i 0) (n : Int) : ∀ (r i : Nat) (l : List Int), i + r = b.length → okP (some l) → Am.Good Try.prog env (bodyCfg Try.prog env 7 3 (yL v b.length a i) (mS n (encB l)) 2 52) (.ret (sI .i64 0) (mS n (encB (putL l (a + i) (b.drop i))))) := by
  intro r
  induction r with
  | zero =>
    intro i l hr hs
    have hiI : ¬ (i : Int) < (b.length : Int) := by omega
    rw [List.drop_eq_nil_of_le (by omega)]
    refine good_of_tree names (y4_tree v b.length a i 0 n (encB l) []) ?_
    simp only [y4Tree, Tree.ok]
    exact ⟨fun h => absurd (by simpa using h) hiI, fun _ => rfl⟩
  | succ r ih =>
    intro i l hr hs
    have hi : i < b.length := by omega
    have hiI : (i : Int) < (b.length : Int) := by omega
    have hx := isB_at hb hi
    have nx := ih (i + 1) (l.set (a + i) (b.getD i 0)) (by omega) (okP_set (s := some l) (i := a + i) hs hx.1 hx.2)
    rw [drop_at hi 0]
    refine good_of_tree names (y4_tree v b.length a i (b.getD i 0) n (encB l) (encB (l.set (a + i) (b.getD i 0)))) ?_
    simp only [y4Tree, Tree.ok, Int.toNat_natCast, Nat.mul_one, hv i hi, u64In (n := (a : Int) + i) (by omega) (by omega), u64succ (i := i) (by omega)]
    exact ⟨fun _ => ⟨rfl, trivial, set_does hs (by omega) n _, trivial, nx⟩, fun h => absurd hiI (by simpa using h)⟩

theorem y_none {a : Nat} {b : List Int} {v : Int} (hb : isB b) (ha : a + b.length ≤ 65536) (hv : ∀ i : Nat, i < b.length → IntKind.u8.wrap (v.fdiv (2 ^ Min.min (IntKind.u64.wrap (8 * (i : Int))).toNat 32)) = b.getD i 0) (n : Int) : ∀ (r i : Nat), i + r = b.length → Am.Good Try.prog env (bodyCfg Try.prog env 7 3 (yL v b.length a i) (mN n) 2 52) (.ret (sI .i64 0) (stM n (putP none (a + i) (b.drop i)))) := by
  intro r
  induction r with
  | zero =>
    intro i hr
    have hiI : ¬ (i : Int) < (b.length : Int) := by omega
    rw [List.drop_eq_nil_of_le (by omega)]
    refine good_of_tree names (y1_tree v b.length a i 0 n) ?_
    simp only [y1Tree, Tree.ok]
    exact ⟨fun h => absurd (by simpa using h) hiI, fun _ => rfl⟩
  | succ r ih =>
    intro i hr
    have hi : i < b.length := by omega
    have hiI : (i : Int) < (b.length : Int) := by omega
    have hx := isB_at hb hi
    have hset := set_does (s := none) trivial (i := a + i) (by omega) n (b.getD i 0)
    rw [drop_at hi 0]
    show Am.Good _ _ _ (.ret _ (stM n (putP (setP none (a + i) (b.getD i 0)) (a + i + 1) (b.drop (i + 1)))))
    by_cases h0 : b.getD i 0 = 0
    · have nx := ih (i + 1) (by omega)
      have e : setP none (a + i) (b.getD i 0) = none := if_pos h0
      rw [e] at hset ⊢
      refine good_of_tree names (y1_tree v b.length a i 0 n) ?_
      simp only [y1Tree, Tree.ok, Int.toNat_natCast, Nat.mul_one, hv i hi, u64In (n := (a : Int) + i) (by omega) (by omega), u64succ (i := i) (by omega)]
      rw [h0] at hset ⊢
      exact ⟨fun _ => ⟨rfl, rfl, hset, trivial, nx⟩, fun h => absurd hiI (by simpa using h)⟩
    · have e : setP none (a + i) (b.getD i 0) = some (nought.set (a + i) (b.getD i 0)) := if_neg h0
      have hok := okP_set (s := none) (i := a + i) trivial hx.1 hx.2
      rw [e] at hset hok ⊢
      have nx := y_some2 hb ha hv n r (i + 1) _ (by omega) hok
      rw [putP_some]
      refine good_of_tree names (y2_tree v b.length a i (b.getD i 0) n (encB (nought.set (a + i) (b.getD i 0)))) ?_
      simp only [y2Tree, Tree.ok, Int.toNat_natCast, Nat.mul_one, hv i hi, u64In (n := (a : Int) + i) (by omega) (by omega), u64succ (i := i) (by omega)]
      exact ⟨fun _ => ⟨rfl, trivial, hset, trivial, nx⟩, fun h => absurd hiI (by simpa using h)⟩

/-- The bytes of a word, the lowest first. -/
def bytesOf (v : Nat) : Nat → List Int
  | 0 => []
  | n + 1 => ((v % 256 : Nat) : Int) :: bytesOf (v / 256) n

theorem bytesOf_len : ∀ (n v : Nat), (bytesOf v n).length = n
  | 0, _ => rfl
  | n + 1, v => by rw [bytesOf, List.length_cons, bytesOf_len n]

theorem bytesOf_ok : ∀ (n v : Nat), isB (bytesOf v n)
  | n + 1, v, x, hx => by
    rcases List.mem_cons.1 hx with rfl | q
    · omega
    · exact bytesOf_ok n _ x q

theorem bytesOf_at (v n : Nat) (hn : n ≤ 4) (i : Nat) (hi : i < (bytesOf v n).length) : IntKind.u8.wrap ((v : Int).fdiv (2 ^ Min.min (IntKind.u64.wrap (8 * (i : Int))).toNat 32)) = (bytesOf v n).getD i 0 := by
  rw [bytesOf_len] at hi
  have hdiv : ∀ k : Nat, (v : Int).fdiv ((2 : Int) ^ k) = ((v / 2 ^ k : Nat) : Int) := fun k => by
    rw [Int.fdiv_eq_ediv_of_nonneg _ (Int.le_of_lt (Int.pow_pos (by decide)))]
    push_cast
    rfl
  rw [hdiv, wU8]
  rcases n with _ | _ | _ | _ | _ | n <;> try omega
  all_goals
    rcases i with _ | _ | _ | _ | i <;> try omega
  all_goals
    simp [bytesOf, wU64]
    try omega

abbrev sA' (op : Int) (a o v : Nat) : List AV := [.mp 0 0, sI .i64 op, sI .u32 a, sI .u32 o, sI .u32 v]

theorem store54_does {s : Pg} (hs : okP s) {a o v : Nat} (ha : a + o + 4 ≤ 65536) : Does Try.prog env 7 (sA' 54 a o v) (stM 1 s) (sI .i64 0) (stM 1 (putP s (a + o) (bytesOf v 4))) := by
  have hl := bytesOf_len 4 v
  have hT : ¬ ¬ IntKind.u64.wrap (((a + o : Nat) : Int) + 4) ≤ IntKind.u64.wrap (IntKind.u64.wrap 1 * 65536) := by
    rw [wU64, wU64, wU64]; omega
  have hk := u64add (a := a) (i := o) (by omega)
  have hv := bytesOf_at v 4 (by omega)
  cases s with
  | none =>
    refine does_of_tree names (t54N_tree a o v 1 (a + o)) ?_
    have nx := y_none (a := a + o) (bytesOf_ok 4 v) (by rw [hl]; omega) hv 1 (bytesOf v 4).length 0 (by omega)
    rw [hl] at nx
    simp only [t54NTree, Tree.ok, hk]
    refine ⟨trivial, fun h => absurd (by simpa using h) hT, fun _ => nx⟩
  | some l =>
    refine does_of_tree names (t54S_tree a o v 1 (a + o) (encB l)) ?_
    have nx := y_some3 (a := a + o) (bytesOf_ok 4 v) (by rw [hl]; omega) hv 1 (bytesOf v 4).length 0 l (by omega) hs
    rw [hl] at nx
    rw [putP_some]
    simp only [t54STree, Tree.ok, hk]
    refine ⟨trivial, fun h => absurd (by simpa using h) hT, fun _ => nx⟩

theorem store59_does {s : Pg} (hs : okP s) {a o v : Nat} (ha : a + o + 2 ≤ 65536) : Does Try.prog env 7 (sA' 59 a o v) (stM 1 s) (sI .i64 0) (stM 1 (putP s (a + o) (bytesOf v 2))) := by
  have hl := bytesOf_len 2 v
  have hT : ¬ ¬ IntKind.u64.wrap (((a + o : Nat) : Int) + 2) ≤ IntKind.u64.wrap (IntKind.u64.wrap 1 * 65536) := by
    rw [wU64, wU64, wU64]; omega
  have hk := u64add (a := a) (i := o) (by omega)
  have hv := bytesOf_at v 2 (by omega)
  cases s with
  | none =>
    refine does_of_tree names (t59N_tree a o v 1 (a + o)) ?_
    have nx := y_none (a := a + o) (bytesOf_ok 2 v) (by rw [hl]; omega) hv 1 (bytesOf v 2).length 0 (by omega)
    rw [hl] at nx
    simp only [t59NTree, Tree.ok, hk]
    refine ⟨trivial, fun h => absurd (by simpa using h) hT, fun _ => nx⟩
  | some l =>
    refine does_of_tree names (t59S_tree a o v 1 (a + o) (encB l)) ?_
    have nx := y_some3 (a := a + o) (bytesOf_ok 2 v) (by rw [hl]; omega) hv 1 (bytesOf v 2).length 0 l (by omega) hs
    rw [hl] at nx
    rw [putP_some]
    simp only [t59STree, Tree.ok, hk]
    refine ⟨trivial, fun h => absurd (by simpa using h) hT, fun _ => nx⟩

theorem store58_does {s : Pg} (hs : okP s) {a o v : Nat} (ha : a + o + 1 ≤ 65536) : Does Try.prog env 7 (sA' 58 a o v) (stM 1 s) (sI .i64 0) (stM 1 (putP s (a + o) (bytesOf v 1))) := by
  have hl := bytesOf_len 1 v
  have hT : ¬ ¬ IntKind.u64.wrap (((a + o : Nat) : Int) + 1) ≤ IntKind.u64.wrap (IntKind.u64.wrap 1 * 65536) := by
    rw [wU64, wU64, wU64]; omega
  have hk := u64add (a := a) (i := o) (by omega)
  have hv := bytesOf_at v 1 (by omega)
  cases s with
  | none =>
    refine does_of_tree names (t58N_tree a o v 1 (a + o)) ?_
    have nx := y_none (a := a + o) (bytesOf_ok 1 v) (by rw [hl]; omega) hv 1 (bytesOf v 1).length 0 (by omega)
    rw [hl] at nx
    simp only [t58NTree, Tree.ok, hk]
    refine ⟨trivial, fun h => absurd (by simpa using h) hT, fun _ => nx⟩
  | some l =>
    refine does_of_tree names (t58S_tree a o v 1 (a + o) (encB l)) ?_
    have nx := y_some3 (a := a + o) (bytesOf_ok 1 v) (by rw [hl]; omega) hv 1 (bytesOf v 1).length 0 l (by omega) hs
    rw [hl] at nx
    rw [putP_some]
    simp only [t58STree, Tree.ok, hk]
    refine ⟨trivial, fun h => absurd (by simpa using h) hT, fun _ => nx⟩

end Go.Proofs.Ytiacpconafalhaa.N
