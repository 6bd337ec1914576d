/-
  MemoryKeeps: the law's trees, and what is kept.
-/
import Derived.Test.YtiacpconafalhaaMkD
set_option linter.unusedVariables false
set_option linter.unusedSimpArgs false
namespace Go.Proofs.Ytiacpconafalhaa.N
open Go Go.Am

def kS (a o e : Nat) (b : List Int) : FuncId → Nat → Nat → Option (AV → AV) := shapeAt [(3, 8, 4, sI .u64 (a + o : Nat)), (3, 11, 2, sI .u32 e), (3, 23, 4, sI .u32 b.length), (3, 27, 4, sI .u32 b.length)]
def kC (sc : Nat) (b : List Int) (W : List PV → List PV) (T : Int → List PV → List PV) (V : Int → List PV → Int) (R : List PV → List PV) (W0 : List PV) (f : FuncId) (args : List AV) (m : Mem) : Option (AV × Mem) :=
  cond (Nat.beq f 4) (some (sB true, [])) (cond (Nat.beq f 5) (some (.mp 0 0, mN 1)) (cond (Nat.beq f 6) (match m with
    | [_, _, .pc c] => some (sI .i64 0, mS 1 (W c))
    | _ => cond (Nat.beq sc 0) (some (sI .i64 0, mS 1 W0)) (some (sI .i64 0, mN 1))) (cond (Nat.beq f 7) (match args, m with
    | _ :: .p (.sc (.int _ op)) :: _, [_, _, .pc c] => some (sI .i64 0, mS 1 (T op c))
    | _, _ => cond (Nat.beq sc 1) (some (sI .i64 0, mS 1 W0)) (some (sI .i64 0, mN 1))) (cond (Nat.beq f 8) (match args, m with
    | _ :: .p (.sc (.int _ op)) :: _, [_, _, .pc c] => some (.tup [sI .u32 (V op c), sI .i64 0], m)
    | _, _ => some (.tup [sI .u32 0, sI .i64 0], m)) (cond (Nat.beq f 10) (match m with
    | [_, _, .pc c] => some (.tup [.p (.ps b.length 1 (R c)), sI .i64 0], m)
    | _ => some (.tup [.p (.ps b.length 1 W0), sI .i64 0], m)) none)))))
def kL (f : FuncId) (_ : List AV) (m : Mem) : Option (AV × Mem) := cond (Nat.beq f 11) (some (sB true, m)) (cond (Nat.beq f 12) (some (sI .u32 2, m)) none)
def kA (a o v _e : Nat) (b : List Int) (_W : List PV → List PV) (_T : Int → List PV → List PV) (_V : Int → List PV → Int) (_R : List PV → List PV) (_W0 : List PV) : List AV := [sI .u32 a, sI .u32 o, sI .u32 v, aB b]
def kaS (a o v e : Nat) (b : List Int) (W : List PV → List PV) (T : Int → List PV → List PV) (V : Int → List PV → Int) (R : List PV → List PV) (W0 : List PV) := kS a o e b
def ka0 (a o v e : Nat) (b : List Int) (W : List PV → List PV) (T : Int → List PV → List PV) (V : Int → List PV → Int) (R : List PV → List PV) (W0 : List PV) := kC 0 b W T V R W0
def ka1 (a o v e : Nat) (b : List Int) (W : List PV → List PV) (T : Int → List PV → List PV) (V : Int → List PV → Int) (R : List PV → List PV) (W0 : List PV) := kC 1 b W T V R W0
def ka2 (a o v e : Nat) (b : List Int) (W : List PV → List PV) (T : Int → List PV → List PV) (V : Int → List PV → Int) (R : List PV → List PV) (W0 : List PV) := kC 2 b W T V R W0

/- la: 769 steps -/
noncomputable def laOrc (a : Nat) (o : Nat) (v : Nat) (e : Nat) (b : List Int) (W : List PV → List PV) (T : Int → List PV → List PV) (V : Int → List PV → Int) (R : List PV → List PV) (W0 : List PV) : Orc := orcS (ka0 a o v e b W T V R W0) kL [] [(3, 6, 4), (3, 0, 1), (3, 9, 3), (3, 0, 2)] [(3, 0, 6), (3, 0, 7)] (kaS a o v e b W T V R W0)
def laSc : Sc := (.fork (.lit .fin) (.fork .fin (.fork (.lit .fin) .fin)))
noncomputable def laTree (a : Nat) (o : Nat) (v : Nat) (e : Nat) (b : List Int) (W : List PV → List PV) (T : Int → List PV → List PV) (V : Int → List PV → Int) (R : List PV → List PV) (W0 : List PV) : Tree :=
  (.call ⟨4, [], [], AV.p (PV.sc (Value.bool true)), []⟩
   (.call ⟨5, [], [], AV.mp 0 0, [Blk.ac [AV.vm 1, AV.p (PV.sc (Value.int IntKind.u32 1)), AV.p (PV.sc (Value.int IntKind.u32 2))], Blk.ob (ObK.map [] [] 0) []]⟩
    (.test (decide ((↑b.length : Int) < 12))
     (.out (Out.ret (AV.p (PV.sc (Value.bool true))) []))
     (.test (decide ((↑b.length : Int) > 100))
      (.out (Out.ret (AV.p (PV.sc (Value.bool true))) []))
      (.need (AV.p (PV.sc (Value.int IntKind.u64 (IntKind.u64.wrap (IntKind.u64.wrap (↑a : Int) + IntKind.u64.wrap (↑o : Int))))) = sI IntKind.u64 (↑(a + o) : Int))
       (.test (decide ((↑(a + o) : Int) < 4))
        (.out (Out.ret (AV.p (PV.sc (Value.bool true))) []))
        (.test (decide (IntKind.u64.wrap (IntKind.u64.wrap ((↑(a + o) : Int) + IntKind.u64.wrap (↑b.length : Int)) - 4) > 65536))
         (.out (Out.ret (AV.p (PV.sc (Value.bool true))) []))
         (.need (AV.p (PV.sc (Value.int IntKind.u32 (IntKind.u32.wrap (IntKind.u64.wrap ((↑(a + o) : Int) - 4))))) = sI IntKind.u32 (↑e : Int))
          (.call ⟨6, [AV.mp 0 0, AV.p (PV.sc (Value.int IntKind.u32 (↑e : Int))), AV.p (PV.ps b.length 1 (encB b))], [Blk.ac [AV.vm 1, AV.p (PV.sc (Value.int IntKind.u32 1)), AV.p (PV.sc (Value.int IntKind.u32 2))], Blk.ob (ObK.map [] [] 0) []], AV.p (PV.sc (Value.int IntKind.i64 0)), [Blk.ac [AV.vm 1, AV.p (PV.sc (Value.int IntKind.u32 1)), AV.p (PV.sc (Value.int IntKind.u32 2))], Blk.ob (ObK.map [Value.int IntKind.u32 0] [0] 1) [AV.mp 2 0], Blk.pc W0]⟩
           (.call ⟨7, [AV.mp 0 0, AV.p (PV.sc (Value.int IntKind.i64 54)), AV.p (PV.sc (Value.int IntKind.u32 (↑a : Int))), AV.p (PV.sc (Value.int IntKind.u32 (↑o : Int))), AV.p (PV.sc (Value.int IntKind.u32 (↑v : Int)))], [Blk.ac [AV.vm 1, AV.p (PV.sc (Value.int IntKind.u32 1)), AV.p (PV.sc (Value.int IntKind.u32 2))], Blk.ob (ObK.map [Value.int IntKind.u32 0] [0] 1) [AV.mp 2 0], Blk.pc W0], AV.p (PV.sc (Value.int IntKind.i64 0)), [Blk.ac [AV.vm 1, AV.p (PV.sc (Value.int IntKind.u32 1)), AV.p (PV.sc (Value.int IntKind.u32 2))], Blk.ob (ObK.map [Value.int IntKind.u32 0] [0] 1) [AV.mp 2 0], Blk.pc (T 54 W0)]⟩
            (.call ⟨8, [AV.mp 0 0, AV.p (PV.sc (Value.int IntKind.i64 40)), AV.p (PV.sc (Value.int IntKind.u32 (↑a : Int))), AV.p (PV.sc (Value.int IntKind.u32 (↑o : Int)))], [Blk.ac [AV.vm 1, AV.p (PV.sc (Value.int IntKind.u32 1)), AV.p (PV.sc (Value.int IntKind.u32 2))], Blk.ob (ObK.map [Value.int IntKind.u32 0] [0] 1) [AV.mp 2 0], Blk.pc (T 54 W0)], AV.tup [AV.p (PV.sc (Value.int IntKind.u32 (V 40 (T 54 W0)))), AV.p (PV.sc (Value.int IntKind.i64 0))], [Blk.ac [AV.vm 1, AV.p (PV.sc (Value.int IntKind.u32 1)), AV.p (PV.sc (Value.int IntKind.u32 2))], Blk.ob (ObK.map [Value.int IntKind.u32 0] [0] 1) [AV.mp 2 0], Blk.pc (T 54 W0)]⟩
             (.need (AV.p (PV.sc (Value.int IntKind.u32 (IntKind.u32.wrap (↑b.length : Int)))) = sI IntKind.u32 (↑b.length : Int))
              (.call ⟨10, [AV.mp 0 0, AV.p (PV.sc (Value.int IntKind.u32 (↑e : Int))), AV.p (PV.sc (Value.int IntKind.u32 (↑b.length : Int)))], [Blk.ac [AV.vm 1, AV.p (PV.sc (Value.int IntKind.u32 1)), AV.p (PV.sc (Value.int IntKind.u32 2))], Blk.ob (ObK.map [Value.int IntKind.u32 0] [0] 1) [AV.mp 2 0], Blk.pc (T 54 W0)], AV.tup [AV.p (PV.ps b.length 1 (R (T 54 W0))), AV.p (PV.sc (Value.int IntKind.i64 0))], [Blk.ac [AV.vm 1, AV.p (PV.sc (Value.int IntKind.u32 1)), AV.p (PV.sc (Value.int IntKind.u32 2))], Blk.ob (ObK.map [Value.int IntKind.u32 0] [0] 1) [AV.mp 2 0], Blk.pc (T 54 W0)]⟩
               (.call ⟨11, [AV.p (PV.ps 4 1 (cut (R (T 54 W0)) (times Option.none 0 1) (times (Option.some (Operand.const (Value.int IntKind.i64 4))) 4 1))), AV.p (PV.ps 4 1 (cut (encB b) (times Option.none 0 1) (times (Option.some (Operand.const (Value.int IntKind.i64 4))) 4 1)))], [], AV.p (PV.sc (Value.bool true)), []⟩
               (.call ⟨11, [AV.p (PV.ps (b.length - 8) 1 (cut (R (T 54 W0)) (times (Option.some (Operand.tmp 143)) 8 1) (times Option.none b.length 1))), AV.p (PV.ps (b.length - 8) 1 (cut (encB b) (times (Option.some (Operand.tmp 147)) 8 1) (times Option.none b.length 1)))], [], AV.p (PV.sc (Value.bool true)), []⟩
               (.must (eqAV (AV.p (PV.sc (Value.bool (V 40 (T 54 W0) != IntKind.u32.wrap (↑(BitVec.ofInt 32 (↑v : Int) &&& BitVec.ofInt 32 4294967295).toNat : Int))))) (AV.p (PV.sc (Value.bool false))) && (Nat.ble 4 b.length && true && true && (Nat.ble 4 b.length && true && true && (Nat.ble 8 b.length && b.length.ble b.length && true && true && (Nat.ble 8 b.length && b.length.ble b.length && true && true && true)))) && true)
                (.call ⟨6, [AV.mp 0 0, AV.p (PV.sc (Value.int IntKind.u32 (↑e : Int))), AV.p (PV.ps b.length 1 (encB b))], [Blk.ac [AV.vm 1, AV.p (PV.sc (Value.int IntKind.u32 1)), AV.p (PV.sc (Value.int IntKind.u32 2))], Blk.ob (ObK.map [Value.int IntKind.u32 0] [0] 1) [AV.mp 2 0], Blk.pc (T 54 W0)], AV.p (PV.sc (Value.int IntKind.i64 0)), [Blk.ac [AV.vm 1, AV.p (PV.sc (Value.int IntKind.u32 1)), AV.p (PV.sc (Value.int IntKind.u32 2))], Blk.ob (ObK.map [Value.int IntKind.u32 0] [0] 1) [AV.mp 2 0], Blk.pc (W (T 54 W0))]⟩
                 (.call ⟨7, [AV.mp 0 0, AV.p (PV.sc (Value.int IntKind.i64 59)), AV.p (PV.sc (Value.int IntKind.u32 (↑a : Int))), AV.p (PV.sc (Value.int IntKind.u32 (↑o : Int))), AV.p (PV.sc (Value.int IntKind.u32 (↑v : Int)))], [Blk.ac [AV.vm 1, AV.p (PV.sc (Value.int IntKind.u32 1)), AV.p (PV.sc (Value.int IntKind.u32 2))], Blk.ob (ObK.map [Value.int IntKind.u32 0] [0] 1) [AV.mp 2 0], Blk.pc (W (T 54 W0))], AV.p (PV.sc (Value.int IntKind.i64 0)), [Blk.ac [AV.vm 1, AV.p (PV.sc (Value.int IntKind.u32 1)), AV.p (PV.sc (Value.int IntKind.u32 2))], Blk.ob (ObK.map [Value.int IntKind.u32 0] [0] 1) [AV.mp 2 0], Blk.pc (T 59 (W (T 54 W0)))]⟩
                  (.call ⟨8, [AV.mp 0 0, AV.p (PV.sc (Value.int IntKind.i64 47)), AV.p (PV.sc (Value.int IntKind.u32 (↑a : Int))), AV.p (PV.sc (Value.int IntKind.u32 (↑o : Int)))], [Blk.ac [AV.vm 1, AV.p (PV.sc (Value.int IntKind.u32 1)), AV.p (PV.sc (Value.int IntKind.u32 2))], Blk.ob (ObK.map [Value.int IntKind.u32 0] [0] 1) [AV.mp 2 0], Blk.pc (T 59 (W (T 54 W0)))], AV.tup [AV.p (PV.sc (Value.int IntKind.u32 (V 47 (T 59 (W (T 54 W0)))))), AV.p (PV.sc (Value.int IntKind.i64 0))], [Blk.ac [AV.vm 1, AV.p (PV.sc (Value.int IntKind.u32 1)), AV.p (PV.sc (Value.int IntKind.u32 2))], Blk.ob (ObK.map [Value.int IntKind.u32 0] [0] 1) [AV.mp 2 0], Blk.pc (T 59 (W (T 54 W0)))]⟩
                   (.need (AV.p (PV.sc (Value.int IntKind.u32 (IntKind.u32.wrap (↑b.length : Int)))) = sI IntKind.u32 (↑b.length : Int))
                    (.call ⟨10, [AV.mp 0 0, AV.p (PV.sc (Value.int IntKind.u32 (↑e : Int))), AV.p (PV.sc (Value.int IntKind.u32 (↑b.length : Int)))], [Blk.ac [AV.vm 1, AV.p (PV.sc (Value.int IntKind.u32 1)), AV.p (PV.sc (Value.int IntKind.u32 2))], Blk.ob (ObK.map [Value.int IntKind.u32 0] [0] 1) [AV.mp 2 0], Blk.pc (T 59 (W (T 54 W0)))], AV.tup [AV.p (PV.ps b.length 1 (R (T 59 (W (T 54 W0))))), AV.p (PV.sc (Value.int IntKind.i64 0))], [Blk.ac [AV.vm 1, AV.p (PV.sc (Value.int IntKind.u32 1)), AV.p (PV.sc (Value.int IntKind.u32 2))], Blk.ob (ObK.map [Value.int IntKind.u32 0] [0] 1) [AV.mp 2 0], Blk.pc (T 59 (W (T 54 W0)))]⟩
                     (.call ⟨11, [AV.p (PV.ps 4 1 (cut (R (T 59 (W (T 54 W0)))) (times Option.none 0 1) (times (Option.some (Operand.const (Value.int IntKind.i64 4))) 4 1))), AV.p (PV.ps 4 1 (cut (encB b) (times Option.none 0 1) (times (Option.some (Operand.const (Value.int IntKind.i64 4))) 4 1)))], [], AV.p (PV.sc (Value.bool true)), []⟩
                     (.call ⟨11, [AV.p (PV.ps (b.length - 6) 1 (cut (R (T 59 (W (T 54 W0)))) (times (Option.some (Operand.tmp 143)) 6 1) (times Option.none b.length 1))), AV.p (PV.ps (b.length - 6) 1 (cut (encB b) (times (Option.some (Operand.tmp 147)) 6 1) (times Option.none b.length 1)))], [], AV.p (PV.sc (Value.bool true)), []⟩
                     (.must (eqAV (AV.p (PV.sc (Value.bool (V 47 (T 59 (W (T 54 W0))) != IntKind.u32.wrap (↑(BitVec.ofInt 32 (↑v : Int) &&& BitVec.ofInt 32 65535).toNat : Int))))) (AV.p (PV.sc (Value.bool false))) && (Nat.ble 4 b.length && true && true && (Nat.ble 4 b.length && true && true && (Nat.ble 6 b.length && b.length.ble b.length && true && true && (Nat.ble 6 b.length && b.length.ble b.length && true && true && true)))) && true)
                      (.call ⟨6, [AV.mp 0 0, AV.p (PV.sc (Value.int IntKind.u32 (↑e : Int))), AV.p (PV.ps b.length 1 (encB b))], [Blk.ac [AV.vm 1, AV.p (PV.sc (Value.int IntKind.u32 1)), AV.p (PV.sc (Value.int IntKind.u32 2))], Blk.ob (ObK.map [Value.int IntKind.u32 0] [0] 1) [AV.mp 2 0], Blk.pc (T 59 (W (T 54 W0)))], AV.p (PV.sc (Value.int IntKind.i64 0)), [Blk.ac [AV.vm 1, AV.p (PV.sc (Value.int IntKind.u32 1)), AV.p (PV.sc (Value.int IntKind.u32 2))], Blk.ob (ObK.map [Value.int IntKind.u32 0] [0] 1) [AV.mp 2 0], Blk.pc (W (T 59 (W (T 54 W0))))]⟩
                       (.call ⟨7, [AV.mp 0 0, AV.p (PV.sc (Value.int IntKind.i64 58)), AV.p (PV.sc (Value.int IntKind.u32 (↑a : Int))), AV.p (PV.sc (Value.int IntKind.u32 (↑o : Int))), AV.p (PV.sc (Value.int IntKind.u32 (↑v : Int)))], [Blk.ac [AV.vm 1, AV.p (PV.sc (Value.int IntKind.u32 1)), AV.p (PV.sc (Value.int IntKind.u32 2))], Blk.ob (ObK.map [Value.int IntKind.u32 0] [0] 1) [AV.mp 2 0], Blk.pc (W (T 59 (W (T 54 W0))))], AV.p (PV.sc (Value.int IntKind.i64 0)), [Blk.ac [AV.vm 1, AV.p (PV.sc (Value.int IntKind.u32 1)), AV.p (PV.sc (Value.int IntKind.u32 2))], Blk.ob (ObK.map [Value.int IntKind.u32 0] [0] 1) [AV.mp 2 0], Blk.pc (T 58 (W (T 59 (W (T 54 W0)))))]⟩
                        (.call ⟨8, [AV.mp 0 0, AV.p (PV.sc (Value.int IntKind.i64 45)), AV.p (PV.sc (Value.int IntKind.u32 (↑a : Int))), AV.p (PV.sc (Value.int IntKind.u32 (↑o : Int)))], [Blk.ac [AV.vm 1, AV.p (PV.sc (Value.int IntKind.u32 1)), AV.p (PV.sc (Value.int IntKind.u32 2))], Blk.ob (ObK.map [Value.int IntKind.u32 0] [0] 1) [AV.mp 2 0], Blk.pc (T 58 (W (T 59 (W (T 54 W0)))))], AV.tup [AV.p (PV.sc (Value.int IntKind.u32 (V 45 (T 58 (W (T 59 (W (T 54 W0)))))))), AV.p (PV.sc (Value.int IntKind.i64 0))], [Blk.ac [AV.vm 1, AV.p (PV.sc (Value.int IntKind.u32 1)), AV.p (PV.sc (Value.int IntKind.u32 2))], Blk.ob (ObK.map [Value.int IntKind.u32 0] [0] 1) [AV.mp 2 0], Blk.pc (T 58 (W (T 59 (W (T 54 W0)))))]⟩
                         (.need (AV.p (PV.sc (Value.int IntKind.u32 (IntKind.u32.wrap (↑b.length : Int)))) = sI IntKind.u32 (↑b.length : Int))
                          (.call ⟨10, [AV.mp 0 0, AV.p (PV.sc (Value.int IntKind.u32 (↑e : Int))), AV.p (PV.sc (Value.int IntKind.u32 (↑b.length : Int)))], [Blk.ac [AV.vm 1, AV.p (PV.sc (Value.int IntKind.u32 1)), AV.p (PV.sc (Value.int IntKind.u32 2))], Blk.ob (ObK.map [Value.int IntKind.u32 0] [0] 1) [AV.mp 2 0], Blk.pc (T 58 (W (T 59 (W (T 54 W0)))))], AV.tup [AV.p (PV.ps b.length 1 (R (T 58 (W (T 59 (W (T 54 W0))))))), AV.p (PV.sc (Value.int IntKind.i64 0))], [Blk.ac [AV.vm 1, AV.p (PV.sc (Value.int IntKind.u32 1)), AV.p (PV.sc (Value.int IntKind.u32 2))], Blk.ob (ObK.map [Value.int IntKind.u32 0] [0] 1) [AV.mp 2 0], Blk.pc (T 58 (W (T 59 (W (T 54 W0)))))]⟩
                           (.call ⟨11, [AV.p (PV.ps 4 1 (cut (R (T 58 (W (T 59 (W (T 54 W0)))))) (times Option.none 0 1) (times (Option.some (Operand.const (Value.int IntKind.i64 4))) 4 1))), AV.p (PV.ps 4 1 (cut (encB b) (times Option.none 0 1) (times (Option.some (Operand.const (Value.int IntKind.i64 4))) 4 1)))], [], AV.p (PV.sc (Value.bool true)), []⟩
                           (.call ⟨11, [AV.p (PV.ps (b.length - 5) 1 (cut (R (T 58 (W (T 59 (W (T 54 W0)))))) (times (Option.some (Operand.tmp 143)) 5 1) (times Option.none b.length 1))), AV.p (PV.ps (b.length - 5) 1 (cut (encB b) (times (Option.some (Operand.tmp 147)) 5 1) (times Option.none b.length 1)))], [], AV.p (PV.sc (Value.bool true)), []⟩
                           (.must (eqAV (AV.p (PV.sc (Value.bool (V 45 (T 58 (W (T 59 (W (T 54 W0))))) != IntKind.u32.wrap (↑(BitVec.ofInt 32 (↑v : Int) &&& BitVec.ofInt 32 255).toNat : Int))))) (AV.p (PV.sc (Value.bool false))) && (Nat.ble 4 b.length && true && true && (Nat.ble 4 b.length && true && true && (Nat.ble 5 b.length && b.length.ble b.length && true && true && (Nat.ble 5 b.length && b.length.ble b.length && true && true && true)))) && true)
                            (.need (AV.p (PV.sc (Value.int IntKind.u32 (IntKind.u32.wrap (↑b.length : Int)))) = sI IntKind.u32 (↑b.length : Int))
                             (.call ⟨10, [AV.mp 0 0, AV.p (PV.sc (Value.int IntKind.u32 (↑e : Int))), AV.p (PV.sc (Value.int IntKind.u32 (↑b.length : Int)))], [Blk.ac [AV.vm 1, AV.p (PV.sc (Value.int IntKind.u32 2)), AV.p (PV.sc (Value.int IntKind.u32 2))], Blk.ob (ObK.map [Value.int IntKind.u32 0] [0] 1) [AV.mp 2 0], Blk.pc (T 58 (W (T 59 (W (T 54 W0)))))], AV.tup [AV.p (PV.ps b.length 1 (R (T 58 (W (T 59 (W (T 54 W0))))))), AV.p (PV.sc (Value.int IntKind.i64 0))], [Blk.ac [AV.vm 1, AV.p (PV.sc (Value.int IntKind.u32 2)), AV.p (PV.sc (Value.int IntKind.u32 2))], Blk.ob (ObK.map [Value.int IntKind.u32 0] [0] 1) [AV.mp 2 0], Blk.pc (T 58 (W (T 59 (W (T 54 W0)))))]⟩
                              (.call ⟨11, [AV.p (PV.ps 4 1 (cut (R (T 58 (W (T 59 (W (T 54 W0)))))) (times Option.none 0 1) (times (Option.some (Operand.const (Value.int IntKind.i64 4))) 4 1))), AV.p (PV.ps 4 1 (cut (encB b) (times Option.none 0 1) (times (Option.some (Operand.const (Value.int IntKind.i64 4))) 4 1)))], [], AV.p (PV.sc (Value.bool true)), []⟩
                              (.call ⟨12, [AV.mp 0 0], [Blk.ac [AV.vm 1, AV.p (PV.sc (Value.int IntKind.u32 2)), AV.p (PV.sc (Value.int IntKind.u32 2))], Blk.ob (ObK.map [Value.int IntKind.u32 0] [0] 1) [AV.mp 2 0], Blk.pc (T 58 (W (T 59 (W (T 54 W0)))))], AV.p (PV.sc (Value.int IntKind.u32 2)), [Blk.ac [AV.vm 1, AV.p (PV.sc (Value.int IntKind.u32 2)), AV.p (PV.sc (Value.int IntKind.u32 2))], Blk.ob (ObK.map [Value.int IntKind.u32 0] [0] 1) [AV.mp 2 0], Blk.pc (T 58 (W (T 59 (W (T 54 W0)))))]⟩
                              (.must (Nat.ble 4 b.length && true && true && (Nat.ble 4 b.length && true && true && true) && true)
                               (.must true
                                (.out (Out.ret (AV.p (PV.sc (Value.bool true))) []))))))))))))))))))))))))))))))))))))))))
theorem la_tree (a : Nat) (o : Nat) (v : Nat) (e : Nat) (b : List Int) (W : List PV → List PV) (T : Int → List PV → List PV) (V : Int → List PV → Int) (R : List PV → List PV) (W0 : List PV) : growF Try.prog env (laOrc a o v e b W T V R W0) 1000000 3 ([sI IntKind.u32 (↑a : Int), sI IntKind.u32 (↑o : Int), sI IntKind.u32 (↑v : Int), aB b]) ([]) laSc = laTree a o v e b W T V R W0 := by kernel_rfl

/- lb: 769 steps -/
noncomputable def lbOrc (a : Nat) (o : Nat) (v : Nat) (e : Nat) (b : List Int) (W : List PV → List PV) (T : Int → List PV → List PV) (V : Int → List PV → Int) (R : List PV → List PV) (W0 : List PV) : Orc := orcS (ka1 a o v e b W T V R W0) kL [] [(3, 6, 4), (3, 0, 1), (3, 9, 3), (3, 0, 2)] [(3, 0, 6), (3, 0, 7)] (kaS a o v e b W T V R W0)
def lbSc : Sc := (.fork (.lit .fin) (.fork .fin (.fork (.lit .fin) .fin)))
noncomputable def lbTree (a : Nat) (o : Nat) (v : Nat) (e : Nat) (b : List Int) (W : List PV → List PV) (T : Int → List PV → List PV) (V : Int → List PV → Int) (R : List PV → List PV) (W0 : List PV) : Tree :=
  (.call ⟨4, [], [], AV.p (PV.sc (Value.bool true)), []⟩
   (.call ⟨5, [], [], AV.mp 0 0, [Blk.ac [AV.vm 1, AV.p (PV.sc (Value.int IntKind.u32 1)), AV.p (PV.sc (Value.int IntKind.u32 2))], Blk.ob (ObK.map [] [] 0) []]⟩
    (.test (decide ((↑b.length : Int) < 12))
     (.out (Out.ret (AV.p (PV.sc (Value.bool true))) []))
     (.test (decide ((↑b.length : Int) > 100))
      (.out (Out.ret (AV.p (PV.sc (Value.bool true))) []))
      (.need (AV.p (PV.sc (Value.int IntKind.u64 (IntKind.u64.wrap (IntKind.u64.wrap (↑a : Int) + IntKind.u64.wrap (↑o : Int))))) = sI IntKind.u64 (↑(a + o) : Int))
       (.test (decide ((↑(a + o) : Int) < 4))
        (.out (Out.ret (AV.p (PV.sc (Value.bool true))) []))
        (.test (decide (IntKind.u64.wrap (IntKind.u64.wrap ((↑(a + o) : Int) + IntKind.u64.wrap (↑b.length : Int)) - 4) > 65536))
         (.out (Out.ret (AV.p (PV.sc (Value.bool true))) []))
         (.need (AV.p (PV.sc (Value.int IntKind.u32 (IntKind.u32.wrap (IntKind.u64.wrap ((↑(a + o) : Int) - 4))))) = sI IntKind.u32 (↑e : Int))
          (.call ⟨6, [AV.mp 0 0, AV.p (PV.sc (Value.int IntKind.u32 (↑e : Int))), AV.p (PV.ps b.length 1 (encB b))], [Blk.ac [AV.vm 1, AV.p (PV.sc (Value.int IntKind.u32 1)), AV.p (PV.sc (Value.int IntKind.u32 2))], Blk.ob (ObK.map [] [] 0) []], AV.p (PV.sc (Value.int IntKind.i64 0)), [Blk.ac [AV.vm 1, AV.p (PV.sc (Value.int IntKind.u32 1)), AV.p (PV.sc (Value.int IntKind.u32 2))], Blk.ob (ObK.map [] [] 0) []]⟩
           (.call ⟨7, [AV.mp 0 0, AV.p (PV.sc (Value.int IntKind.i64 54)), AV.p (PV.sc (Value.int IntKind.u32 (↑a : Int))), AV.p (PV.sc (Value.int IntKind.u32 (↑o : Int))), AV.p (PV.sc (Value.int IntKind.u32 (↑v : Int)))], [Blk.ac [AV.vm 1, AV.p (PV.sc (Value.int IntKind.u32 1)), AV.p (PV.sc (Value.int IntKind.u32 2))], Blk.ob (ObK.map [] [] 0) []], AV.p (PV.sc (Value.int IntKind.i64 0)), [Blk.ac [AV.vm 1, AV.p (PV.sc (Value.int IntKind.u32 1)), AV.p (PV.sc (Value.int IntKind.u32 2))], Blk.ob (ObK.map [Value.int IntKind.u32 0] [0] 1) [AV.mp 2 0], Blk.pc W0]⟩
            (.call ⟨8, [AV.mp 0 0, AV.p (PV.sc (Value.int IntKind.i64 40)), AV.p (PV.sc (Value.int IntKind.u32 (↑a : Int))), AV.p (PV.sc (Value.int IntKind.u32 (↑o : Int)))], [Blk.ac [AV.vm 1, AV.p (PV.sc (Value.int IntKind.u32 1)), AV.p (PV.sc (Value.int IntKind.u32 2))], Blk.ob (ObK.map [Value.int IntKind.u32 0] [0] 1) [AV.mp 2 0], Blk.pc W0], AV.tup [AV.p (PV.sc (Value.int IntKind.u32 (V 40 W0))), AV.p (PV.sc (Value.int IntKind.i64 0))], [Blk.ac [AV.vm 1, AV.p (PV.sc (Value.int IntKind.u32 1)), AV.p (PV.sc (Value.int IntKind.u32 2))], Blk.ob (ObK.map [Value.int IntKind.u32 0] [0] 1) [AV.mp 2 0], Blk.pc W0]⟩
             (.need (AV.p (PV.sc (Value.int IntKind.u32 (IntKind.u32.wrap (↑b.length : Int)))) = sI IntKind.u32 (↑b.length : Int))
              (.call ⟨10, [AV.mp 0 0, AV.p (PV.sc (Value.int IntKind.u32 (↑e : Int))), AV.p (PV.sc (Value.int IntKind.u32 (↑b.length : Int)))], [Blk.ac [AV.vm 1, AV.p (PV.sc (Value.int IntKind.u32 1)), AV.p (PV.sc (Value.int IntKind.u32 2))], Blk.ob (ObK.map [Value.int IntKind.u32 0] [0] 1) [AV.mp 2 0], Blk.pc W0], AV.tup [AV.p (PV.ps b.length 1 (R W0)), AV.p (PV.sc (Value.int IntKind.i64 0))], [Blk.ac [AV.vm 1, AV.p (PV.sc (Value.int IntKind.u32 1)), AV.p (PV.sc (Value.int IntKind.u32 2))], Blk.ob (ObK.map [Value.int IntKind.u32 0] [0] 1) [AV.mp 2 0], Blk.pc W0]⟩
               (.call ⟨11, [AV.p (PV.ps 4 1 (cut (R W0) (times Option.none 0 1) (times (Option.some (Operand.const (Value.int IntKind.i64 4))) 4 1))), AV.p (PV.ps 4 1 (cut (encB b) (times Option.none 0 1) (times (Option.some (Operand.const (Value.int IntKind.i64 4))) 4 1)))], [], AV.p (PV.sc (Value.bool true)), []⟩
               (.call ⟨11, [AV.p (PV.ps (b.length - 8) 1 (cut (R W0) (times (Option.some (Operand.tmp 143)) 8 1) (times Option.none b.length 1))), AV.p (PV.ps (b.length - 8) 1 (cut (encB b) (times (Option.some (Operand.tmp 147)) 8 1) (times Option.none b.length 1)))], [], AV.p (PV.sc (Value.bool true)), []⟩
               (.must (eqAV (AV.p (PV.sc (Value.bool (V 40 W0 != IntKind.u32.wrap (↑(BitVec.ofInt 32 (↑v : Int) &&& BitVec.ofInt 32 4294967295).toNat : Int))))) (AV.p (PV.sc (Value.bool false))) && (Nat.ble 4 b.length && true && true && (Nat.ble 4 b.length && true && true && (Nat.ble 8 b.length && b.length.ble b.length && true && true && (Nat.ble 8 b.length && b.length.ble b.length && true && true && true)))) && true)
                (.call ⟨6, [AV.mp 0 0, AV.p (PV.sc (Value.int IntKind.u32 (↑e : Int))), AV.p (PV.ps b.length 1 (encB b))], [Blk.ac [AV.vm 1, AV.p (PV.sc (Value.int IntKind.u32 1)), AV.p (PV.sc (Value.int IntKind.u32 2))], Blk.ob (ObK.map [Value.int IntKind.u32 0] [0] 1) [AV.mp 2 0], Blk.pc W0], AV.p (PV.sc (Value.int IntKind.i64 0)), [Blk.ac [AV.vm 1, AV.p (PV.sc (Value.int IntKind.u32 1)), AV.p (PV.sc (Value.int IntKind.u32 2))], Blk.ob (ObK.map [Value.int IntKind.u32 0] [0] 1) [AV.mp 2 0], Blk.pc (W W0)]⟩
                 (.call ⟨7, [AV.mp 0 0, AV.p (PV.sc (Value.int IntKind.i64 59)), AV.p (PV.sc (Value.int IntKind.u32 (↑a : Int))), AV.p (PV.sc (Value.int IntKind.u32 (↑o : Int))), AV.p (PV.sc (Value.int IntKind.u32 (↑v : Int)))], [Blk.ac [AV.vm 1, AV.p (PV.sc (Value.int IntKind.u32 1)), AV.p (PV.sc (Value.int IntKind.u32 2))], Blk.ob (ObK.map [Value.int IntKind.u32 0] [0] 1) [AV.mp 2 0], Blk.pc (W W0)], AV.p (PV.sc (Value.int IntKind.i64 0)), [Blk.ac [AV.vm 1, AV.p (PV.sc (Value.int IntKind.u32 1)), AV.p (PV.sc (Value.int IntKind.u32 2))], Blk.ob (ObK.map [Value.int IntKind.u32 0] [0] 1) [AV.mp 2 0], Blk.pc (T 59 (W W0))]⟩
                  (.call ⟨8, [AV.mp 0 0, AV.p (PV.sc (Value.int IntKind.i64 47)), AV.p (PV.sc (Value.int IntKind.u32 (↑a : Int))), AV.p (PV.sc (Value.int IntKind.u32 (↑o : Int)))], [Blk.ac [AV.vm 1, AV.p (PV.sc (Value.int IntKind.u32 1)), AV.p (PV.sc (Value.int IntKind.u32 2))], Blk.ob (ObK.map [Value.int IntKind.u32 0] [0] 1) [AV.mp 2 0], Blk.pc (T 59 (W W0))], AV.tup [AV.p (PV.sc (Value.int IntKind.u32 (V 47 (T 59 (W W0))))), AV.p (PV.sc (Value.int IntKind.i64 0))], [Blk.ac [AV.vm 1, AV.p (PV.sc (Value.int IntKind.u32 1)), AV.p (PV.sc (Value.int IntKind.u32 2))], Blk.ob (ObK.map [Value.int IntKind.u32 0] [0] 1) [AV.mp 2 0], Blk.pc (T 59 (W W0))]⟩
                   (.need (AV.p (PV.sc (Value.int IntKind.u32 (IntKind.u32.wrap (↑b.length : Int)))) = sI IntKind.u32 (↑b.length : Int))
                    (.call ⟨10, [AV.mp 0 0, AV.p (PV.sc (Value.int IntKind.u32 (↑e : Int))), AV.p (PV.sc (Value.int IntKind.u32 (↑b.length : Int)))], [Blk.ac [AV.vm 1, AV.p (PV.sc (Value.int IntKind.u32 1)), AV.p (PV.sc (Value.int IntKind.u32 2))], Blk.ob (ObK.map [Value.int IntKind.u32 0] [0] 1) [AV.mp 2 0], Blk.pc (T 59 (W W0))], AV.tup [AV.p (PV.ps b.length 1 (R (T 59 (W W0)))), AV.p (PV.sc (Value.int IntKind.i64 0))], [Blk.ac [AV.vm 1, AV.p (PV.sc (Value.int IntKind.u32 1)), AV.p (PV.sc (Value.int IntKind.u32 2))], Blk.ob (ObK.map [Value.int IntKind.u32 0] [0] 1) [AV.mp 2 0], Blk.pc (T 59 (W W0))]⟩
                     (.call ⟨11, [AV.p (PV.ps 4 1 (cut (R (T 59 (W W0))) (times Option.none 0 1) (times (Option.some (Operand.const (Value.int IntKind.i64 4))) 4 1))), AV.p (PV.ps 4 1 (cut (encB b) (times Option.none 0 1) (times (Option.some (Operand.const (Value.int IntKind.i64 4))) 4 1)))], [], AV.p (PV.sc (Value.bool true)), []⟩
                     (.call ⟨11, [AV.p (PV.ps (b.length - 6) 1 (cut (R (T 59 (W W0))) (times (Option.some (Operand.tmp 143)) 6 1) (times Option.none b.length 1))), AV.p (PV.ps (b.length - 6) 1 (cut (encB b) (times (Option.some (Operand.tmp 147)) 6 1) (times Option.none b.length 1)))], [], AV.p (PV.sc (Value.bool true)), []⟩
                     (.must (eqAV (AV.p (PV.sc (Value.bool (V 47 (T 59 (W W0)) != IntKind.u32.wrap (↑(BitVec.ofInt 32 (↑v : Int) &&& BitVec.ofInt 32 65535).toNat : Int))))) (AV.p (PV.sc (Value.bool false))) && (Nat.ble 4 b.length && true && true && (Nat.ble 4 b.length && true && true && (Nat.ble 6 b.length && b.length.ble b.length && true && true && (Nat.ble 6 b.length && b.length.ble b.length && true && true && true)))) && true)
                      (.call ⟨6, [AV.mp 0 0, AV.p (PV.sc (Value.int IntKind.u32 (↑e : Int))), AV.p (PV.ps b.length 1 (encB b))], [Blk.ac [AV.vm 1, AV.p (PV.sc (Value.int IntKind.u32 1)), AV.p (PV.sc (Value.int IntKind.u32 2))], Blk.ob (ObK.map [Value.int IntKind.u32 0] [0] 1) [AV.mp 2 0], Blk.pc (T 59 (W W0))], AV.p (PV.sc (Value.int IntKind.i64 0)), [Blk.ac [AV.vm 1, AV.p (PV.sc (Value.int IntKind.u32 1)), AV.p (PV.sc (Value.int IntKind.u32 2))], Blk.ob (ObK.map [Value.int IntKind.u32 0] [0] 1) [AV.mp 2 0], Blk.pc (W (T 59 (W W0)))]⟩
                       (.call ⟨7, [AV.mp 0 0, AV.p (PV.sc (Value.int IntKind.i64 58)), AV.p (PV.sc (Value.int IntKind.u32 (↑a : Int))), AV.p (PV.sc (Value.int IntKind.u32 (↑o : Int))), AV.p (PV.sc (Value.int IntKind.u32 (↑v : Int)))], [Blk.ac [AV.vm 1, AV.p (PV.sc (Value.int IntKind.u32 1)), AV.p (PV.sc (Value.int IntKind.u32 2))], Blk.ob (ObK.map [Value.int IntKind.u32 0] [0] 1) [AV.mp 2 0], Blk.pc (W (T 59 (W W0)))], AV.p (PV.sc (Value.int IntKind.i64 0)), [Blk.ac [AV.vm 1, AV.p (PV.sc (Value.int IntKind.u32 1)), AV.p (PV.sc (Value.int IntKind.u32 2))], Blk.ob (ObK.map [Value.int IntKind.u32 0] [0] 1) [AV.mp 2 0], Blk.pc (T 58 (W (T 59 (W W0))))]⟩
                        (.call ⟨8, [AV.mp 0 0, AV.p (PV.sc (Value.int IntKind.i64 45)), AV.p (PV.sc (Value.int IntKind.u32 (↑a : Int))), AV.p (PV.sc (Value.int IntKind.u32 (↑o : Int)))], [Blk.ac [AV.vm 1, AV.p (PV.sc (Value.int IntKind.u32 1)), AV.p (PV.sc (Value.int IntKind.u32 2))], Blk.ob (ObK.map [Value.int IntKind.u32 0] [0] 1) [AV.mp 2 0], Blk.pc (T 58 (W (T 59 (W W0))))], AV.tup [AV.p (PV.sc (Value.int IntKind.u32 (V 45 (T 58 (W (T 59 (W W0))))))), AV.p (PV.sc (Value.int IntKind.i64 0))], [Blk.ac [AV.vm 1, AV.p (PV.sc (Value.int IntKind.u32 1)), AV.p (PV.sc (Value.int IntKind.u32 2))], Blk.ob (ObK.map [Value.int IntKind.u32 0] [0] 1) [AV.mp 2 0], Blk.pc (T 58 (W (T 59 (W W0))))]⟩
                         (.need (AV.p (PV.sc (Value.int IntKind.u32 (IntKind.u32.wrap (↑b.length : Int)))) = sI IntKind.u32 (↑b.length : Int))
                          (.call ⟨10, [AV.mp 0 0, AV.p (PV.sc (Value.int IntKind.u32 (↑e : Int))), AV.p (PV.sc (Value.int IntKind.u32 (↑b.length : Int)))], [Blk.ac [AV.vm 1, AV.p (PV.sc (Value.int IntKind.u32 1)), AV.p (PV.sc (Value.int IntKind.u32 2))], Blk.ob (ObK.map [Value.int IntKind.u32 0] [0] 1) [AV.mp 2 0], Blk.pc (T 58 (W (T 59 (W W0))))], AV.tup [AV.p (PV.ps b.length 1 (R (T 58 (W (T 59 (W W0)))))), AV.p (PV.sc (Value.int IntKind.i64 0))], [Blk.ac [AV.vm 1, AV.p (PV.sc (Value.int IntKind.u32 1)), AV.p (PV.sc (Value.int IntKind.u32 2))], Blk.ob (ObK.map [Value.int IntKind.u32 0] [0] 1) [AV.mp 2 0], Blk.pc (T 58 (W (T 59 (W W0))))]⟩
                           (.call ⟨11, [AV.p (PV.ps 4 1 (cut (R (T 58 (W (T 59 (W W0))))) (times Option.none 0 1) (times (Option.some (Operand.const (Value.int IntKind.i64 4))) 4 1))), AV.p (PV.ps 4 1 (cut (encB b) (times Option.none 0 1) (times (Option.some (Operand.const (Value.int IntKind.i64 4))) 4 1)))], [], AV.p (PV.sc (Value.bool true)), []⟩
                           (.call ⟨11, [AV.p (PV.ps (b.length - 5) 1 (cut (R (T 58 (W (T 59 (W W0))))) (times (Option.some (Operand.tmp 143)) 5 1) (times Option.none b.length 1))), AV.p (PV.ps (b.length - 5) 1 (cut (encB b) (times (Option.some (Operand.tmp 147)) 5 1) (times Option.none b.length 1)))], [], AV.p (PV.sc (Value.bool true)), []⟩
                           (.must (eqAV (AV.p (PV.sc (Value.bool (V 45 (T 58 (W (T 59 (W W0)))) != IntKind.u32.wrap (↑(BitVec.ofInt 32 (↑v : Int) &&& BitVec.ofInt 32 255).toNat : Int))))) (AV.p (PV.sc (Value.bool false))) && (Nat.ble 4 b.length && true && true && (Nat.ble 4 b.length && true && true && (Nat.ble 5 b.length && b.length.ble b.length && true && true && (Nat.ble 5 b.length && b.length.ble b.length && true && true && true)))) && true)
                            (.need (AV.p (PV.sc (Value.int IntKind.u32 (IntKind.u32.wrap (↑b.length : Int)))) = sI IntKind.u32 (↑b.length : Int))
                             (.call ⟨10, [AV.mp 0 0, AV.p (PV.sc (Value.int IntKind.u32 (↑e : Int))), AV.p (PV.sc (Value.int IntKind.u32 (↑b.length : Int)))], [Blk.ac [AV.vm 1, AV.p (PV.sc (Value.int IntKind.u32 2)), AV.p (PV.sc (Value.int IntKind.u32 2))], Blk.ob (ObK.map [Value.int IntKind.u32 0] [0] 1) [AV.mp 2 0], Blk.pc (T 58 (W (T 59 (W W0))))], AV.tup [AV.p (PV.ps b.length 1 (R (T 58 (W (T 59 (W W0)))))), AV.p (PV.sc (Value.int IntKind.i64 0))], [Blk.ac [AV.vm 1, AV.p (PV.sc (Value.int IntKind.u32 2)), AV.p (PV.sc (Value.int IntKind.u32 2))], Blk.ob (ObK.map [Value.int IntKind.u32 0] [0] 1) [AV.mp 2 0], Blk.pc (T 58 (W (T 59 (W W0))))]⟩
                              (.call ⟨11, [AV.p (PV.ps 4 1 (cut (R (T 58 (W (T 59 (W W0))))) (times Option.none 0 1) (times (Option.some (Operand.const (Value.int IntKind.i64 4))) 4 1))), AV.p (PV.ps 4 1 (cut (encB b) (times Option.none 0 1) (times (Option.some (Operand.const (Value.int IntKind.i64 4))) 4 1)))], [], AV.p (PV.sc (Value.bool true)), []⟩
                              (.call ⟨12, [AV.mp 0 0], [Blk.ac [AV.vm 1, AV.p (PV.sc (Value.int IntKind.u32 2)), AV.p (PV.sc (Value.int IntKind.u32 2))], Blk.ob (ObK.map [Value.int IntKind.u32 0] [0] 1) [AV.mp 2 0], Blk.pc (T 58 (W (T 59 (W W0))))], AV.p (PV.sc (Value.int IntKind.u32 2)), [Blk.ac [AV.vm 1, AV.p (PV.sc (Value.int IntKind.u32 2)), AV.p (PV.sc (Value.int IntKind.u32 2))], Blk.ob (ObK.map [Value.int IntKind.u32 0] [0] 1) [AV.mp 2 0], Blk.pc (T 58 (W (T 59 (W W0))))]⟩
                              (.must (Nat.ble 4 b.length && true && true && (Nat.ble 4 b.length && true && true && true) && true)
                               (.must true
                                (.out (Out.ret (AV.p (PV.sc (Value.bool true))) []))))))))))))))))))))))))))))))))))))))))
theorem lb_tree (a : Nat) (o : Nat) (v : Nat) (e : Nat) (b : List Int) (W : List PV → List PV) (T : Int → List PV → List PV) (V : Int → List PV → Int) (R : List PV → List PV) (W0 : List PV) : growF Try.prog env (lbOrc a o v e b W T V R W0) 1000000 3 ([sI IntKind.u32 (↑a : Int), sI IntKind.u32 (↑o : Int), sI IntKind.u32 (↑v : Int), aB b]) ([]) lbSc = lbTree a o v e b W T V R W0 := by kernel_rfl

/- lc: 769 steps -/
noncomputable def lcOrc (a : Nat) (o : Nat) (v : Nat) (e : Nat) (b : List Int) (W : List PV → List PV) (T : Int → List PV → List PV) (V : Int → List PV → Int) (R : List PV → List PV) (W0 : List PV) : Orc := orcS (ka2 a o v e b W T V R W0) kL [] [(3, 6, 4), (3, 0, 1), (3, 9, 3), (3, 0, 2)] [(3, 0, 6), (3, 0, 7)] (kaS a o v e b W T V R W0)
def lcSc : Sc := (.fork (.lit .fin) (.fork .fin (.fork (.lit .fin) .fin)))
noncomputable def lcTree (a : Nat) (o : Nat) (v : Nat) (e : Nat) (b : List Int) (_W : List PV → List PV) (_T : Int → List PV → List PV) (_V : Int → List PV → Int) (_R : List PV → List PV) (W0 : List PV) : Tree :=
  (.call ⟨4, [], [], AV.p (PV.sc (Value.bool true)), []⟩
   (.call ⟨5, [], [], AV.mp 0 0, [Blk.ac [AV.vm 1, AV.p (PV.sc (Value.int IntKind.u32 1)), AV.p (PV.sc (Value.int IntKind.u32 2))], Blk.ob (ObK.map [] [] 0) []]⟩
    (.test (decide ((↑b.length : Int) < 12))
     (.out (Out.ret (AV.p (PV.sc (Value.bool true))) []))
     (.test (decide ((↑b.length : Int) > 100))
      (.out (Out.ret (AV.p (PV.sc (Value.bool true))) []))
      (.need (AV.p (PV.sc (Value.int IntKind.u64 (IntKind.u64.wrap (IntKind.u64.wrap (↑a : Int) + IntKind.u64.wrap (↑o : Int))))) = sI IntKind.u64 (↑(a + o) : Int))
       (.test (decide ((↑(a + o) : Int) < 4))
        (.out (Out.ret (AV.p (PV.sc (Value.bool true))) []))
        (.test (decide (IntKind.u64.wrap (IntKind.u64.wrap ((↑(a + o) : Int) + IntKind.u64.wrap (↑b.length : Int)) - 4) > 65536))
         (.out (Out.ret (AV.p (PV.sc (Value.bool true))) []))
         (.need (AV.p (PV.sc (Value.int IntKind.u32 (IntKind.u32.wrap (IntKind.u64.wrap ((↑(a + o) : Int) - 4))))) = sI IntKind.u32 (↑e : Int))
          (.call ⟨6, [AV.mp 0 0, AV.p (PV.sc (Value.int IntKind.u32 (↑e : Int))), AV.p (PV.ps b.length 1 (encB b))], [Blk.ac [AV.vm 1, AV.p (PV.sc (Value.int IntKind.u32 1)), AV.p (PV.sc (Value.int IntKind.u32 2))], Blk.ob (ObK.map [] [] 0) []], AV.p (PV.sc (Value.int IntKind.i64 0)), [Blk.ac [AV.vm 1, AV.p (PV.sc (Value.int IntKind.u32 1)), AV.p (PV.sc (Value.int IntKind.u32 2))], Blk.ob (ObK.map [] [] 0) []]⟩
           (.call ⟨7, [AV.mp 0 0, AV.p (PV.sc (Value.int IntKind.i64 54)), AV.p (PV.sc (Value.int IntKind.u32 (↑a : Int))), AV.p (PV.sc (Value.int IntKind.u32 (↑o : Int))), AV.p (PV.sc (Value.int IntKind.u32 (↑v : Int)))], [Blk.ac [AV.vm 1, AV.p (PV.sc (Value.int IntKind.u32 1)), AV.p (PV.sc (Value.int IntKind.u32 2))], Blk.ob (ObK.map [] [] 0) []], AV.p (PV.sc (Value.int IntKind.i64 0)), [Blk.ac [AV.vm 1, AV.p (PV.sc (Value.int IntKind.u32 1)), AV.p (PV.sc (Value.int IntKind.u32 2))], Blk.ob (ObK.map [] [] 0) []]⟩
            (.call ⟨8, [AV.mp 0 0, AV.p (PV.sc (Value.int IntKind.i64 40)), AV.p (PV.sc (Value.int IntKind.u32 (↑a : Int))), AV.p (PV.sc (Value.int IntKind.u32 (↑o : Int)))], [Blk.ac [AV.vm 1, AV.p (PV.sc (Value.int IntKind.u32 1)), AV.p (PV.sc (Value.int IntKind.u32 2))], Blk.ob (ObK.map [] [] 0) []], AV.tup [AV.p (PV.sc (Value.int IntKind.u32 0)), AV.p (PV.sc (Value.int IntKind.i64 0))], [Blk.ac [AV.vm 1, AV.p (PV.sc (Value.int IntKind.u32 1)), AV.p (PV.sc (Value.int IntKind.u32 2))], Blk.ob (ObK.map [] [] 0) []]⟩
             (.need (AV.p (PV.sc (Value.int IntKind.u32 (IntKind.u32.wrap (↑b.length : Int)))) = sI IntKind.u32 (↑b.length : Int))
              (.call ⟨10, [AV.mp 0 0, AV.p (PV.sc (Value.int IntKind.u32 (↑e : Int))), AV.p (PV.sc (Value.int IntKind.u32 (↑b.length : Int)))], [Blk.ac [AV.vm 1, AV.p (PV.sc (Value.int IntKind.u32 1)), AV.p (PV.sc (Value.int IntKind.u32 2))], Blk.ob (ObK.map [] [] 0) []], AV.tup [AV.p (PV.ps b.length 1 W0), AV.p (PV.sc (Value.int IntKind.i64 0))], [Blk.ac [AV.vm 1, AV.p (PV.sc (Value.int IntKind.u32 1)), AV.p (PV.sc (Value.int IntKind.u32 2))], Blk.ob (ObK.map [] [] 0) []]⟩
               (.call ⟨11, [AV.p (PV.ps 4 1 (cut W0 (times Option.none 0 1) (times (Option.some (Operand.const (Value.int IntKind.i64 4))) 4 1))), AV.p (PV.ps 4 1 (cut (encB b) (times Option.none 0 1) (times (Option.some (Operand.const (Value.int IntKind.i64 4))) 4 1)))], [], AV.p (PV.sc (Value.bool true)), []⟩
               (.call ⟨11, [AV.p (PV.ps (b.length - 8) 1 (cut W0 (times (Option.some (Operand.tmp 143)) 8 1) (times Option.none b.length 1))), AV.p (PV.ps (b.length - 8) 1 (cut (encB b) (times (Option.some (Operand.tmp 147)) 8 1) (times Option.none b.length 1)))], [], AV.p (PV.sc (Value.bool true)), []⟩
               (.must (eqAV (AV.p (PV.sc (Value.bool (0 != IntKind.u32.wrap (↑(BitVec.ofInt 32 (↑v : Int) &&& BitVec.ofInt 32 4294967295).toNat : Int))))) (AV.p (PV.sc (Value.bool false))) && (Nat.ble 4 b.length && true && true && (Nat.ble 4 b.length && true && true && (Nat.ble 8 b.length && b.length.ble b.length && true && true && (Nat.ble 8 b.length && b.length.ble b.length && true && true && true)))) && true)
                (.call ⟨6, [AV.mp 0 0, AV.p (PV.sc (Value.int IntKind.u32 (↑e : Int))), AV.p (PV.ps b.length 1 (encB b))], [Blk.ac [AV.vm 1, AV.p (PV.sc (Value.int IntKind.u32 1)), AV.p (PV.sc (Value.int IntKind.u32 2))], Blk.ob (ObK.map [] [] 0) []], AV.p (PV.sc (Value.int IntKind.i64 0)), [Blk.ac [AV.vm 1, AV.p (PV.sc (Value.int IntKind.u32 1)), AV.p (PV.sc (Value.int IntKind.u32 2))], Blk.ob (ObK.map [] [] 0) []]⟩
                 (.call ⟨7, [AV.mp 0 0, AV.p (PV.sc (Value.int IntKind.i64 59)), AV.p (PV.sc (Value.int IntKind.u32 (↑a : Int))), AV.p (PV.sc (Value.int IntKind.u32 (↑o : Int))), AV.p (PV.sc (Value.int IntKind.u32 (↑v : Int)))], [Blk.ac [AV.vm 1, AV.p (PV.sc (Value.int IntKind.u32 1)), AV.p (PV.sc (Value.int IntKind.u32 2))], Blk.ob (ObK.map [] [] 0) []], AV.p (PV.sc (Value.int IntKind.i64 0)), [Blk.ac [AV.vm 1, AV.p (PV.sc (Value.int IntKind.u32 1)), AV.p (PV.sc (Value.int IntKind.u32 2))], Blk.ob (ObK.map [] [] 0) []]⟩
                  (.call ⟨8, [AV.mp 0 0, AV.p (PV.sc (Value.int IntKind.i64 47)), AV.p (PV.sc (Value.int IntKind.u32 (↑a : Int))), AV.p (PV.sc (Value.int IntKind.u32 (↑o : Int)))], [Blk.ac [AV.vm 1, AV.p (PV.sc (Value.int IntKind.u32 1)), AV.p (PV.sc (Value.int IntKind.u32 2))], Blk.ob (ObK.map [] [] 0) []], AV.tup [AV.p (PV.sc (Value.int IntKind.u32 0)), AV.p (PV.sc (Value.int IntKind.i64 0))], [Blk.ac [AV.vm 1, AV.p (PV.sc (Value.int IntKind.u32 1)), AV.p (PV.sc (Value.int IntKind.u32 2))], Blk.ob (ObK.map [] [] 0) []]⟩
                   (.need (AV.p (PV.sc (Value.int IntKind.u32 (IntKind.u32.wrap (↑b.length : Int)))) = sI IntKind.u32 (↑b.length : Int))
                    (.call ⟨10, [AV.mp 0 0, AV.p (PV.sc (Value.int IntKind.u32 (↑e : Int))), AV.p (PV.sc (Value.int IntKind.u32 (↑b.length : Int)))], [Blk.ac [AV.vm 1, AV.p (PV.sc (Value.int IntKind.u32 1)), AV.p (PV.sc (Value.int IntKind.u32 2))], Blk.ob (ObK.map [] [] 0) []], AV.tup [AV.p (PV.ps b.length 1 W0), AV.p (PV.sc (Value.int IntKind.i64 0))], [Blk.ac [AV.vm 1, AV.p (PV.sc (Value.int IntKind.u32 1)), AV.p (PV.sc (Value.int IntKind.u32 2))], Blk.ob (ObK.map [] [] 0) []]⟩
                     (.call ⟨11, [AV.p (PV.ps 4 1 (cut W0 (times Option.none 0 1) (times (Option.some (Operand.const (Value.int IntKind.i64 4))) 4 1))), AV.p (PV.ps 4 1 (cut (encB b) (times Option.none 0 1) (times (Option.some (Operand.const (Value.int IntKind.i64 4))) 4 1)))], [], AV.p (PV.sc (Value.bool true)), []⟩
                     (.call ⟨11, [AV.p (PV.ps (b.length - 6) 1 (cut W0 (times (Option.some (Operand.tmp 143)) 6 1) (times Option.none b.length 1))), AV.p (PV.ps (b.length - 6) 1 (cut (encB b) (times (Option.some (Operand.tmp 147)) 6 1) (times Option.none b.length 1)))], [], AV.p (PV.sc (Value.bool true)), []⟩
                     (.must (eqAV (AV.p (PV.sc (Value.bool (0 != IntKind.u32.wrap (↑(BitVec.ofInt 32 (↑v : Int) &&& BitVec.ofInt 32 65535).toNat : Int))))) (AV.p (PV.sc (Value.bool false))) && (Nat.ble 4 b.length && true && true && (Nat.ble 4 b.length && true && true && (Nat.ble 6 b.length && b.length.ble b.length && true && true && (Nat.ble 6 b.length && b.length.ble b.length && true && true && true)))) && true)
                      (.call ⟨6, [AV.mp 0 0, AV.p (PV.sc (Value.int IntKind.u32 (↑e : Int))), AV.p (PV.ps b.length 1 (encB b))], [Blk.ac [AV.vm 1, AV.p (PV.sc (Value.int IntKind.u32 1)), AV.p (PV.sc (Value.int IntKind.u32 2))], Blk.ob (ObK.map [] [] 0) []], AV.p (PV.sc (Value.int IntKind.i64 0)), [Blk.ac [AV.vm 1, AV.p (PV.sc (Value.int IntKind.u32 1)), AV.p (PV.sc (Value.int IntKind.u32 2))], Blk.ob (ObK.map [] [] 0) []]⟩
                       (.call ⟨7, [AV.mp 0 0, AV.p (PV.sc (Value.int IntKind.i64 58)), AV.p (PV.sc (Value.int IntKind.u32 (↑a : Int))), AV.p (PV.sc (Value.int IntKind.u32 (↑o : Int))), AV.p (PV.sc (Value.int IntKind.u32 (↑v : Int)))], [Blk.ac [AV.vm 1, AV.p (PV.sc (Value.int IntKind.u32 1)), AV.p (PV.sc (Value.int IntKind.u32 2))], Blk.ob (ObK.map [] [] 0) []], AV.p (PV.sc (Value.int IntKind.i64 0)), [Blk.ac [AV.vm 1, AV.p (PV.sc (Value.int IntKind.u32 1)), AV.p (PV.sc (Value.int IntKind.u32 2))], Blk.ob (ObK.map [] [] 0) []]⟩
                        (.call ⟨8, [AV.mp 0 0, AV.p (PV.sc (Value.int IntKind.i64 45)), AV.p (PV.sc (Value.int IntKind.u32 (↑a : Int))), AV.p (PV.sc (Value.int IntKind.u32 (↑o : Int)))], [Blk.ac [AV.vm 1, AV.p (PV.sc (Value.int IntKind.u32 1)), AV.p (PV.sc (Value.int IntKind.u32 2))], Blk.ob (ObK.map [] [] 0) []], AV.tup [AV.p (PV.sc (Value.int IntKind.u32 0)), AV.p (PV.sc (Value.int IntKind.i64 0))], [Blk.ac [AV.vm 1, AV.p (PV.sc (Value.int IntKind.u32 1)), AV.p (PV.sc (Value.int IntKind.u32 2))], Blk.ob (ObK.map [] [] 0) []]⟩
                         (.need (AV.p (PV.sc (Value.int IntKind.u32 (IntKind.u32.wrap (↑b.length : Int)))) = sI IntKind.u32 (↑b.length : Int))
                          (.call ⟨10, [AV.mp 0 0, AV.p (PV.sc (Value.int IntKind.u32 (↑e : Int))), AV.p (PV.sc (Value.int IntKind.u32 (↑b.length : Int)))], [Blk.ac [AV.vm 1, AV.p (PV.sc (Value.int IntKind.u32 1)), AV.p (PV.sc (Value.int IntKind.u32 2))], Blk.ob (ObK.map [] [] 0) []], AV.tup [AV.p (PV.ps b.length 1 W0), AV.p (PV.sc (Value.int IntKind.i64 0))], [Blk.ac [AV.vm 1, AV.p (PV.sc (Value.int IntKind.u32 1)), AV.p (PV.sc (Value.int IntKind.u32 2))], Blk.ob (ObK.map [] [] 0) []]⟩
                           (.call ⟨11, [AV.p (PV.ps 4 1 (cut W0 (times Option.none 0 1) (times (Option.some (Operand.const (Value.int IntKind.i64 4))) 4 1))), AV.p (PV.ps 4 1 (cut (encB b) (times Option.none 0 1) (times (Option.some (Operand.const (Value.int IntKind.i64 4))) 4 1)))], [], AV.p (PV.sc (Value.bool true)), []⟩
                           (.call ⟨11, [AV.p (PV.ps (b.length - 5) 1 (cut W0 (times (Option.some (Operand.tmp 143)) 5 1) (times Option.none b.length 1))), AV.p (PV.ps (b.length - 5) 1 (cut (encB b) (times (Option.some (Operand.tmp 147)) 5 1) (times Option.none b.length 1)))], [], AV.p (PV.sc (Value.bool true)), []⟩
                           (.must (eqAV (AV.p (PV.sc (Value.bool (0 != IntKind.u32.wrap (↑(BitVec.ofInt 32 (↑v : Int) &&& BitVec.ofInt 32 255).toNat : Int))))) (AV.p (PV.sc (Value.bool false))) && (Nat.ble 4 b.length && true && true && (Nat.ble 4 b.length && true && true && (Nat.ble 5 b.length && b.length.ble b.length && true && true && (Nat.ble 5 b.length && b.length.ble b.length && true && true && true)))) && true)
                            (.need (AV.p (PV.sc (Value.int IntKind.u32 (IntKind.u32.wrap (↑b.length : Int)))) = sI IntKind.u32 (↑b.length : Int))
                             (.call ⟨10, [AV.mp 0 0, AV.p (PV.sc (Value.int IntKind.u32 (↑e : Int))), AV.p (PV.sc (Value.int IntKind.u32 (↑b.length : Int)))], [Blk.ac [AV.vm 1, AV.p (PV.sc (Value.int IntKind.u32 2)), AV.p (PV.sc (Value.int IntKind.u32 2))], Blk.ob (ObK.map [] [] 0) []], AV.tup [AV.p (PV.ps b.length 1 W0), AV.p (PV.sc (Value.int IntKind.i64 0))], [Blk.ac [AV.vm 1, AV.p (PV.sc (Value.int IntKind.u32 2)), AV.p (PV.sc (Value.int IntKind.u32 2))], Blk.ob (ObK.map [] [] 0) []]⟩
                              (.call ⟨11, [AV.p (PV.ps 4 1 (cut W0 (times Option.none 0 1) (times (Option.some (Operand.const (Value.int IntKind.i64 4))) 4 1))), AV.p (PV.ps 4 1 (cut (encB b) (times Option.none 0 1) (times (Option.some (Operand.const (Value.int IntKind.i64 4))) 4 1)))], [], AV.p (PV.sc (Value.bool true)), []⟩
                              (.call ⟨12, [AV.mp 0 0], [Blk.ac [AV.vm 1, AV.p (PV.sc (Value.int IntKind.u32 2)), AV.p (PV.sc (Value.int IntKind.u32 2))], Blk.ob (ObK.map [] [] 0) []], AV.p (PV.sc (Value.int IntKind.u32 2)), [Blk.ac [AV.vm 1, AV.p (PV.sc (Value.int IntKind.u32 2)), AV.p (PV.sc (Value.int IntKind.u32 2))], Blk.ob (ObK.map [] [] 0) []]⟩
                              (.must (Nat.ble 4 b.length && true && true && (Nat.ble 4 b.length && true && true && true) && true)
                               (.must true
                                (.out (Out.ret (AV.p (PV.sc (Value.bool true))) []))))))))))))))))))))))))))))))))))))))))
theorem lc_tree (a : Nat) (o : Nat) (v : Nat) (e : Nat) (b : List Int) (W : List PV → List PV) (T : Int → List PV → List PV) (V : Int → List PV → Int) (R : List PV → List PV) (W0 : List PV) : growF Try.prog env (lcOrc a o v e b W T V R W0) 1000000 3 ([sI IntKind.u32 (↑a : Int), sI IntKind.u32 (↑o : Int), sI IntKind.u32 (↑v : Int), aB b]) ([]) lcSc = lcTree a o v e b W T V R W0 := by kernel_rfl


theorem awake_does : Does Try.prog env 4 [] [] (sB true) [] := does_fast names (K := []) calls_nil (n := 1000000) (by kernel_rfl)
theorem fresh_does : Does Try.prog env 5 [] [] (.mp 0 0) (mN 1) := does_fast names (K := []) calls_nil (n := 1000000) (by kernel_rfl)

/-! What is kept. -/

theorem readP_eq {s : Pg} : ∀ (l : List Int) (e : Nat), (∀ j, j < l.length → getP s (e + j) = l.getD j 0) → readP s e l.length = l
  | [], _, _ => rfl
  | x :: r, e, h => by
    have h0 := h 0 (by simp)
    have hr := readP_eq r (e + 1) fun j hj => by
      have := h (j + 1) (by simpa using hj)
      rw [show e + 1 + j = e + (j + 1) by omega]
      exact this
    show getP s e :: readP s (e + 1) r.length = _
    rw [hr]
    exact congrArg (· :: r) h0

theorem leV_bytes : ∀ (n v : Nat), leV (bytesOf v n) = ((v % 256 ^ n : Nat) : Int)
  | 0, v => by simp [bytesOf, leV, Nat.mod_one]
  | n + 1, v => by
    have h : v % 256 ^ (n + 1) = v % 256 + 256 * (v / 256 % 256 ^ n) := by rw [Nat.pow_succ, Nat.mul_comm (256 ^ n), Nat.mod_mul]
    rw [bytesOf, leV, leV_bytes n, h]
    generalize v / 256 % 256 ^ n = y
    omega

theorem andM {v : Nat} (hv : v < 4294967296) (k : Nat) (hk : 2 ^ k - 1 < 4294967296) : IntKind.u32.wrap (((BitVec.ofInt 32 (v : Int) &&& BitVec.ofInt 32 ((2 ^ k - 1 : Nat) : Int)).toNat : Nat) : Int) = ((v % 2 ^ k : Nat) : Int) := by
  have e : (BitVec.ofInt 32 (v : Int) &&& BitVec.ofInt 32 ((2 ^ k - 1 : Nat) : Int)).toNat = v % 2 ^ k := by
    rw [BitVec.ofInt_natCast, BitVec.ofInt_natCast, BitVec.toNat_and, BitVec.toNat_ofNat, BitVec.toNat_ofNat, Nat.mod_eq_of_lt hv, Nat.mod_eq_of_lt hk, Nat.and_two_pow_sub_one_eq_mod]
  have := Nat.mod_le v (2 ^ k)
  rw [e, wU32]
  omega

theorem kept {s : Pg} (hs : okP s) {e v n : Nat} {b : List Int} (hb : isB b) (hn : n ≤ 4) (hl : 12 ≤ b.length) (he : e + b.length ≤ 65536) :
    readP (putP (putP s e b) (e + 4) (bytesOf v n)) e b.length = b.take 4 ++ (bytesOf v n ++ b.drop (4 + n)) ∧ readP (putP (putP s e b) (e + 4) (bytesOf v n)) (e + 4) n = bytesOf v n := by
  have hs1 := okP_put (s := s) (at_ := e) hs hb
  have hlen := bytesOf_len n v
  have hg := get_put (s := putP s e b) (at_ := e + 4) (l := bytesOf v n) hs1 (bytesOf_ok n v) (by rw [hlen]; omega)
  have hg1 := get_put (s := s) (at_ := e) (l := b) hs hb he
  rw [hlen] at hg
  constructor
  · have hL : (b.take 4 ++ (bytesOf v n ++ b.drop (4 + n))).length = b.length := by
      simp only [List.length_append, List.length_take, List.length_drop, hlen]; omega
    have h := readP_eq (s := putP (putP s e b) (e + 4) (bytesOf v n)) (b.take 4 ++ (bytesOf v n ++ b.drop (4 + n))) e fun j hj => by
      rw [hL] at hj
      rw [hg (e + j), hg1 (e + j), if_pos (by omega : e ≤ e + j ∧ e + j < e + b.length)]
      simp only [List.getD_eq_getElem?_getD, List.getElem?_append, List.length_take, hlen, List.getElem?_take, List.getElem?_drop]
      by_cases q : j < 4
      · rw [if_neg (by omega), if_pos (by omega), if_pos q, show e + j - e = j by omega]
      · by_cases q2 : j < 4 + n
        · rw [if_pos (by omega), if_neg (by omega), if_pos (by omega), show e + j - (e + 4) = j - min 4 b.length by omega]
        · rw [if_neg (by omega), if_neg (by omega), if_neg (by omega), show e + j - e = j by omega, show 4 + n + (j - min 4 b.length - n) = j by omega]
    rw [hL] at h
    exact h
  · have h := readP_eq (s := putP (putP s e b) (e + 4) (bytesOf v n)) (bytesOf v n) (e + 4) fun j hj => by
      rw [hlen] at hj
      rw [hg (e + 4 + j), if_pos (by omega), show e + 4 + j - (e + 4) = j by omega]
    rw [hlen] at h
    exact h

theorem same_take {X b : List Int} (h : X.take 4 = b.take 4) (z : Operand) : Does Try.prog env 11 [.p (.ps 4 1 (cut (encB X) (times none 0 1) (times (some z) 4 1))), .p (.ps 4 1 (cut (encB b) (times none 0 1) (times (some z) 4 1)))] [] (sB true) [] := by
  have e : ∀ Y : List Int, cut (encB Y) (times none 0 1) (times (some z) 4 1) = encB (Y.take 4) := fun Y => List.map_take.symm
  rw [e, e, h]
  exact same_does 4 4 _

theorem same_drop {X b : List Int} (k : Nat) (h : X.drop k = b.drop k) (z y : Operand) (n : Nat) : Does Try.prog env 11 [.p (.ps n 1 (cut (encB X) (times (some z) k 1) (times none b.length 1))), .p (.ps n 1 (cut (encB b) (times (some y) k 1) (times none b.length 1)))] [] (sB true) [] := by
  have e : ∀ (Y : List Int) (w : Operand), cut (encB Y) (times (some w) k 1) (times none b.length 1) = encB (Y.drop k) := fun Y w => by
    show (encB Y).drop (k * 1) = _
    rw [Nat.mul_one]
    exact List.map_drop.symm
  rw [e, e, h]
  exact same_does n n _

def dec (c : List PV) : List Int := c.map pvInt

theorem dec_enc (l : List Int) : dec (encB l) = l := by
  unfold dec encB
  rw [List.map_map]
  exact List.map_id l

def wd (op : Int) : Nat := if op = 54 ∨ op = 40 then 4 else if op = 59 ∨ op = 47 then 2 else 1

end Go.Proofs.Ytiacpconafalhaa.N
