/-
  The environment with the library's table of powers, too.
  Numbers as text: how many digits there are.
-/
import Derived.Test.YtjjloibfhgofcaaDoorMJ
import Derived.Test.YtjjloibfhgofcaaDoorMH
import Derived.Test.YtjjloibfhgofcaaDoorMG

section
namespace Go.Proofs.YtjjloibfhgofcaaDoor.N
open Go Go.Am

def tabsP : List (Nat × List Value) := [(0, spaceZ.map (.int .u8)), (4, powZ.map (.int .u64))]

def envP : Env := ⟨tabAt tabsP, env.wr, env.keep⟩

theorem Does.toP {f : FuncId} {args : List AV} {v : AV} {m m' : Mem} (h : Does Tryd.prog env f args m v m') : Does Tryd.prog envP f args m v m' := h.env fun i cs hi => by
  have hi : tabAt tabs i = some cs := hi
  show tabAt tabsP i = some cs
  unfold tabs at hi
  unfold tabsP
  simp only [tabAt] at hi ⊢
  cases hb : Nat.beq 0 i with
  | true => rw [hb] at hi; exact hi
  | false => rw [hb] at hi; cases hi

end Go.Proofs.YtjjloibfhgofcaaDoor.N
end

section
namespace Go.Proofs.YtjjloibfhgofcaaDoor.N
open Go Go.Am

def leS (_u k : Int) : FuncId → Nat → Nat → Option (AV → AV) := shapeAt [(98, 11, 3, .p (.sc (.int .u8 k)))]
def ndS (_u _k pw : Int) : FuncId → Nat → Nat → Option (AV → AV) := shapeAt [(92, 3, 4, .p (.sc (.int .u64 pw)))]
def ndC (_u k _pw : Int) (f : FuncId) (_ : List AV) (m : Mem) : Option (AV × Mem) := cond (Nat.beq f 98) (some (sI .i64 k, m)) none
/- le: 231 steps -/
noncomputable def leOrc (u : Int) (k : Int) : Orc := orcS noCall noLed [] [(98, 0, 0), (98, 0, 1), (98, 0, 2)] [(98, 11, 3)] (leS u k)
def leSc : Sc := .fin
noncomputable def leTree (u : Int) (k : Int) : Tree :=
  (.test (decide (u ≥ 4294967296))
   (.test (decide (u.fdiv 4294967296 ≥ 65536))
    (.test (decide ((u.fdiv 4294967296).fdiv 65536 ≥ 256))
     (.must (inB (IntKind.u8.wrap (((u.fdiv 4294967296).fdiv 65536).fdiv 256)) 256 && true)
      (.need (AV.p (PV.sc (Value.int IntKind.u8 (↑((ByteArray.mk (([0, 1, 2, 2, 3, 3, 3, 3, 4, 4, 4, 4, 4, 4, 4, 4, 5, 5, 5, 5, 5, 5, 5, 5, 5, 5, 5, 5, 5, 5, 5, 5, 6, 6, 6, 6, 6, 6, 6, 6, 6, 6, 6, 6, 6, 6, 6, 6, 6, 6, 6, 6, 6, 6, 6, 6, 6, 6, 6, 6, 6, 6, 6, 6].append [7, 7, 7, 7, 7, 7, 7, 7, 7, 7, 7, 7, 7, 7, 7, 7, 7, 7, 7, 7, 7, 7, 7, 7, 7, 7, 7, 7, 7, 7, 7, 7, 7, 7, 7, 7, 7, 7, 7, 7, 7, 7, 7, 7, 7, 7, 7, 7, 7, 7, 7, 7, 7, 7, 7, 7, 7, 7, 7, 7, 7, 7, 7, 7]).append ([8, 8, 8, 8, 8, 8, 8, 8, 8, 8, 8, 8, 8, 8, 8, 8, 8, 8, 8, 8, 8, 8, 8, 8, 8, 8, 8, 8, 8, 8, 8, 8, 8, 8, 8, 8, 8, 8, 8, 8, 8, 8, 8, 8, 8, 8, 8, 8, 8, 8, 8, 8, 8, 8, 8, 8, 8, 8, 8, 8, 8, 8, 8, 8].append [8, 8, 8, 8, 8, 8, 8, 8, 8, 8, 8, 8, 8, 8, 8, 8, 8, 8, 8, 8, 8, 8, 8, 8, 8, 8, 8, 8, 8, 8, 8, 8, 8, 8, 8, 8, 8, 8, 8, 8, 8, 8, 8, 8, 8, 8, 8, 8, 8, 8, 8, 8, 8, 8, 8, 8, 8, 8, 8, 8, 8, 8, 8, 8])).toArray).data.toList.getD (IntKind.u8.wrap (((u.fdiv 4294967296).fdiv 65536).fdiv 256)).toNat 0).toNat : Int))) = AV.p (PV.sc (Value.int IntKind.u8 k)))
       (.out (Out.ret (AV.p (PV.sc (Value.int IntKind.i64 (IntKind.i64.wrap (56 + IntKind.i64.wrap k))))) []))))
     (.must (inB (IntKind.u8.wrap ((u.fdiv 4294967296).fdiv 65536)) 256 && true)
      (.need (AV.p (PV.sc (Value.int IntKind.u8 (↑((ByteArray.mk (([0, 1, 2, 2, 3, 3, 3, 3, 4, 4, 4, 4, 4, 4, 4, 4, 5, 5, 5, 5, 5, 5, 5, 5, 5, 5, 5, 5, 5, 5, 5, 5, 6, 6, 6, 6, 6, 6, 6, 6, 6, 6, 6, 6, 6, 6, 6, 6, 6, 6, 6, 6, 6, 6, 6, 6, 6, 6, 6, 6, 6, 6, 6, 6].append [7, 7, 7, 7, 7, 7, 7, 7, 7, 7, 7, 7, 7, 7, 7, 7, 7, 7, 7, 7, 7, 7, 7, 7, 7, 7, 7, 7, 7, 7, 7, 7, 7, 7, 7, 7, 7, 7, 7, 7, 7, 7, 7, 7, 7, 7, 7, 7, 7, 7, 7, 7, 7, 7, 7, 7, 7, 7, 7, 7, 7, 7, 7, 7]).append ([8, 8, 8, 8, 8, 8, 8, 8, 8, 8, 8, 8, 8, 8, 8, 8, 8, 8, 8, 8, 8, 8, 8, 8, 8, 8, 8, 8, 8, 8, 8, 8, 8, 8, 8, 8, 8, 8, 8, 8, 8, 8, 8, 8, 8, 8, 8, 8, 8, 8, 8, 8, 8, 8, 8, 8, 8, 8, 8, 8, 8, 8, 8, 8].append [8, 8, 8, 8, 8, 8, 8, 8, 8, 8, 8, 8, 8, 8, 8, 8, 8, 8, 8, 8, 8, 8, 8, 8, 8, 8, 8, 8, 8, 8, 8, 8, 8, 8, 8, 8, 8, 8, 8, 8, 8, 8, 8, 8, 8, 8, 8, 8, 8, 8, 8, 8, 8, 8, 8, 8, 8, 8, 8, 8, 8, 8, 8, 8])).toArray).data.toList.getD (IntKind.u8.wrap ((u.fdiv 4294967296).fdiv 65536)).toNat 0).toNat : Int))) = AV.p (PV.sc (Value.int IntKind.u8 k)))
       (.out (Out.ret (AV.p (PV.sc (Value.int IntKind.i64 (IntKind.i64.wrap (48 + IntKind.i64.wrap k))))) [])))))
    (.test (decide (u.fdiv 4294967296 ≥ 256))
     (.must (inB (IntKind.u8.wrap ((u.fdiv 4294967296).fdiv 256)) 256 && true)
      (.need (AV.p (PV.sc (Value.int IntKind.u8 (↑((ByteArray.mk (([0, 1, 2, 2, 3, 3, 3, 3, 4, 4, 4, 4, 4, 4, 4, 4, 5, 5, 5, 5, 5, 5, 5, 5, 5, 5, 5, 5, 5, 5, 5, 5, 6, 6, 6, 6, 6, 6, 6, 6, 6, 6, 6, 6, 6, 6, 6, 6, 6, 6, 6, 6, 6, 6, 6, 6, 6, 6, 6, 6, 6, 6, 6, 6].append [7, 7, 7, 7, 7, 7, 7, 7, 7, 7, 7, 7, 7, 7, 7, 7, 7, 7, 7, 7, 7, 7, 7, 7, 7, 7, 7, 7, 7, 7, 7, 7, 7, 7, 7, 7, 7, 7, 7, 7, 7, 7, 7, 7, 7, 7, 7, 7, 7, 7, 7, 7, 7, 7, 7, 7, 7, 7, 7, 7, 7, 7, 7, 7]).append ([8, 8, 8, 8, 8, 8, 8, 8, 8, 8, 8, 8, 8, 8, 8, 8, 8, 8, 8, 8, 8, 8, 8, 8, 8, 8, 8, 8, 8, 8, 8, 8, 8, 8, 8, 8, 8, 8, 8, 8, 8, 8, 8, 8, 8, 8, 8, 8, 8, 8, 8, 8, 8, 8, 8, 8, 8, 8, 8, 8, 8, 8, 8, 8].append [8, 8, 8, 8, 8, 8, 8, 8, 8, 8, 8, 8, 8, 8, 8, 8, 8, 8, 8, 8, 8, 8, 8, 8, 8, 8, 8, 8, 8, 8, 8, 8, 8, 8, 8, 8, 8, 8, 8, 8, 8, 8, 8, 8, 8, 8, 8, 8, 8, 8, 8, 8, 8, 8, 8, 8, 8, 8, 8, 8, 8, 8, 8, 8])).toArray).data.toList.getD (IntKind.u8.wrap ((u.fdiv 4294967296).fdiv 256)).toNat 0).toNat : Int))) = AV.p (PV.sc (Value.int IntKind.u8 k)))
       (.out (Out.ret (AV.p (PV.sc (Value.int IntKind.i64 (IntKind.i64.wrap (40 + IntKind.i64.wrap k))))) []))))
     (.must (inB (IntKind.u8.wrap (u.fdiv 4294967296)) 256 && true)
      (.need (AV.p (PV.sc (Value.int IntKind.u8 (↑((ByteArray.mk (([0, 1, 2, 2, 3, 3, 3, 3, 4, 4, 4, 4, 4, 4, 4, 4, 5, 5, 5, 5, 5, 5, 5, 5, 5, 5, 5, 5, 5, 5, 5, 5, 6, 6, 6, 6, 6, 6, 6, 6, 6, 6, 6, 6, 6, 6, 6, 6, 6, 6, 6, 6, 6, 6, 6, 6, 6, 6, 6, 6, 6, 6, 6, 6].append [7, 7, 7, 7, 7, 7, 7, 7, 7, 7, 7, 7, 7, 7, 7, 7, 7, 7, 7, 7, 7, 7, 7, 7, 7, 7, 7, 7, 7, 7, 7, 7, 7, 7, 7, 7, 7, 7, 7, 7, 7, 7, 7, 7, 7, 7, 7, 7, 7, 7, 7, 7, 7, 7, 7, 7, 7, 7, 7, 7, 7, 7, 7, 7]).append ([8, 8, 8, 8, 8, 8, 8, 8, 8, 8, 8, 8, 8, 8, 8, 8, 8, 8, 8, 8, 8, 8, 8, 8, 8, 8, 8, 8, 8, 8, 8, 8, 8, 8, 8, 8, 8, 8, 8, 8, 8, 8, 8, 8, 8, 8, 8, 8, 8, 8, 8, 8, 8, 8, 8, 8, 8, 8, 8, 8, 8, 8, 8, 8].append [8, 8, 8, 8, 8, 8, 8, 8, 8, 8, 8, 8, 8, 8, 8, 8, 8, 8, 8, 8, 8, 8, 8, 8, 8, 8, 8, 8, 8, 8, 8, 8, 8, 8, 8, 8, 8, 8, 8, 8, 8, 8, 8, 8, 8, 8, 8, 8, 8, 8, 8, 8, 8, 8, 8, 8, 8, 8, 8, 8, 8, 8, 8, 8])).toArray).data.toList.getD (IntKind.u8.wrap (u.fdiv 4294967296)).toNat 0).toNat : Int))) = AV.p (PV.sc (Value.int IntKind.u8 k)))
       (.out (Out.ret (AV.p (PV.sc (Value.int IntKind.i64 (IntKind.i64.wrap (32 + IntKind.i64.wrap k))))) []))))))
   (.test (decide (u ≥ 65536))
    (.test (decide (u.fdiv 65536 ≥ 256))
     (.must (inB (IntKind.u8.wrap ((u.fdiv 65536).fdiv 256)) 256 && true)
      (.need (AV.p (PV.sc (Value.int IntKind.u8 (↑((ByteArray.mk (([0, 1, 2, 2, 3, 3, 3, 3, 4, 4, 4, 4, 4, 4, 4, 4, 5, 5, 5, 5, 5, 5, 5, 5, 5, 5, 5, 5, 5, 5, 5, 5, 6, 6, 6, 6, 6, 6, 6, 6, 6, 6, 6, 6, 6, 6, 6, 6, 6, 6, 6, 6, 6, 6, 6, 6, 6, 6, 6, 6, 6, 6, 6, 6].append [7, 7, 7, 7, 7, 7, 7, 7, 7, 7, 7, 7, 7, 7, 7, 7, 7, 7, 7, 7, 7, 7, 7, 7, 7, 7, 7, 7, 7, 7, 7, 7, 7, 7, 7, 7, 7, 7, 7, 7, 7, 7, 7, 7, 7, 7, 7, 7, 7, 7, 7, 7, 7, 7, 7, 7, 7, 7, 7, 7, 7, 7, 7, 7]).append ([8, 8, 8, 8, 8, 8, 8, 8, 8, 8, 8, 8, 8, 8, 8, 8, 8, 8, 8, 8, 8, 8, 8, 8, 8, 8, 8, 8, 8, 8, 8, 8, 8, 8, 8, 8, 8, 8, 8, 8, 8, 8, 8, 8, 8, 8, 8, 8, 8, 8, 8, 8, 8, 8, 8, 8, 8, 8, 8, 8, 8, 8, 8, 8].append [8, 8, 8, 8, 8, 8, 8, 8, 8, 8, 8, 8, 8, 8, 8, 8, 8, 8, 8, 8, 8, 8, 8, 8, 8, 8, 8, 8, 8, 8, 8, 8, 8, 8, 8, 8, 8, 8, 8, 8, 8, 8, 8, 8, 8, 8, 8, 8, 8, 8, 8, 8, 8, 8, 8, 8, 8, 8, 8, 8, 8, 8, 8, 8])).toArray).data.toList.getD (IntKind.u8.wrap ((u.fdiv 65536).fdiv 256)).toNat 0).toNat : Int))) = AV.p (PV.sc (Value.int IntKind.u8 k)))
       (.out (Out.ret (AV.p (PV.sc (Value.int IntKind.i64 (IntKind.i64.wrap (24 + IntKind.i64.wrap k))))) []))))
     (.must (inB (IntKind.u8.wrap (u.fdiv 65536)) 256 && true)
      (.need (AV.p (PV.sc (Value.int IntKind.u8 (↑((ByteArray.mk (([0, 1, 2, 2, 3, 3, 3, 3, 4, 4, 4, 4, 4, 4, 4, 4, 5, 5, 5, 5, 5, 5, 5, 5, 5, 5, 5, 5, 5, 5, 5, 5, 6, 6, 6, 6, 6, 6, 6, 6, 6, 6, 6, 6, 6, 6, 6, 6, 6, 6, 6, 6, 6, 6, 6, 6, 6, 6, 6, 6, 6, 6, 6, 6].append [7, 7, 7, 7, 7, 7, 7, 7, 7, 7, 7, 7, 7, 7, 7, 7, 7, 7, 7, 7, 7, 7, 7, 7, 7, 7, 7, 7, 7, 7, 7, 7, 7, 7, 7, 7, 7, 7, 7, 7, 7, 7, 7, 7, 7, 7, 7, 7, 7, 7, 7, 7, 7, 7, 7, 7, 7, 7, 7, 7, 7, 7, 7, 7]).append ([8, 8, 8, 8, 8, 8, 8, 8, 8, 8, 8, 8, 8, 8, 8, 8, 8, 8, 8, 8, 8, 8, 8, 8, 8, 8, 8, 8, 8, 8, 8, 8, 8, 8, 8, 8, 8, 8, 8, 8, 8, 8, 8, 8, 8, 8, 8, 8, 8, 8, 8, 8, 8, 8, 8, 8, 8, 8, 8, 8, 8, 8, 8, 8].append [8, 8, 8, 8, 8, 8, 8, 8, 8, 8, 8, 8, 8, 8, 8, 8, 8, 8, 8, 8, 8, 8, 8, 8, 8, 8, 8, 8, 8, 8, 8, 8, 8, 8, 8, 8, 8, 8, 8, 8, 8, 8, 8, 8, 8, 8, 8, 8, 8, 8, 8, 8, 8, 8, 8, 8, 8, 8, 8, 8, 8, 8, 8, 8])).toArray).data.toList.getD (IntKind.u8.wrap (u.fdiv 65536)).toNat 0).toNat : Int))) = AV.p (PV.sc (Value.int IntKind.u8 k)))
       (.out (Out.ret (AV.p (PV.sc (Value.int IntKind.i64 (IntKind.i64.wrap (16 + IntKind.i64.wrap k))))) [])))))
    (.test (decide (u ≥ 256))
     (.must (inB (IntKind.u8.wrap (u.fdiv 256)) 256 && true)
      (.need (AV.p (PV.sc (Value.int IntKind.u8 (↑((ByteArray.mk (([0, 1, 2, 2, 3, 3, 3, 3, 4, 4, 4, 4, 4, 4, 4, 4, 5, 5, 5, 5, 5, 5, 5, 5, 5, 5, 5, 5, 5, 5, 5, 5, 6, 6, 6, 6, 6, 6, 6, 6, 6, 6, 6, 6, 6, 6, 6, 6, 6, 6, 6, 6, 6, 6, 6, 6, 6, 6, 6, 6, 6, 6, 6, 6].append [7, 7, 7, 7, 7, 7, 7, 7, 7, 7, 7, 7, 7, 7, 7, 7, 7, 7, 7, 7, 7, 7, 7, 7, 7, 7, 7, 7, 7, 7, 7, 7, 7, 7, 7, 7, 7, 7, 7, 7, 7, 7, 7, 7, 7, 7, 7, 7, 7, 7, 7, 7, 7, 7, 7, 7, 7, 7, 7, 7, 7, 7, 7, 7]).append ([8, 8, 8, 8, 8, 8, 8, 8, 8, 8, 8, 8, 8, 8, 8, 8, 8, 8, 8, 8, 8, 8, 8, 8, 8, 8, 8, 8, 8, 8, 8, 8, 8, 8, 8, 8, 8, 8, 8, 8, 8, 8, 8, 8, 8, 8, 8, 8, 8, 8, 8, 8, 8, 8, 8, 8, 8, 8, 8, 8, 8, 8, 8, 8].append [8, 8, 8, 8, 8, 8, 8, 8, 8, 8, 8, 8, 8, 8, 8, 8, 8, 8, 8, 8, 8, 8, 8, 8, 8, 8, 8, 8, 8, 8, 8, 8, 8, 8, 8, 8, 8, 8, 8, 8, 8, 8, 8, 8, 8, 8, 8, 8, 8, 8, 8, 8, 8, 8, 8, 8, 8, 8, 8, 8, 8, 8, 8, 8])).toArray).data.toList.getD (IntKind.u8.wrap (u.fdiv 256)).toNat 0).toNat : Int))) = AV.p (PV.sc (Value.int IntKind.u8 k)))
       (.out (Out.ret (AV.p (PV.sc (Value.int IntKind.i64 (IntKind.i64.wrap (8 + IntKind.i64.wrap k))))) []))))
     (.must (inB (IntKind.u8.wrap u) 256 && true)
      (.need (AV.p (PV.sc (Value.int IntKind.u8 (↑((ByteArray.mk (([0, 1, 2, 2, 3, 3, 3, 3, 4, 4, 4, 4, 4, 4, 4, 4, 5, 5, 5, 5, 5, 5, 5, 5, 5, 5, 5, 5, 5, 5, 5, 5, 6, 6, 6, 6, 6, 6, 6, 6, 6, 6, 6, 6, 6, 6, 6, 6, 6, 6, 6, 6, 6, 6, 6, 6, 6, 6, 6, 6, 6, 6, 6, 6].append [7, 7, 7, 7, 7, 7, 7, 7, 7, 7, 7, 7, 7, 7, 7, 7, 7, 7, 7, 7, 7, 7, 7, 7, 7, 7, 7, 7, 7, 7, 7, 7, 7, 7, 7, 7, 7, 7, 7, 7, 7, 7, 7, 7, 7, 7, 7, 7, 7, 7, 7, 7, 7, 7, 7, 7, 7, 7, 7, 7, 7, 7, 7, 7]).append ([8, 8, 8, 8, 8, 8, 8, 8, 8, 8, 8, 8, 8, 8, 8, 8, 8, 8, 8, 8, 8, 8, 8, 8, 8, 8, 8, 8, 8, 8, 8, 8, 8, 8, 8, 8, 8, 8, 8, 8, 8, 8, 8, 8, 8, 8, 8, 8, 8, 8, 8, 8, 8, 8, 8, 8, 8, 8, 8, 8, 8, 8, 8, 8].append [8, 8, 8, 8, 8, 8, 8, 8, 8, 8, 8, 8, 8, 8, 8, 8, 8, 8, 8, 8, 8, 8, 8, 8, 8, 8, 8, 8, 8, 8, 8, 8, 8, 8, 8, 8, 8, 8, 8, 8, 8, 8, 8, 8, 8, 8, 8, 8, 8, 8, 8, 8, 8, 8, 8, 8, 8, 8, 8, 8, 8, 8, 8, 8])).toArray).data.toList.getD (IntKind.u8.wrap u).toNat 0).toNat : Int))) = AV.p (PV.sc (Value.int IntKind.u8 k)))
       (.out (Out.ret (AV.p (PV.sc (Value.int IntKind.i64 (IntKind.i64.wrap (0 + IntKind.i64.wrap k))))) [])))))))
theorem le_tree (u : Int) (k : Int) : growF Tryd.prog envP (leOrc u k) 1000000 98 ([AV.p (PV.sc (Value.int IntKind.u64 u))]) ([]) leSc = leTree u k := by kernel_rfl

/- nd: 66 steps -/
noncomputable def ndOrc (u : Int) (k : Int) (pw : Int) : Orc := orcS (ndC u k pw) noLed [] [(99, 0, 0)] [(92, 3, 3), (92, 3, 4)] (ndS u k pw)
def ndSc : Sc := .fin
noncomputable def ndTree (u : Int) (k : Int) (pw : Int) : Tree :=
  (.call ⟨98, [AV.p (PV.sc (Value.int IntKind.u64 u))], [], AV.p (PV.sc (Value.int IntKind.i64 k)), []⟩
   (.must (inB ((IntKind.i64.wrap (k * 78913)).fdiv 262144) 20 && true)
    (.must (isInt IntKind.u64 ([PV.sc (Value.int IntKind.u64 1), PV.sc (Value.int IntKind.u64 10), PV.sc (Value.int IntKind.u64 100), PV.sc (Value.int IntKind.u64 1000), PV.sc (Value.int IntKind.u64 10000), PV.sc (Value.int IntKind.u64 100000), PV.sc (Value.int IntKind.u64 1000000), PV.sc (Value.int IntKind.u64 10000000), PV.sc (Value.int IntKind.u64 100000000), PV.sc (Value.int IntKind.u64 1000000000), PV.sc (Value.int IntKind.u64 10000000000), PV.sc (Value.int IntKind.u64 100000000000), PV.sc (Value.int IntKind.u64 1000000000000), PV.sc (Value.int IntKind.u64 10000000000000), PV.sc (Value.int IntKind.u64 100000000000000), PV.sc (Value.int IntKind.u64 1000000000000000), PV.sc (Value.int IntKind.u64 10000000000000000), PV.sc (Value.int IntKind.u64 100000000000000000), PV.sc (Value.int IntKind.u64 1000000000000000000), PV.sc (Value.int IntKind.u64 10000000000000000000)].getD (0 + ((IntKind.i64.wrap (k * 78913)).fdiv 262144).toNat * 1) PV.bad) && true)
     (.need (AV.p (PV.sc (Value.int IntKind.u64 (pvInt ([PV.sc (Value.int IntKind.u64 1), PV.sc (Value.int IntKind.u64 10), PV.sc (Value.int IntKind.u64 100), PV.sc (Value.int IntKind.u64 1000), PV.sc (Value.int IntKind.u64 10000), PV.sc (Value.int IntKind.u64 100000), PV.sc (Value.int IntKind.u64 1000000), PV.sc (Value.int IntKind.u64 10000000), PV.sc (Value.int IntKind.u64 100000000), PV.sc (Value.int IntKind.u64 1000000000), PV.sc (Value.int IntKind.u64 10000000000), PV.sc (Value.int IntKind.u64 100000000000), PV.sc (Value.int IntKind.u64 1000000000000), PV.sc (Value.int IntKind.u64 10000000000000), PV.sc (Value.int IntKind.u64 100000000000000), PV.sc (Value.int IntKind.u64 1000000000000000), PV.sc (Value.int IntKind.u64 10000000000000000), PV.sc (Value.int IntKind.u64 100000000000000000), PV.sc (Value.int IntKind.u64 1000000000000000000), PV.sc (Value.int IntKind.u64 10000000000000000000)].getD (0 + ((IntKind.i64.wrap (k * 78913)).fdiv 262144).toNat * 1) PV.bad)))) = AV.p (PV.sc (Value.int IntKind.u64 pw)))
      (.test (decide (u ≥ pw))
       (.out (Out.ret (AV.p (PV.sc (Value.int IntKind.i64 (IntKind.i64.wrap ((IntKind.i64.wrap (k * 78913)).fdiv 262144 + 1))))) []))
       (.out (Out.ret (AV.p (PV.sc (Value.int IntKind.i64 (IntKind.i64.wrap ((IntKind.i64.wrap (k * 78913)).fdiv 262144 + 0))))) [])))))))
theorem nd_tree (u : Int) (k : Int) (pw : Int) : growF Tryd.prog envP (ndOrc u k pw) 1000000 92 ([AV.p (PV.sc (Value.int IntKind.u64 u))]) ([]) ndSc = ndTree u k pw := by kernel_rfl

/- fis: 87 steps -/
noncomputable def fisOrc : Orc := orcL noCall noLed [] [(85, 3, 3), (85, 0, 1), (91, 0, 0)] [(91, 3, 3), (91, 4, 5)]
def fisSc : Sc := (.yes (.yes .fin))
noncomputable def fisTree (n : Int) : Tree :=
  (.must (decide (0 ≤ n))
   (.must (decide (n < 100))
    (.test (decide (n < 10))
     (.must (decide (0 ≤ n) && decide (0 ≤ IntKind.i64.wrap (n + 1)) && n.toNat.ble (IntKind.i64.wrap (n + 1)).toNat && (IntKind.i64.wrap (n + 1)).toNat.ble 36 && true)
      (.out (Out.ret (AV.p (PV.sc (Value.string ((ByteArray.mk #[48, 49, 50, 51, 52, 53, 54, 55, 56, 57, 97, 98, 99, 100, 101, 102, 103, 104, 105, 106, 107, 108, 109, 110, 111, 112, 113, 114, 115, 116, 117, 118, 119, 120, 121, 122]).extract n.toNat (IntKind.i64.wrap (n + 1)).toNat)))) [])))
     (.must (decide (0 ≤ IntKind.i64.wrap (n * 2)) && decide (0 ≤ IntKind.i64.wrap (IntKind.i64.wrap (n * 2) + 2)) && (IntKind.i64.wrap (n * 2)).toNat.ble (IntKind.i64.wrap (IntKind.i64.wrap (n * 2) + 2)).toNat && (IntKind.i64.wrap (IntKind.i64.wrap (n * 2) + 2)).toNat.ble 200 && true)
      (.out (Out.ret (AV.p (PV.sc (Value.string ((ByteArray.mk (([48, 48, 48, 49, 48, 50, 48, 51, 48, 52, 48, 53, 48, 54, 48, 55, 48, 56, 48, 57, 49, 48, 49, 49, 49, 50, 49, 51, 49, 52, 49, 53, 49, 54, 49, 55, 49, 56, 49, 57, 50, 48, 50, 49, 50, 50, 50, 51, 50, 52].append [50, 53, 50, 54, 50, 55, 50, 56, 50, 57, 51, 48, 51, 49, 51, 50, 51, 51, 51, 52, 51, 53, 51, 54, 51, 55, 51, 56, 51, 57, 52, 48, 52, 49, 52, 50, 52, 51, 52, 52, 52, 53, 52, 54, 52, 55, 52, 56, 52, 57]).append ([53, 48, 53, 49, 53, 50, 53, 51, 53, 52, 53, 53, 53, 54, 53, 55, 53, 56, 53, 57, 54, 48, 54, 49, 54, 50, 54, 51, 54, 52, 54, 53, 54, 54, 54, 55, 54, 56, 54, 57, 55, 48, 55, 49, 55, 50, 55, 51, 55, 52].append [55, 53, 55, 54, 55, 55, 55, 56, 55, 57, 56, 48, 56, 49, 56, 50, 56, 51, 56, 52, 56, 53, 56, 54, 56, 55, 56, 56, 56, 57, 57, 48, 57, 49, 57, 50, 57, 51, 57, 52, 57, 53, 57, 54, 57, 55, 57, 56, 57, 57])).toArray).extract (IntKind.i64.wrap (n * 2)).toNat (IntKind.i64.wrap (IntKind.i64.wrap (n * 2) + 2)).toNat)))) []))))))
theorem fis_tree (n : Int) : growF Tryd.prog envP fisOrc 1000000 69 ([sI IntKind.i64 n, sI IntKind.i64 10]) ([]) fisSc = fisTree n := by kernel_rfl


theorem tab_le {T : ByteArray} (h : T.data.toList.all (fun c => Nat.ble c.toNat 8) = true) (j : Nat) : ((T.data.toList.getD j 0).toNat : Int) ≤ 8 := by
  rw [List.getD_eq_getElem?_getD]
  cases hj : T.data.toList[j]? with
  | none => simp
  | some c =>
    have := Nat.le_of_ble_eq_true (List.all_eq_true.1 h c (List.mem_of_getElem? hj))
    simp only [Option.getD_some]; omega

theorem u8In {n : Int} : 0 ≤ IntKind.u8.wrap n ∧ IntKind.u8.wrap n < 256 := by
  have e : IntKind.u8.wrap n = n % 256 := by
    unfold IntKind.wrap
    rw [if_neg (by simp [IntKind.signed])]
    rfl
  rw [e]
  exact ⟨Int.emod_nonneg _ (by decide), Int.emod_lt_of_pos _ (by decide)⟩

theorem len_rng {T : ByteArray} {j : Nat} {b : Int} (h : T.data.toList.all (fun c => Nat.ble c.toNat 8) = true) (h0 : 0 ≤ b) (h1 : b ≤ 32) :
    0 ≤ IntKind.i64.wrap (b + IntKind.i64.wrap ((T.data.toList.getD j 0).toNat : Int)) ∧ IntKind.i64.wrap (b + IntKind.i64.wrap ((T.data.toList.getD j 0).toNat : Int)) ≤ 40 := by
  have k := tab_le h j
  rw [i64In (n := ((T.data.toList.getD j 0).toNat : Int)) (by omega) (by omega), i64In (by omega) (by omega)]
  omega

theorem len_does (u : Int) (h0 : 0 ≤ u) (h1 : u < 8589934592) : ∃ k : Int, 0 ≤ k ∧ k ≤ 40 ∧ Does Tryd.prog envP 98 [.p (.sc (.int .u64 u))] [] (sI .i64 k) [] := by
  have inb : ∀ n : Int, (inB (IntKind.u8.wrap n) 256 && true) = true := fun n => by have := u8In (n := n); simp [inB]; omega
  by_cases c1 : u ≥ 4294967296
  · have e1 : u.fdiv 4294967296 = 1 := by rw [Int.fdiv_eq_ediv_of_nonneg _ (by omega)]; omega
    refine ⟨_, ?_, ?_, does_of_tree names (le_tree u _) ⟨fun _ => ⟨fun h => absurd (of_decide_eq_true h) (by rw [e1]; omega), fun _ => ⟨fun h => absurd (of_decide_eq_true h) (by rw [e1]; omega), fun _ => ⟨inb _, rfl, rfl⟩⟩⟩, fun h => absurd (of_decide_eq_false h) (by omega)⟩⟩
    · exact (len_rng (by kernel_rfl) (by omega) (by omega)).1
    · exact (len_rng (by kernel_rfl) (by omega) (by omega)).2
  · by_cases c2 : u ≥ 65536
    · by_cases c3 : u.fdiv 65536 ≥ 256
      · refine ⟨_, ?_, ?_, does_of_tree names (le_tree u _) ⟨fun h => absurd (of_decide_eq_true h) c1, fun _ => ⟨fun _ => ⟨fun _ => ⟨inb _, rfl, rfl⟩, fun h => absurd c3 (of_decide_eq_false h)⟩, fun h => absurd c2 (of_decide_eq_false h)⟩⟩⟩
        · exact (len_rng (by kernel_rfl) (by omega) (by omega)).1
        · exact (len_rng (by kernel_rfl) (by omega) (by omega)).2
      · refine ⟨_, ?_, ?_, does_of_tree names (le_tree u _) ⟨fun h => absurd (of_decide_eq_true h) c1, fun _ => ⟨fun _ => ⟨fun h => absurd (of_decide_eq_true h) c3, fun _ => ⟨inb _, rfl, rfl⟩⟩, fun h => absurd c2 (of_decide_eq_false h)⟩⟩⟩
        · exact (len_rng (by kernel_rfl) (by omega) (by omega)).1
        · exact (len_rng (by kernel_rfl) (by omega) (by omega)).2
    · by_cases c3 : u ≥ 256
      · refine ⟨_, ?_, ?_, does_of_tree names (le_tree u _) ⟨fun h => absurd (of_decide_eq_true h) c1, fun _ => ⟨fun h => absurd (of_decide_eq_true h) c2, fun _ => ⟨fun _ => ⟨inb _, rfl, rfl⟩, fun h => absurd c3 (of_decide_eq_false h)⟩⟩⟩⟩
        · exact (len_rng (by kernel_rfl) (by omega) (by omega)).1
        · exact (len_rng (by kernel_rfl) (by omega) (by omega)).2
      · refine ⟨_, ?_, ?_, does_of_tree names (le_tree u _) ⟨fun h => absurd (of_decide_eq_true h) c1, fun _ => ⟨fun h => absurd (of_decide_eq_true h) c2, fun _ => ⟨fun h => absurd (of_decide_eq_true h) c3, fun _ => ⟨inb _, rfl, rfl⟩⟩⟩⟩⟩
        · exact (len_rng (by kernel_rfl) (by omega) (by omega)).1
        · exact (len_rng (by kernel_rfl) (by omega) (by omega)).2

/-- How many digits are told: no more than thirteen. -/
theorem digits_does (u : Int) (h0 : 0 ≤ u) (h1 : u < 8589934592) : ∃ d : Nat, d ≤ 13 ∧ Does Tryd.prog envP 92 [.p (.sc (.int .u64 u))] [] (sI .i64 d) [] := by
  obtain ⟨k, k0, k1, hk⟩ := len_does u h0 h1
  have w1 : IntKind.i64.wrap (k * 78913) = k * 78913 := i64In (by omega) (by omega)
  have e1 : (k * 78913).fdiv 262144 = k * 78913 / 262144 := Int.fdiv_eq_ediv_of_nonneg _ (by omega)
  obtain ⟨i, hi⟩ := Int.eq_ofNat_of_zero_le (show 0 ≤ k * 78913 / 262144 by omega)
  have hi' : i ≤ 12 := by omega
  have w2 : IntKind.i64.wrap ((i : Int) + 1) = ((i + 1 : Nat) : Int) := by rw [i64In (by omega) (by omega)]; rfl
  have w3 : IntKind.i64.wrap ((i : Int) + 0) = (i : Int) := by rw [i64In (by omega) (by omega)]; omega
  have pick : ∀ b : Bool, ∃ d : Nat, d ≤ 13 ∧ (b = true → Out.ret (sI .i64 (IntKind.i64.wrap ((i : Int) + 1))) [] = Out.ret (sI .i64 d) []) ∧ (b = false → Out.ret (sI .i64 (IntKind.i64.wrap ((i : Int) + 0))) [] = Out.ret (sI .i64 d) []) := fun b => by
    rw [w2, w3]
    cases b
    · exact ⟨i, by omega, fun h => (by cases h), fun _ => rfl⟩
    · exact ⟨i + 1, by omega, fun _ => rfl, fun h => (by cases h)⟩
  have tree : ∀ (pw : Int) (v : AV), (ndTree u k pw).ok Tryd.prog envP (.ret v []) → Does Tryd.prog envP 92 [.p (.sc (.int .u64 u))] [] v [] := fun pw v h => does_of_tree names (nd_tree u k pw) h
  simp only [ndTree, Tree.ok, w1, e1, hi, Int.toNat_natCast] at tree
  obtain ⟨d, hd, p1, p2⟩ := pick _
  refine ⟨d, hd, tree _ _ ⟨hk, by simp [inB]; omega, ?_, rfl, p1, p2⟩⟩
  match i, hi' with
  | 0, _ | 1, _ | 2, _ | 3, _ | 4, _ | 5, _ | 6, _ | 7, _ | 8, _ | 9, _ | 10, _ | 11, _ | 12, _ => rfl
  | n + 13, h => omega
end Go.Proofs.YtjjloibfhgofcaaDoor.N
end
