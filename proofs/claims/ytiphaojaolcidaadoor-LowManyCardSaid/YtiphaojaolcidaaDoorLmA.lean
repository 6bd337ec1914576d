/-
  Programs of a great many things: how the checker stands.
-/
import Derived.Test.YtiphaojaolcidaaDoorLsKnown
namespace Go.Proofs.YtiphaojaolcidaaDoor.N
open Go Go.Am

def envM : Env where
  glob := env.glob
  wr := env.wr
  keep := keepAt [(3, 0, [0, 1, 2, 3, 9, 10]), (3, 4, [0, 1, 3, 11, 12]), (3, 8, [0, 3, 11, 13]), (14, 0, [0, 2, 3, 4, 15, 16, 17]), (19, 0, [0, 1, 2, 6]), (15, 0, [0, 4, 5, 6]), (16, 0, [0, 3, 4]), (17, 0, [0, 3, 4]), (18, 0, [0, 3, 4])]
  told f d := cond (Nat.beq f 3 && Nat.beq d 66) (some (sB true)) none

theorem Does.toM {f : FuncId} {args : List AV} {v : AV} {m m' : Mem} (h : Does Tryd.prog env f args m v m') : Does Tryd.prog envM f args m v m' := h.env fun _ _ h => h

/-- The checker: the program's functions, the function's list, what is left, whether there are too many. -/
abbrev chk (F L : List PV) (z : Nat) (t e : Int) (mn : Bool) : Blk := .ac [.os none 1 3 F, .os none 0 0 [], .os none 0 0 [], .p (.sc (.int .i64 4)), .p (.sc (.int .i64 0)), .p (.sc (.int .i64 0)), .p (.sc (.int .i64 0)), .p (.ps z 6 L), .p (.sc (.int .i64 t)), .p (.sc (.int .i64 e)), .p (.sc (.bool mn)), .p (.sc (.bool false)), .p (.sc (.bool false))]

/-- An expression's cells: a number; of one part, and so on. -/
def encE : Nat → List PV
  | 0 => [.sc (.int .i64 1), .sc (.int .i64 0), .ps 0 0 []]
  | k + 1 => [.sc (.int .i64 6), .sc (.int .i64 69), .ps 1 3 (encE k)]

def aggE : Nat → AV
  | 0 => .agg [sI .i64 1, sI .i64 0, .p (.ps 0 0 [])]
  | k + 1 => .agg [sI .i64 6, sI .i64 69, .p (.ps 1 3 (encE k))]

def noC' (_ : FuncId) (_ : List AV) (_ : Mem) : Option (AV × Mem) := none

/-- What kinds of things have. -/
def rulesV : AV := AV.agg [AV.p (PV.sc (Value.int IntKind.i64 0)), AV.p (PV.sc (Value.int IntKind.i64 0)), AV.p (PV.sc (Value.int IntKind.i64 0)), AV.p (PV.sc (Value.bool false)), AV.p (PV.sc (Value.bool false)), AV.p (PV.sc (Value.int IntKind.i64 0)), AV.p (PV.sc (Value.int IntKind.i64 1)), AV.p (PV.sc (Value.int IntKind.i64 1)), AV.p (PV.sc (Value.int IntKind.i64 1)), AV.p (PV.sc (Value.bool false)), AV.p (PV.sc (Value.bool false)), AV.p (PV.sc (Value.int IntKind.i64 0)), AV.p (PV.sc (Value.int IntKind.i64 1)), AV.p (PV.sc (Value.int IntKind.i64 1)), AV.p (PV.sc (Value.int IntKind.i64 2)), AV.p (PV.sc (Value.bool false)), AV.p (PV.sc (Value.bool false)), AV.p (PV.sc (Value.int IntKind.i64 0)), AV.p (PV.sc (Value.int IntKind.i64 2)), AV.p (PV.sc (Value.int IntKind.i64 2)), AV.p (PV.sc (Value.int IntKind.i64 0)), AV.p (PV.sc (Value.bool true)), AV.p (PV.sc (Value.bool false)), AV.p (PV.sc (Value.int IntKind.i64 0)), AV.p (PV.sc (Value.int IntKind.i64 2)), AV.p (PV.sc (Value.int IntKind.i64 2)), AV.p (PV.sc (Value.int IntKind.i64 0)), AV.p (PV.sc (Value.bool true)), AV.p (PV.sc (Value.bool false)), AV.p (PV.sc (Value.int IntKind.i64 0)), AV.p (PV.sc (Value.int IntKind.i64 1)), AV.p (PV.sc (Value.int IntKind.i64 1)), AV.p (PV.sc (Value.int IntKind.i64 0)), AV.p (PV.sc (Value.bool false)), AV.p (PV.sc (Value.bool true)), AV.p (PV.sc (Value.int IntKind.i64 1)), AV.p (PV.sc (Value.int IntKind.i64 0)), AV.p (PV.sc (Value.int IntKind.i64 0)), AV.p (PV.sc (Value.int IntKind.i64 0)), AV.p (PV.sc (Value.bool false)), AV.p (PV.sc (Value.bool true)), AV.p (PV.sc (Value.int IntKind.i64 0)), AV.p (PV.sc (Value.int IntKind.i64 0)), AV.p (PV.sc (Value.int IntKind.i64 0)), AV.p (PV.sc (Value.int IntKind.i64 0)), AV.p (PV.sc (Value.bool true)), AV.p (PV.sc (Value.bool false)), AV.p (PV.sc (Value.int IntKind.i64 0)), AV.p (PV.sc (Value.int IntKind.i64 1)), AV.p (PV.sc (Value.int IntKind.i64 1)), AV.p (PV.sc (Value.int IntKind.i64 0)), AV.p (PV.sc (Value.bool false)), AV.p (PV.sc (Value.bool true)), AV.p (PV.sc (Value.int IntKind.i64 1024)), AV.p (PV.sc (Value.int IntKind.i64 1)), AV.p (PV.sc (Value.int IntKind.i64 1)), AV.p (PV.sc (Value.int IntKind.i64 0)), AV.p (PV.sc (Value.bool false)), AV.p (PV.sc (Value.bool false)), AV.p (PV.sc (Value.int IntKind.i64 0)), AV.p (PV.sc (Value.int IntKind.i64 0)), AV.p (PV.sc (Value.int IntKind.i64 20)), AV.p (PV.sc (Value.int IntKind.i64 1)), AV.p (PV.sc (Value.bool true)), AV.p (PV.sc (Value.bool false)), AV.p (PV.sc (Value.int IntKind.i64 0)), AV.p (PV.sc (Value.int IntKind.i64 1)), AV.p (PV.sc (Value.int IntKind.i64 21)), AV.p (PV.sc (Value.int IntKind.i64 1)), AV.p (PV.sc (Value.bool false)), AV.p (PV.sc (Value.bool false)), AV.p (PV.sc (Value.int IntKind.i64 0)), AV.p (PV.sc (Value.int IntKind.i64 0)), AV.p (PV.sc (Value.int IntKind.i64 0)), AV.p (PV.sc (Value.int IntKind.i64 1)), AV.p (PV.sc (Value.bool false)), AV.p (PV.sc (Value.bool false)), AV.p (PV.sc (Value.int IntKind.i64 0)), AV.p (PV.sc (Value.int IntKind.i64 1)), AV.p (PV.sc (Value.int IntKind.i64 1)), AV.p (PV.sc (Value.int IntKind.i64 0)), AV.p (PV.sc (Value.bool false)), AV.p (PV.sc (Value.bool false)), AV.p (PV.sc (Value.int IntKind.i64 0)), AV.p (PV.sc (Value.int IntKind.i64 0)), AV.p (PV.sc (Value.int IntKind.i64 1)), AV.p (PV.sc (Value.int IntKind.i64 0)), AV.p (PV.sc (Value.bool true)), AV.p (PV.sc (Value.bool false)), AV.p (PV.sc (Value.int IntKind.i64 0))]

theorem rules_does : Does Tryd.prog envM 42 [] [] rulesV [] := Does.toM (does_fast (E := env) names (K := []) calls_nil (n := 100000) (by kernel_rfl))

def ledK (f : FuncId) (_ : List AV) (_ : Mem) : Option (AV × Mem) := cond (Nat.beq f 42) (some (rulesV, [])) none

end Go.Proofs.YtiphaojaolcidaaDoor.N
