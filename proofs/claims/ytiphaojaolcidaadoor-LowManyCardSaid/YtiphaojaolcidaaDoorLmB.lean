/-
  The program's checker, of things in one another and behind one another: what it counts.
-/
import Derived.Test.YtiphaojaolcidaaDoorLmA
set_option linter.unusedVariables false
set_option linter.unusedSimpArgs false
namespace Go.Proofs.YtiphaojaolcidaaDoor.N
open Go Go.Am

def e0A (d : Int) (_F _L : List PV) (_z : Nat) (_t _e : Int) (_mn : Bool) : List AV := [.mp 0 0, .agg [sI .i64 1, sI .i64 0, .p (.ps 0 0 [])], sI .i64 d, .mp 0 9]
def e0M (_d : Int) (F L : List PV) (z : Nat) (t e : Int) (mn : Bool) : Mem := [chk F L z t e mn]
def e1A (d : Int) (_F _L : List PV) (_z : Nat) (_t _e : Int) (_mn : Bool) (kd nn : Int) (zz y : Nat) (cs : List PV) (_e1 : Int) (_mn1 : Bool) : List AV := [.mp 0 0, .agg [sI .i64 6, sI .i64 69, .p (.ps 1 3 [.sc (.int .i64 kd), .sc (.int .i64 nn), .ps zz y cs])], sI .i64 d, .mp 0 9]
def e1M (_d : Int) (F L : List PV) (z : Nat) (t e : Int) (mn : Bool) (_kd _nn : Int) (_zz _y : Nat) (_cs : List PV) (_e1 : Int) (_mn1 : Bool) : Mem := [chk F L z t e mn]
def e1C (_d : Int) (F L : List PV) (z : Nat) (t _e : Int) (_mn : Bool) (_kd _nn : Int) (_zz _y : Nat) (_cs : List PV) (e1 : Int) (mn1 : Bool) (f : FuncId) (_ : List AV) (_ : Mem) : Option (AV × Mem) := cond (Nat.beq f 41) (some (.tup [], [chk F L z t e1 mn1])) none
def toA (lp : Int) (_F _L : List PV) (_z : Nat) (_t _e : Int) (_mn : Bool) (kd nn : Int) (zz y : Nat) (cs : List PV) (_e1 : Int) (_mn1 : Bool) : List AV := [.mp 0 0, .agg [sI .i64 13, sI .i64 0, sI .i64 0, .p (.ps 1 3 [.sc (.int .i64 kd), .sc (.int .i64 nn), .ps zz y cs]), .p (.ps 0 0 []), .p (.ps 0 0 [])], sI .i64 lp]
def toM (_lp : Int) (F L : List PV) (z : Nat) (t e : Int) (mn : Bool) (_kd _nn : Int) (_zz _y : Nat) (_cs : List PV) (_e1 : Int) (_mn1 : Bool) : Mem := [chk F L z t e mn]
def toC (_lp : Int) (F L : List PV) (z : Nat) (t _e : Int) (_mn : Bool) (_kd _nn : Int) (_zz _y : Nat) (_cs : List PV) (e1 : Int) (mn1 : Bool) (f : FuncId) (_ : List AV) (_ : Mem) : Option (AV × Mem) := cond (Nat.beq f 41) (some (.tup [], [chk F L z t e1 mn1])) none
def teA (lp : Int) (_F _L : List PV) (_z : Nat) (_t _e : Int) (_mn : Bool) : List AV := [.mp 0 0, .agg [sI .i64 14, sI .i64 0, sI .i64 0, .p (.ps 0 0 []), .p (.ps 0 0 []), .p (.ps 0 0 [])], sI .i64 lp]
def tlA (lp : Int) (_F _L : List PV) (_z : Nat) (_t _e : Int) (_mn : Bool) (cs : List PV) : List AV := [.mp 0 0, .agg [sI .i64 6, sI .i64 0, sI .i64 0, .p (.ps 0 0 []), .p (.ps 1 6 cs), .p (.ps 0 0 [])], sI .i64 lp]
def tlM (_lp : Int) (F L : List PV) (z : Nat) (t e : Int) (mn : Bool) (_cs : List PV) : Mem := [chk F L z t e mn]
def liA (d lp : Int) (_F _L : List PV) (_z : Nat) (_t _e : Int) (_mn : Bool) (n : Nat) (C : List PV) (_i : Nat) : List AV := [.mp 0 0, .p (.ps n 6 C), sI .i64 d, sI .i64 lp, .mp 0 8]
def liM (_d _lp : Int) (F L : List PV) (z : Nat) (t e : Int) (mn : Bool) (_n : Nat) (_C : List PV) (_i : Nat) : Mem := [chk F L z t e mn]
def lnA (d lp : Int) (_F _L : List PV) (_z : Nat) (_t _e : Int) (_mn : Bool) : List AV := [.mp 0 0, .p (.ps 0 0 []), sI .i64 d, sI .i64 lp, .mp 0 8]
def lnM (_d _lp : Int) (F L : List PV) (z : Nat) (t e : Int) (mn : Bool) : Mem := [chk F L z t e mn]
def heA (d lp : Int) (_F _L : List PV) (_z : Nat) (_t _e : Int) (_mn : Bool) (n : Nat) (C : List PV) (i : Nat) : List AV := [.mp 0 0, sI .i64 d, sI .i64 lp, .mp 0 8, .p (.ps n 6 C), sI .i64 n, sI .i64 i]
def boA (d lp : Int) (_F _L : List PV) (_z : Nat) (_t _e : Int) (_mn : Bool) (n : Nat) (C : List PV) (i : Nat) (_kd _nn : Int) (_zz _y : Nat) (_cs : List PV) (_e1 : Int) (_mn1 : Bool) : List AV := [.mp 0 0, sI .i64 d, sI .i64 lp, .mp 0 8, .p (.ps n 6 C), sI .i64 n, sI .i64 i]
def boM (_d _lp : Int) (F L : List PV) (z : Nat) (t e : Int) (mn : Bool) (_n : Nat) (_C : List PV) (_i : Nat) (_kd _nn : Int) (_zz _y : Nat) (_cs : List PV) (_e1 : Int) (_mn1 : Bool) : Mem := [chk F L z t e mn]
def boS (_d _lp : Int) (_F _L : List PV) (_z : Nat) (_t _e : Int) (_mn : Bool) (_n : Nat) (_C : List PV) (i : Nat) (kd nn : Int) (zz y : Nat) (cs : List PV) (_e1 : Int) (_mn1 : Bool) : FuncId → Nat → Nat → Option (AV → AV) := shapeAt [(14, 3, 1, .agg [sI .i64 13, sI .i64 0, sI .i64 0, .p (.ps 1 3 [.sc (.int .i64 kd), .sc (.int .i64 nn), .ps zz y cs]), .p (.ps 0 0 []), .p (.ps 0 0 [])]), (14, 17, 0, sI .i64 (i + 1 : Nat))]
def boC (_d _lp : Int) (F L : List PV) (z : Nat) (t _e : Int) (_mn : Bool) (_n : Nat) (_C : List PV) (_i : Nat) (_kd _nn : Int) (_zz _y : Nat) (_cs : List PV) (e1 : Int) (mn1 : Bool) (f : FuncId) (_ : List AV) (m : Mem) : Option (AV × Mem) := cond (Nat.beq f 27) (some (.tup [], [chk F L z (IntKind.i64.wrap (t - 1)) e1 mn1])) (cond (Nat.beq f 14) (some (.tup [], m)) none)
def beA (d lp : Int) (_F _L : List PV) (_z : Nat) (_t _e : Int) (_mn : Bool) (n : Nat) (C : List PV) (i : Nat) (_u : Unit) : List AV := [.mp 0 0, sI .i64 d, sI .i64 lp, .mp 0 8, .p (.ps n 6 C), sI .i64 n, sI .i64 i]
def beM (_d _lp : Int) (F L : List PV) (z : Nat) (t e : Int) (mn : Bool) (_n : Nat) (_C : List PV) (_i : Nat) (_u : Unit) : Mem := [chk F L z t e mn]
def beS (_d _lp : Int) (_F _L : List PV) (_z : Nat) (_t _e : Int) (_mn : Bool) (_n : Nat) (_C : List PV) (i : Nat) (_u : Unit) : FuncId → Nat → Nat → Option (AV → AV) := shapeAt [(14, 3, 1, .agg [sI .i64 14, sI .i64 0, sI .i64 0, .p (.ps 0 0 []), .p (.ps 0 0 []), .p (.ps 0 0 [])]), (14, 17, 0, sI .i64 (i + 1 : Nat))]
def beC (_d _lp : Int) (_F _L : List PV) (_z : Nat) (_t _e : Int) (_mn : Bool) (_n : Nat) (_C : List PV) (_i : Nat) (_u : Unit) (f : FuncId) (_ : List AV) (m : Mem) : Option (AV × Mem) := cond (Nat.beq f 27) (some (.tup [], m)) (cond (Nat.beq f 14) (some (.tup [], m)) none)
def blA (d lp : Int) (_F _L : List PV) (_z : Nat) (_t _e : Int) (_mn : Bool) (n : Nat) (C : List PV) (i : Nat) (_cs : List PV) (_t1 _e1 : Int) (_mn1 : Bool) : List AV := [.mp 0 0, sI .i64 d, sI .i64 lp, .mp 0 8, .p (.ps n 6 C), sI .i64 n, sI .i64 i]
def blM (_d _lp : Int) (F L : List PV) (z : Nat) (t e : Int) (mn : Bool) (_n : Nat) (_C : List PV) (_i : Nat) (_cs : List PV) (_t1 _e1 : Int) (_mn1 : Bool) : Mem := [chk F L z t e mn]
def blS (_d _lp : Int) (_F _L : List PV) (_z : Nat) (_t _e : Int) (_mn : Bool) (_n : Nat) (_C : List PV) (i : Nat) (cs : List PV) (_t1 _e1 : Int) (_mn1 : Bool) : FuncId → Nat → Nat → Option (AV → AV) := shapeAt [(14, 3, 1, .agg [sI .i64 6, sI .i64 0, sI .i64 0, .p (.ps 0 0 []), .p (.ps 1 6 cs), .p (.ps 0 0 [])]), (14, 17, 0, sI .i64 (i + 1 : Nat))]
def blC (_d _lp : Int) (F L : List PV) (z : Nat) (_t _e : Int) (_mn : Bool) (_n : Nat) (_C : List PV) (_i : Nat) (_cs : List PV) (t1 e1 : Int) (mn1 : Bool) (f : FuncId) (_ : List AV) (m : Mem) : Option (AV × Mem) := cond (Nat.beq f 27) (some (.tup [], m)) (cond (Nat.beq f 14) (some (.tup [], [chk F L z t1 e1 mn1])) none)

/- e0: 172 steps -/
noncomputable def e0Orc : Orc := orcL noC' noLed [] [(41, 3, 5), (41, 0, 0)] []
def e0Sc : Sc := (.fork (.lit .fin) .fin)
noncomputable def e0Tree (d : Int) (F : List PV) (L : List PV) (z : Nat) (t : Int) (e : Int) (mn : Bool) : Tree :=
  (.test (decide (IntKind.i64.wrap (e - 1) < 0))
   (.out (Out.ret (AV.tup []) [Blk.ac [AV.os Option.none 1 3 F, AV.os Option.none 0 0 [], AV.os Option.none 0 0 [], AV.p (PV.sc (Value.int IntKind.i64 4)), AV.p (PV.sc (Value.int IntKind.i64 0)), AV.p (PV.sc (Value.int IntKind.i64 0)), AV.p (PV.sc (Value.int IntKind.i64 0)), AV.p (PV.ps z 6 L), AV.p (PV.sc (Value.int IntKind.i64 t)), AV.p (PV.sc (Value.int IntKind.i64 (IntKind.i64.wrap (e - 1)))), AV.p (PV.sc (Value.bool true)), AV.p (PV.sc (Value.bool false)), AV.p (PV.sc (Value.bool false))]]))
   (.test (decide (d > 200))
    (.out (Out.ret (AV.tup []) [Blk.ac [AV.os Option.none 1 3 F, AV.os Option.none 0 0 [], AV.os Option.none 0 0 [], AV.p (PV.sc (Value.int IntKind.i64 4)), AV.p (PV.sc (Value.int IntKind.i64 0)), AV.p (PV.sc (Value.int IntKind.i64 0)), AV.p (PV.sc (Value.int IntKind.i64 0)), AV.p (PV.ps z 6 L), AV.p (PV.sc (Value.int IntKind.i64 t)), AV.p (PV.sc (Value.int IntKind.i64 (IntKind.i64.wrap (e - 1)))), AV.p (PV.sc (Value.bool true)), AV.p (PV.sc (Value.bool false)), AV.p (PV.sc (Value.bool false))]]))
    (.out (Out.ret (AV.tup []) [Blk.ac [AV.os Option.none 1 3 F, AV.os Option.none 0 0 [], AV.os Option.none 0 0 [], AV.p (PV.sc (Value.int IntKind.i64 4)), AV.p (PV.sc (Value.int IntKind.i64 0)), AV.p (PV.sc (Value.int IntKind.i64 0)), AV.p (PV.sc (Value.int IntKind.i64 0)), AV.p (PV.ps z 6 L), AV.p (PV.sc (Value.int IntKind.i64 t)), AV.p (PV.sc (Value.int IntKind.i64 (IntKind.i64.wrap (e - 1)))), AV.p (PV.sc (Value.bool mn)), AV.p (PV.sc (Value.bool false)), AV.p (PV.sc (Value.bool false))]]))))
theorem e0_tree (d : Int) (F : List PV) (L : List PV) (z : Nat) (t : Int) (e : Int) (mn : Bool) : growF Tryd.prog envM e0Orc 1000000 41 ([AV.mp 0 0, AV.agg [sI IntKind.i64 1, sI IntKind.i64 0, AV.p (PV.ps 0 0 [])], sI IntKind.i64 d, AV.mp 0 9]) ([chk F L z t e mn]) e0Sc = e0Tree d F L z t e mn := by kernel_rfl

/- e1: 291 steps -/
noncomputable def e1Orc (d : Int) (F : List PV) (L : List PV) (z : Nat) (t : Int) (e : Int) (mn : Bool) (kd : Int) (nn : Int) (zz : Nat) (y : Nat) (cs : List PV) (e1 : Int) (mn1 : Bool) : Orc := orcL (e1C d F L z t e mn kd nn zz y cs e1 mn1) ledK [] [(41, 3, 5), (41, 0, 0)] []
def e1Sc : Sc := (.fork (.lit .fin) .fin)
noncomputable def e1Tree (d : Int) (F : List PV) (L : List PV) (z : Nat) (t : Int) (e : Int) (mn : Bool) (kd : Int) (nn : Int) (zz : Nat) (y : Nat) (cs : List PV) (e1 : Int) (mn1 : Bool) : Tree :=
  (.test (decide (IntKind.i64.wrap (e - 1) < 0))
   (.out (Out.ret (AV.tup []) [Blk.ac [AV.os Option.none 1 3 F, AV.os Option.none 0 0 [], AV.os Option.none 0 0 [], AV.p (PV.sc (Value.int IntKind.i64 4)), AV.p (PV.sc (Value.int IntKind.i64 0)), AV.p (PV.sc (Value.int IntKind.i64 0)), AV.p (PV.sc (Value.int IntKind.i64 0)), AV.p (PV.ps z 6 L), AV.p (PV.sc (Value.int IntKind.i64 t)), AV.p (PV.sc (Value.int IntKind.i64 (IntKind.i64.wrap (e - 1)))), AV.p (PV.sc (Value.bool true)), AV.p (PV.sc (Value.bool false)), AV.p (PV.sc (Value.bool false))]]))
   (.test (decide (d > 200))
    (.out (Out.ret (AV.tup []) [Blk.ac [AV.os Option.none 1 3 F, AV.os Option.none 0 0 [], AV.os Option.none 0 0 [], AV.p (PV.sc (Value.int IntKind.i64 4)), AV.p (PV.sc (Value.int IntKind.i64 0)), AV.p (PV.sc (Value.int IntKind.i64 0)), AV.p (PV.sc (Value.int IntKind.i64 0)), AV.p (PV.ps z 6 L), AV.p (PV.sc (Value.int IntKind.i64 t)), AV.p (PV.sc (Value.int IntKind.i64 (IntKind.i64.wrap (e - 1)))), AV.p (PV.sc (Value.bool true)), AV.p (PV.sc (Value.bool false)), AV.p (PV.sc (Value.bool false))]]))
    (.call ⟨41, [AV.mp 0 0, AV.agg [AV.p (PV.sc (Value.int IntKind.i64 kd)), AV.p (PV.sc (Value.int IntKind.i64 nn)), AV.p (PV.ps zz y cs)], AV.p (PV.sc (Value.int IntKind.i64 (IntKind.i64.wrap (d + 1)))), AV.mp 0 9], [Blk.ac [AV.os Option.none 1 3 F, AV.os Option.none 0 0 [], AV.os Option.none 0 0 [], AV.p (PV.sc (Value.int IntKind.i64 4)), AV.p (PV.sc (Value.int IntKind.i64 0)), AV.p (PV.sc (Value.int IntKind.i64 0)), AV.p (PV.sc (Value.int IntKind.i64 0)), AV.p (PV.ps z 6 L), AV.p (PV.sc (Value.int IntKind.i64 t)), AV.p (PV.sc (Value.int IntKind.i64 (IntKind.i64.wrap (e - 1)))), AV.p (PV.sc (Value.bool mn)), AV.p (PV.sc (Value.bool false)), AV.p (PV.sc (Value.bool false))]], AV.tup [], [Blk.ac [AV.os Option.none 1 3 F, AV.os Option.none 0 0 [], AV.os Option.none 0 0 [], AV.p (PV.sc (Value.int IntKind.i64 4)), AV.p (PV.sc (Value.int IntKind.i64 0)), AV.p (PV.sc (Value.int IntKind.i64 0)), AV.p (PV.sc (Value.int IntKind.i64 0)), AV.p (PV.ps z 6 L), AV.p (PV.sc (Value.int IntKind.i64 t)), AV.p (PV.sc (Value.int IntKind.i64 e1)), AV.p (PV.sc (Value.bool mn1)), AV.p (PV.sc (Value.bool false)), AV.p (PV.sc (Value.bool false))]]⟩
     (.out (Out.ret (AV.tup []) [Blk.ac [AV.os Option.none 1 3 F, AV.os Option.none 0 0 [], AV.os Option.none 0 0 [], AV.p (PV.sc (Value.int IntKind.i64 4)), AV.p (PV.sc (Value.int IntKind.i64 0)), AV.p (PV.sc (Value.int IntKind.i64 0)), AV.p (PV.sc (Value.int IntKind.i64 0)), AV.p (PV.ps z 6 L), AV.p (PV.sc (Value.int IntKind.i64 t)), AV.p (PV.sc (Value.int IntKind.i64 e1)), AV.p (PV.sc (Value.bool mn1)), AV.p (PV.sc (Value.bool false)), AV.p (PV.sc (Value.bool false))]])))))
theorem e1_tree (d : Int) (F : List PV) (L : List PV) (z : Nat) (t : Int) (e : Int) (mn : Bool) (kd : Int) (nn : Int) (zz : Nat) (y : Nat) (cs : List PV) (e1 : Int) (mn1 : Bool) : growF Tryd.prog envM (e1Orc d F L z t e mn kd nn zz y cs e1 mn1) 1000000 41 ([AV.mp 0 0, AV.agg [sI IntKind.i64 6, sI IntKind.i64 69, AV.p (PV.ps 1 3 [PV.sc (Value.int IntKind.i64 kd), PV.sc (Value.int IntKind.i64 nn), PV.ps zz y cs])], sI IntKind.i64 d, AV.mp 0 9]) ([chk F L z t e mn]) e1Sc = e1Tree d F L z t e mn kd nn zz y cs e1 mn1 := by kernel_rfl

/- to: 286 steps -/
noncomputable def toOrc (lp : Int) (F : List PV) (L : List PV) (z : Nat) (t : Int) (e : Int) (mn : Bool) (kd : Int) (nn : Int) (zz : Nat) (y : Nat) (cs : List PV) (e1 : Int) (mn1 : Bool) : Orc := orcL (toC lp F L z t e mn kd nn zz y cs e1 mn1) ledK [] [] []
def toSc : Sc := .fin
noncomputable def toTree (_lp : Int) (F : List PV) (L : List PV) (z : Nat) (t : Int) (e : Int) (mn : Bool) (kd : Int) (nn : Int) (zz : Nat) (y : Nat) (cs : List PV) (e1 : Int) (mn1 : Bool) : Tree :=
  (.call ⟨41, [AV.mp 0 0, AV.agg [AV.p (PV.sc (Value.int IntKind.i64 kd)), AV.p (PV.sc (Value.int IntKind.i64 nn)), AV.p (PV.ps zz y cs)], AV.p (PV.sc (Value.int IntKind.i64 1)), AV.mp 0 9], [Blk.ac [AV.os Option.none 1 3 F, AV.os Option.none 0 0 [], AV.os Option.none 0 0 [], AV.p (PV.sc (Value.int IntKind.i64 4)), AV.p (PV.sc (Value.int IntKind.i64 0)), AV.p (PV.sc (Value.int IntKind.i64 0)), AV.p (PV.sc (Value.int IntKind.i64 0)), AV.p (PV.ps z 6 L), AV.p (PV.sc (Value.int IntKind.i64 t)), AV.p (PV.sc (Value.int IntKind.i64 e)), AV.p (PV.sc (Value.bool mn)), AV.p (PV.sc (Value.bool false)), AV.p (PV.sc (Value.bool false))]], AV.tup [], [Blk.ac [AV.os Option.none 1 3 F, AV.os Option.none 0 0 [], AV.os Option.none 0 0 [], AV.p (PV.sc (Value.int IntKind.i64 4)), AV.p (PV.sc (Value.int IntKind.i64 0)), AV.p (PV.sc (Value.int IntKind.i64 0)), AV.p (PV.sc (Value.int IntKind.i64 0)), AV.p (PV.ps z 6 L), AV.p (PV.sc (Value.int IntKind.i64 t)), AV.p (PV.sc (Value.int IntKind.i64 e1)), AV.p (PV.sc (Value.bool mn1)), AV.p (PV.sc (Value.bool false)), AV.p (PV.sc (Value.bool false))]]⟩
   (.call ⟨42, [], [], rulesV, []⟩
    (.out (Out.ret (AV.tup []) [Blk.ac [AV.os Option.none 1 3 F, AV.os Option.none 0 0 [], AV.os Option.none 0 0 [], AV.p (PV.sc (Value.int IntKind.i64 4)), AV.p (PV.sc (Value.int IntKind.i64 0)), AV.p (PV.sc (Value.int IntKind.i64 0)), AV.p (PV.sc (Value.int IntKind.i64 0)), AV.p (PV.ps z 6 L), AV.p (PV.sc (Value.int IntKind.i64 t)), AV.p (PV.sc (Value.int IntKind.i64 e1)), AV.p (PV.sc (Value.bool mn1)), AV.p (PV.sc (Value.bool false)), AV.p (PV.sc (Value.bool false))]]))))
theorem to_tree (lp : Int) (F : List PV) (L : List PV) (z : Nat) (t : Int) (e : Int) (mn : Bool) (kd : Int) (nn : Int) (zz : Nat) (y : Nat) (cs : List PV) (e1 : Int) (mn1 : Bool) : growF Tryd.prog envM (toOrc lp F L z t e mn kd nn zz y cs e1 mn1) 1000000 27 ([AV.mp 0 0, AV.agg [sI IntKind.i64 13, sI IntKind.i64 0, sI IntKind.i64 0, AV.p (PV.ps 1 3 [PV.sc (Value.int IntKind.i64 kd), PV.sc (Value.int IntKind.i64 nn), PV.ps zz y cs]), AV.p (PV.ps 0 0 []), AV.p (PV.ps 0 0 [])], sI IntKind.i64 lp]) ([chk F L z t e mn]) toSc = toTree lp F L z t e mn kd nn zz y cs e1 mn1 := by kernel_rfl

/- te: 304 steps -/
noncomputable def teOrc : Orc := orcL noC' ledK [] [] []
def teSc : Sc := .fin
noncomputable def teTree (_lp : Int) (F : List PV) (L : List PV) (z : Nat) (t : Int) (e : Int) (mn : Bool) : Tree :=
  (.call ⟨42, [], [], rulesV, []⟩
   (.out (Out.ret (AV.tup []) [Blk.ac [AV.os Option.none 1 3 F, AV.os Option.none 0 0 [], AV.os Option.none 0 0 [], AV.p (PV.sc (Value.int IntKind.i64 4)), AV.p (PV.sc (Value.int IntKind.i64 0)), AV.p (PV.sc (Value.int IntKind.i64 0)), AV.p (PV.sc (Value.int IntKind.i64 0)), AV.p (PV.ps z 6 L), AV.p (PV.sc (Value.int IntKind.i64 t)), AV.p (PV.sc (Value.int IntKind.i64 e)), AV.p (PV.sc (Value.bool mn)), AV.p (PV.sc (Value.bool false)), AV.p (PV.sc (Value.bool false))]])))
theorem te_tree (lp : Int) (F : List PV) (L : List PV) (z : Nat) (t : Int) (e : Int) (mn : Bool) : growF Tryd.prog envM teOrc 1000000 27 ([AV.mp 0 0, AV.agg [sI IntKind.i64 14, sI IntKind.i64 0, sI IntKind.i64 0, AV.p (PV.ps 0 0 []), AV.p (PV.ps 0 0 []), AV.p (PV.ps 0 0 [])], sI IntKind.i64 lp]) ([chk F L z t e mn]) teSc = teTree lp F L z t e mn := by kernel_rfl

/- tl: 261 steps -/
noncomputable def tlOrc : Orc := orcL noC' ledK [] [] []
def tlSc : Sc := .fin
noncomputable def tlTree (_lp : Int) (F : List PV) (L : List PV) (z : Nat) (t : Int) (e : Int) (mn : Bool) (_cs : List PV) : Tree :=
  (.call ⟨42, [], [], rulesV, []⟩
   (.out (Out.ret (AV.tup []) [Blk.ac [AV.os Option.none 1 3 F, AV.os Option.none 0 0 [], AV.os Option.none 0 0 [], AV.p (PV.sc (Value.int IntKind.i64 4)), AV.p (PV.sc (Value.int IntKind.i64 0)), AV.p (PV.sc (Value.int IntKind.i64 0)), AV.p (PV.sc (Value.int IntKind.i64 0)), AV.p (PV.ps z 6 L), AV.p (PV.sc (Value.int IntKind.i64 t)), AV.p (PV.sc (Value.int IntKind.i64 e)), AV.p (PV.sc (Value.bool mn)), AV.p (PV.sc (Value.bool false)), AV.p (PV.sc (Value.bool false))]])))
theorem tl_tree (lp : Int) (F : List PV) (L : List PV) (z : Nat) (t : Int) (e : Int) (mn : Bool) (cs : List PV) : growF Tryd.prog envM tlOrc 1000000 27 ([AV.mp 0 0, AV.agg [sI IntKind.i64 6, sI IntKind.i64 0, sI IntKind.i64 0, AV.p (PV.ps 0 0 []), AV.p (PV.ps 1 6 cs), AV.p (PV.ps 0 0 [])], sI IntKind.i64 lp]) ([chk F L z t e mn]) tlSc = tlTree lp F L z t e mn cs := by kernel_rfl

/- li: 8 steps -/
noncomputable def liOrc : Orc := orcL noC' noLed [(14, 0)] [] []
def liSc : Sc := .fin
noncomputable def liTree (d : Int) (lp : Int) (F : List PV) (L : List PV) (z : Nat) (t : Int) (e : Int) (mn : Bool) (n : Nat) (C : List PV) (_i : Nat) : Tree :=
  (.at (bodyCfg Tryd.prog envM 14 0 [AV.mp 0 0, AV.p (PV.sc (Value.int IntKind.i64 d)), AV.p (PV.sc (Value.int IntKind.i64 lp)), AV.mp 0 8, AV.p (PV.ps n 6 C), AV.p (PV.sc (Value.int IntKind.i64 (↑n : Int))), AV.p (PV.sc (Value.int IntKind.i64 0))] ([Blk.ac [AV.os Option.none 1 3 F, AV.os Option.none 0 0 [], AV.os Option.none 0 0 [], AV.p (PV.sc (Value.int IntKind.i64 4)), AV.p (PV.sc (Value.int IntKind.i64 0)), AV.p (PV.sc (Value.int IntKind.i64 0)), AV.p (PV.sc (Value.int IntKind.i64 0)), AV.p (PV.ps z 6 L), AV.p (PV.sc (Value.int IntKind.i64 t)), AV.p (PV.sc (Value.int IntKind.i64 e)), AV.p (PV.sc (Value.bool mn)), AV.p (PV.sc (Value.bool false)), AV.p (PV.sc (Value.bool false))]]) 1 71))
theorem li_tree (d : Int) (lp : Int) (F : List PV) (L : List PV) (z : Nat) (t : Int) (e : Int) (mn : Bool) (n : Nat) (C : List PV) (i : Nat) : growF Tryd.prog envM liOrc 1000000 14 ([AV.mp 0 0, AV.p (PV.ps n 6 C), sI IntKind.i64 d, sI IntKind.i64 lp, AV.mp 0 8]) ([chk F L z t e mn]) liSc = liTree d lp F L z t e mn n C i := by kernel_rfl

/- ln: 17 steps -/
noncomputable def lnOrc : Orc := orcL noC' noLed [] [] []
def lnSc : Sc := .fin
noncomputable def lnTree (_d : Int) (_lp : Int) (F : List PV) (L : List PV) (z : Nat) (t : Int) (e : Int) (mn : Bool) : Tree :=
  (.out (Out.ret (AV.tup []) [Blk.ac [AV.os Option.none 1 3 F, AV.os Option.none 0 0 [], AV.os Option.none 0 0 [], AV.p (PV.sc (Value.int IntKind.i64 4)), AV.p (PV.sc (Value.int IntKind.i64 0)), AV.p (PV.sc (Value.int IntKind.i64 0)), AV.p (PV.sc (Value.int IntKind.i64 0)), AV.p (PV.ps z 6 L), AV.p (PV.sc (Value.int IntKind.i64 t)), AV.p (PV.sc (Value.int IntKind.i64 e)), AV.p (PV.sc (Value.bool mn)), AV.p (PV.sc (Value.bool false)), AV.p (PV.sc (Value.bool false))]]))
theorem ln_tree (d : Int) (lp : Int) (F : List PV) (L : List PV) (z : Nat) (t : Int) (e : Int) (mn : Bool) : growF Tryd.prog envM lnOrc 1000000 14 ([AV.mp 0 0, AV.p (PV.ps 0 0 []), sI IntKind.i64 d, sI IntKind.i64 lp, AV.mp 0 8]) ([chk F L z t e mn]) lnSc = lnTree d lp F L z t e mn := by kernel_rfl

/- bo: 122 steps -/
noncomputable def boOrc (d : Int) (lp : Int) (F : List PV) (L : List PV) (z : Nat) (t : Int) (e : Int) (mn : Bool) (n : Nat) (C : List PV) (i : Nat) (kd : Int) (nn : Int) (zz : Nat) (y : Nat) (cs : List PV) (e1 : Int) (mn1 : Bool) : Orc := orcS (boC d lp F L z t e mn n C i kd nn zz y cs e1 mn1) noLed [(14, 0)] [(14, 0, 1), (14, 5, 5), (14, 0, 2)] [(14, 3, 0), (14, 3, 1)] (boS d lp F L z t e mn n C i kd nn zz y cs e1 mn1)
def boSc : Sc := (.fork (.fork (.lit .fin) .fin) .fin)
noncomputable def boTree (d : Int) (lp : Int) (F : List PV) (L : List PV) (z : Nat) (t : Int) (e : Int) (mn : Bool) (n : Nat) (C : List PV) (i : Nat) (kd : Int) (nn : Int) (zz : Nat) (y : Nat) (cs : List PV) (e1 : Int) (mn1 : Bool) : Tree :=
  (.test (decide ((↑i : Int) < (↑n : Int)))
   (.must (inB (↑i : Int) n && true && true)
    (.must (isInt IntKind.i64 (C.getD ((↑i : Int).toNat * 6) PV.bad) && (isInt IntKind.i64 (C.getD ((↑i : Int).toNat * 6 + 1) PV.bad) && (isInt IntKind.i64 (C.getD ((↑i : Int).toNat * 6 + 1 + 1) PV.bad) && (isPs (C.getD ((↑i : Int).toNat * 6 + 1 + 1 + 1) PV.bad) && (isPs (C.getD ((↑i : Int).toNat * 6 + 1 + 1 + 1 + 1) PV.bad) && (isPs (C.getD ((↑i : Int).toNat * 6 + 1 + 1 + 1 + 1 + 1) PV.bad) && true))))) && true)
     (.need (AV.agg [AV.p (PV.sc (Value.int IntKind.i64 (pvInt (C.getD ((↑i : Int).toNat * 6) PV.bad)))), AV.p (PV.sc (Value.int IntKind.i64 (pvInt (C.getD ((↑i : Int).toNat * 6 + 1) PV.bad)))), AV.p (PV.sc (Value.int IntKind.i64 (pvInt (C.getD ((↑i : Int).toNat * 6 + 1 + 1) PV.bad)))), AV.p (PV.ps (psLen (C.getD ((↑i : Int).toNat * 6 + 1 + 1 + 1) PV.bad)) (psSz (C.getD ((↑i : Int).toNat * 6 + 1 + 1 + 1) PV.bad)) (psCells (C.getD ((↑i : Int).toNat * 6 + 1 + 1 + 1) PV.bad))), AV.p (PV.ps (psLen (C.getD ((↑i : Int).toNat * 6 + 1 + 1 + 1 + 1) PV.bad)) (psSz (C.getD ((↑i : Int).toNat * 6 + 1 + 1 + 1 + 1) PV.bad)) (psCells (C.getD ((↑i : Int).toNat * 6 + 1 + 1 + 1 + 1) PV.bad))), AV.p (PV.ps (psLen (C.getD ((↑i : Int).toNat * 6 + 1 + 1 + 1 + 1 + 1) PV.bad)) (psSz (C.getD ((↑i : Int).toNat * 6 + 1 + 1 + 1 + 1 + 1) PV.bad)) (psCells (C.getD ((↑i : Int).toNat * 6 + 1 + 1 + 1 + 1 + 1) PV.bad)))] = AV.agg [sI IntKind.i64 13, sI IntKind.i64 0, sI IntKind.i64 0, AV.p (PV.ps 1 3 [PV.sc (Value.int IntKind.i64 kd), PV.sc (Value.int IntKind.i64 nn), PV.ps zz y cs]), AV.p (PV.ps 0 0 []), AV.p (PV.ps 0 0 [])])
      (.test (decide (IntKind.i64.wrap (t - 1) < 0))
       (.out (Out.ret (AV.tup []) [Blk.ac [AV.os Option.none 1 3 F, AV.os Option.none 0 0 [], AV.os Option.none 0 0 [], AV.p (PV.sc (Value.int IntKind.i64 4)), AV.p (PV.sc (Value.int IntKind.i64 0)), AV.p (PV.sc (Value.int IntKind.i64 0)), AV.p (PV.sc (Value.int IntKind.i64 0)), AV.p (PV.ps z 6 L), AV.p (PV.sc (Value.int IntKind.i64 (IntKind.i64.wrap (t - 1)))), AV.p (PV.sc (Value.int IntKind.i64 e)), AV.p (PV.sc (Value.bool true)), AV.p (PV.sc (Value.bool false)), AV.p (PV.sc (Value.bool false))]]))
       (.test (decide (d > 200))
        (.out (Out.ret (AV.tup []) [Blk.ac [AV.os Option.none 1 3 F, AV.os Option.none 0 0 [], AV.os Option.none 0 0 [], AV.p (PV.sc (Value.int IntKind.i64 4)), AV.p (PV.sc (Value.int IntKind.i64 0)), AV.p (PV.sc (Value.int IntKind.i64 0)), AV.p (PV.sc (Value.int IntKind.i64 0)), AV.p (PV.ps z 6 L), AV.p (PV.sc (Value.int IntKind.i64 (IntKind.i64.wrap (t - 1)))), AV.p (PV.sc (Value.int IntKind.i64 e)), AV.p (PV.sc (Value.bool true)), AV.p (PV.sc (Value.bool false)), AV.p (PV.sc (Value.bool false))]]))
        (.call ⟨27, [AV.mp 0 0, AV.agg [AV.p (PV.sc (Value.int IntKind.i64 13)), AV.p (PV.sc (Value.int IntKind.i64 0)), AV.p (PV.sc (Value.int IntKind.i64 0)), AV.p (PV.ps 1 3 [PV.sc (Value.int IntKind.i64 kd), PV.sc (Value.int IntKind.i64 nn), PV.ps zz y cs]), AV.p (PV.ps 0 0 []), AV.p (PV.ps 0 0 [])], AV.p (PV.sc (Value.int IntKind.i64 lp))], [Blk.ac [AV.os Option.none 1 3 F, AV.os Option.none 0 0 [], AV.os Option.none 0 0 [], AV.p (PV.sc (Value.int IntKind.i64 4)), AV.p (PV.sc (Value.int IntKind.i64 0)), AV.p (PV.sc (Value.int IntKind.i64 0)), AV.p (PV.sc (Value.int IntKind.i64 0)), AV.p (PV.ps z 6 L), AV.p (PV.sc (Value.int IntKind.i64 (IntKind.i64.wrap (t - 1)))), AV.p (PV.sc (Value.int IntKind.i64 e)), AV.p (PV.sc (Value.bool mn)), AV.p (PV.sc (Value.bool false)), AV.p (PV.sc (Value.bool false))]], AV.tup [], [Blk.ac [AV.os Option.none 1 3 F, AV.os Option.none 0 0 [], AV.os Option.none 0 0 [], AV.p (PV.sc (Value.int IntKind.i64 4)), AV.p (PV.sc (Value.int IntKind.i64 0)), AV.p (PV.sc (Value.int IntKind.i64 0)), AV.p (PV.sc (Value.int IntKind.i64 0)), AV.p (PV.ps z 6 L), AV.p (PV.sc (Value.int IntKind.i64 (IntKind.i64.wrap (t - 1)))), AV.p (PV.sc (Value.int IntKind.i64 e1)), AV.p (PV.sc (Value.bool mn1)), AV.p (PV.sc (Value.bool false)), AV.p (PV.sc (Value.bool false))]]⟩
         (.call ⟨14, [AV.mp 0 0, AV.p (PV.ps 0 0 []), AV.p (PV.sc (Value.int IntKind.i64 (IntKind.i64.wrap (d + 1)))), AV.p (PV.sc (Value.int IntKind.i64 lp)), AV.mp 0 8], [Blk.ac [AV.os Option.none 1 3 F, AV.os Option.none 0 0 [], AV.os Option.none 0 0 [], AV.p (PV.sc (Value.int IntKind.i64 4)), AV.p (PV.sc (Value.int IntKind.i64 0)), AV.p (PV.sc (Value.int IntKind.i64 0)), AV.p (PV.sc (Value.int IntKind.i64 0)), AV.p (PV.ps z 6 L), AV.p (PV.sc (Value.int IntKind.i64 (IntKind.i64.wrap (t - 1)))), AV.p (PV.sc (Value.int IntKind.i64 e1)), AV.p (PV.sc (Value.bool mn1)), AV.p (PV.sc (Value.bool false)), AV.p (PV.sc (Value.bool false))]], AV.tup [], [Blk.ac [AV.os Option.none 1 3 F, AV.os Option.none 0 0 [], AV.os Option.none 0 0 [], AV.p (PV.sc (Value.int IntKind.i64 4)), AV.p (PV.sc (Value.int IntKind.i64 0)), AV.p (PV.sc (Value.int IntKind.i64 0)), AV.p (PV.sc (Value.int IntKind.i64 0)), AV.p (PV.ps z 6 L), AV.p (PV.sc (Value.int IntKind.i64 (IntKind.i64.wrap (t - 1)))), AV.p (PV.sc (Value.int IntKind.i64 e1)), AV.p (PV.sc (Value.bool mn1)), AV.p (PV.sc (Value.bool false)), AV.p (PV.sc (Value.bool false))]]⟩
          (.need (AV.p (PV.sc (Value.int IntKind.i64 (IntKind.i64.wrap ((↑i : Int) + 1)))) = sI IntKind.i64 (↑(i + 1) : Int))
           (.at (bodyCfg Tryd.prog envM 14 0 [AV.mp 0 0, AV.p (PV.sc (Value.int IntKind.i64 d)), AV.p (PV.sc (Value.int IntKind.i64 lp)), AV.mp 0 8, AV.p (PV.ps n 6 C), AV.p (PV.sc (Value.int IntKind.i64 (↑n : Int))), AV.p (PV.sc (Value.int IntKind.i64 (↑(i + 1) : Int)))] ([Blk.ac [AV.os Option.none 1 3 F, AV.os Option.none 0 0 [], AV.os Option.none 0 0 [], AV.p (PV.sc (Value.int IntKind.i64 4)), AV.p (PV.sc (Value.int IntKind.i64 0)), AV.p (PV.sc (Value.int IntKind.i64 0)), AV.p (PV.sc (Value.int IntKind.i64 0)), AV.p (PV.ps z 6 L), AV.p (PV.sc (Value.int IntKind.i64 (IntKind.i64.wrap (t - 1)))), AV.p (PV.sc (Value.int IntKind.i64 e1)), AV.p (PV.sc (Value.bool mn1)), AV.p (PV.sc (Value.bool false)), AV.p (PV.sc (Value.bool false))]]) 1 71))))))))))
   (.out (Out.ret (AV.tup []) [Blk.ac [AV.os Option.none 1 3 F, AV.os Option.none 0 0 [], AV.os Option.none 0 0 [], AV.p (PV.sc (Value.int IntKind.i64 4)), AV.p (PV.sc (Value.int IntKind.i64 0)), AV.p (PV.sc (Value.int IntKind.i64 0)), AV.p (PV.sc (Value.int IntKind.i64 0)), AV.p (PV.ps z 6 L), AV.p (PV.sc (Value.int IntKind.i64 t)), AV.p (PV.sc (Value.int IntKind.i64 e)), AV.p (PV.sc (Value.bool mn)), AV.p (PV.sc (Value.bool false)), AV.p (PV.sc (Value.bool false))]])))
theorem bo_tree (d : Int) (lp : Int) (F : List PV) (L : List PV) (z : Nat) (t : Int) (e : Int) (mn : Bool) (n : Nat) (C : List PV) (i : Nat) (kd : Int) (nn : Int) (zz : Nat) (y : Nat) (cs : List PV) (e1 : Int) (mn1 : Bool) : grow Tryd.prog envM (boOrc d lp F L z t e mn n C i kd nn zz y cs e1 mn1) 1000000 true (bodyCfg Tryd.prog envM 14 0 ([AV.mp 0 0, sI IntKind.i64 d, sI IntKind.i64 lp, AV.mp 0 8, AV.p (PV.ps n 6 C), sI IntKind.i64 (↑n : Int), sI IntKind.i64 (↑i : Int)]) ([chk F L z t e mn]) 1 71) boSc atEnd = boTree d lp F L z t e mn n C i kd nn zz y cs e1 mn1 := by kernel_rfl

/- be: 122 steps -/
noncomputable def beOrc (d : Int) (lp : Int) (F : List PV) (L : List PV) (z : Nat) (t : Int) (e : Int) (mn : Bool) (n : Nat) (C : List PV) (i : Nat) (u : Unit) : Orc := orcS (beC d lp F L z t e mn n C i u) noLed [(14, 0)] [(14, 0, 1), (14, 5, 5), (14, 0, 2)] [(14, 3, 0), (14, 3, 1)] (beS d lp F L z t e mn n C i u)
def beSc : Sc := (.fork (.fork (.lit .fin) .fin) .fin)
noncomputable def beTree (d : Int) (lp : Int) (F : List PV) (L : List PV) (z : Nat) (t : Int) (e : Int) (mn : Bool) (n : Nat) (C : List PV) (i : Nat) (_u : Unit) : Tree :=
  (.test (decide ((↑i : Int) < (↑n : Int)))
   (.must (inB (↑i : Int) n && true && true)
    (.must (isInt IntKind.i64 (C.getD ((↑i : Int).toNat * 6) PV.bad) && (isInt IntKind.i64 (C.getD ((↑i : Int).toNat * 6 + 1) PV.bad) && (isInt IntKind.i64 (C.getD ((↑i : Int).toNat * 6 + 1 + 1) PV.bad) && (isPs (C.getD ((↑i : Int).toNat * 6 + 1 + 1 + 1) PV.bad) && (isPs (C.getD ((↑i : Int).toNat * 6 + 1 + 1 + 1 + 1) PV.bad) && (isPs (C.getD ((↑i : Int).toNat * 6 + 1 + 1 + 1 + 1 + 1) PV.bad) && true))))) && true)
     (.need (AV.agg [AV.p (PV.sc (Value.int IntKind.i64 (pvInt (C.getD ((↑i : Int).toNat * 6) PV.bad)))), AV.p (PV.sc (Value.int IntKind.i64 (pvInt (C.getD ((↑i : Int).toNat * 6 + 1) PV.bad)))), AV.p (PV.sc (Value.int IntKind.i64 (pvInt (C.getD ((↑i : Int).toNat * 6 + 1 + 1) PV.bad)))), AV.p (PV.ps (psLen (C.getD ((↑i : Int).toNat * 6 + 1 + 1 + 1) PV.bad)) (psSz (C.getD ((↑i : Int).toNat * 6 + 1 + 1 + 1) PV.bad)) (psCells (C.getD ((↑i : Int).toNat * 6 + 1 + 1 + 1) PV.bad))), AV.p (PV.ps (psLen (C.getD ((↑i : Int).toNat * 6 + 1 + 1 + 1 + 1) PV.bad)) (psSz (C.getD ((↑i : Int).toNat * 6 + 1 + 1 + 1 + 1) PV.bad)) (psCells (C.getD ((↑i : Int).toNat * 6 + 1 + 1 + 1 + 1) PV.bad))), AV.p (PV.ps (psLen (C.getD ((↑i : Int).toNat * 6 + 1 + 1 + 1 + 1 + 1) PV.bad)) (psSz (C.getD ((↑i : Int).toNat * 6 + 1 + 1 + 1 + 1 + 1) PV.bad)) (psCells (C.getD ((↑i : Int).toNat * 6 + 1 + 1 + 1 + 1 + 1) PV.bad)))] = AV.agg [sI IntKind.i64 14, sI IntKind.i64 0, sI IntKind.i64 0, AV.p (PV.ps 0 0 []), AV.p (PV.ps 0 0 []), AV.p (PV.ps 0 0 [])])
      (.test (decide (IntKind.i64.wrap (t - 1) < 0))
       (.out (Out.ret (AV.tup []) [Blk.ac [AV.os Option.none 1 3 F, AV.os Option.none 0 0 [], AV.os Option.none 0 0 [], AV.p (PV.sc (Value.int IntKind.i64 4)), AV.p (PV.sc (Value.int IntKind.i64 0)), AV.p (PV.sc (Value.int IntKind.i64 0)), AV.p (PV.sc (Value.int IntKind.i64 0)), AV.p (PV.ps z 6 L), AV.p (PV.sc (Value.int IntKind.i64 (IntKind.i64.wrap (t - 1)))), AV.p (PV.sc (Value.int IntKind.i64 e)), AV.p (PV.sc (Value.bool true)), AV.p (PV.sc (Value.bool false)), AV.p (PV.sc (Value.bool false))]]))
       (.test (decide (d > 200))
        (.out (Out.ret (AV.tup []) [Blk.ac [AV.os Option.none 1 3 F, AV.os Option.none 0 0 [], AV.os Option.none 0 0 [], AV.p (PV.sc (Value.int IntKind.i64 4)), AV.p (PV.sc (Value.int IntKind.i64 0)), AV.p (PV.sc (Value.int IntKind.i64 0)), AV.p (PV.sc (Value.int IntKind.i64 0)), AV.p (PV.ps z 6 L), AV.p (PV.sc (Value.int IntKind.i64 (IntKind.i64.wrap (t - 1)))), AV.p (PV.sc (Value.int IntKind.i64 e)), AV.p (PV.sc (Value.bool true)), AV.p (PV.sc (Value.bool false)), AV.p (PV.sc (Value.bool false))]]))
        (.call ⟨27, [AV.mp 0 0, AV.agg [AV.p (PV.sc (Value.int IntKind.i64 14)), AV.p (PV.sc (Value.int IntKind.i64 0)), AV.p (PV.sc (Value.int IntKind.i64 0)), AV.p (PV.ps 0 0 []), AV.p (PV.ps 0 0 []), AV.p (PV.ps 0 0 [])], AV.p (PV.sc (Value.int IntKind.i64 lp))], [Blk.ac [AV.os Option.none 1 3 F, AV.os Option.none 0 0 [], AV.os Option.none 0 0 [], AV.p (PV.sc (Value.int IntKind.i64 4)), AV.p (PV.sc (Value.int IntKind.i64 0)), AV.p (PV.sc (Value.int IntKind.i64 0)), AV.p (PV.sc (Value.int IntKind.i64 0)), AV.p (PV.ps z 6 L), AV.p (PV.sc (Value.int IntKind.i64 (IntKind.i64.wrap (t - 1)))), AV.p (PV.sc (Value.int IntKind.i64 e)), AV.p (PV.sc (Value.bool mn)), AV.p (PV.sc (Value.bool false)), AV.p (PV.sc (Value.bool false))]], AV.tup [], [Blk.ac [AV.os Option.none 1 3 F, AV.os Option.none 0 0 [], AV.os Option.none 0 0 [], AV.p (PV.sc (Value.int IntKind.i64 4)), AV.p (PV.sc (Value.int IntKind.i64 0)), AV.p (PV.sc (Value.int IntKind.i64 0)), AV.p (PV.sc (Value.int IntKind.i64 0)), AV.p (PV.ps z 6 L), AV.p (PV.sc (Value.int IntKind.i64 (IntKind.i64.wrap (t - 1)))), AV.p (PV.sc (Value.int IntKind.i64 e)), AV.p (PV.sc (Value.bool mn)), AV.p (PV.sc (Value.bool false)), AV.p (PV.sc (Value.bool false))]]⟩
         (.call ⟨14, [AV.mp 0 0, AV.p (PV.ps 0 0 []), AV.p (PV.sc (Value.int IntKind.i64 (IntKind.i64.wrap (d + 1)))), AV.p (PV.sc (Value.int IntKind.i64 lp)), AV.mp 0 8], [Blk.ac [AV.os Option.none 1 3 F, AV.os Option.none 0 0 [], AV.os Option.none 0 0 [], AV.p (PV.sc (Value.int IntKind.i64 4)), AV.p (PV.sc (Value.int IntKind.i64 0)), AV.p (PV.sc (Value.int IntKind.i64 0)), AV.p (PV.sc (Value.int IntKind.i64 0)), AV.p (PV.ps z 6 L), AV.p (PV.sc (Value.int IntKind.i64 (IntKind.i64.wrap (t - 1)))), AV.p (PV.sc (Value.int IntKind.i64 e)), AV.p (PV.sc (Value.bool mn)), AV.p (PV.sc (Value.bool false)), AV.p (PV.sc (Value.bool false))]], AV.tup [], [Blk.ac [AV.os Option.none 1 3 F, AV.os Option.none 0 0 [], AV.os Option.none 0 0 [], AV.p (PV.sc (Value.int IntKind.i64 4)), AV.p (PV.sc (Value.int IntKind.i64 0)), AV.p (PV.sc (Value.int IntKind.i64 0)), AV.p (PV.sc (Value.int IntKind.i64 0)), AV.p (PV.ps z 6 L), AV.p (PV.sc (Value.int IntKind.i64 (IntKind.i64.wrap (t - 1)))), AV.p (PV.sc (Value.int IntKind.i64 e)), AV.p (PV.sc (Value.bool mn)), AV.p (PV.sc (Value.bool false)), AV.p (PV.sc (Value.bool false))]]⟩
          (.need (AV.p (PV.sc (Value.int IntKind.i64 (IntKind.i64.wrap ((↑i : Int) + 1)))) = sI IntKind.i64 (↑(i + 1) : Int))
           (.at (bodyCfg Tryd.prog envM 14 0 [AV.mp 0 0, AV.p (PV.sc (Value.int IntKind.i64 d)), AV.p (PV.sc (Value.int IntKind.i64 lp)), AV.mp 0 8, AV.p (PV.ps n 6 C), AV.p (PV.sc (Value.int IntKind.i64 (↑n : Int))), AV.p (PV.sc (Value.int IntKind.i64 (↑(i + 1) : Int)))] ([Blk.ac [AV.os Option.none 1 3 F, AV.os Option.none 0 0 [], AV.os Option.none 0 0 [], AV.p (PV.sc (Value.int IntKind.i64 4)), AV.p (PV.sc (Value.int IntKind.i64 0)), AV.p (PV.sc (Value.int IntKind.i64 0)), AV.p (PV.sc (Value.int IntKind.i64 0)), AV.p (PV.ps z 6 L), AV.p (PV.sc (Value.int IntKind.i64 (IntKind.i64.wrap (t - 1)))), AV.p (PV.sc (Value.int IntKind.i64 e)), AV.p (PV.sc (Value.bool mn)), AV.p (PV.sc (Value.bool false)), AV.p (PV.sc (Value.bool false))]]) 1 71))))))))))
   (.out (Out.ret (AV.tup []) [Blk.ac [AV.os Option.none 1 3 F, AV.os Option.none 0 0 [], AV.os Option.none 0 0 [], AV.p (PV.sc (Value.int IntKind.i64 4)), AV.p (PV.sc (Value.int IntKind.i64 0)), AV.p (PV.sc (Value.int IntKind.i64 0)), AV.p (PV.sc (Value.int IntKind.i64 0)), AV.p (PV.ps z 6 L), AV.p (PV.sc (Value.int IntKind.i64 t)), AV.p (PV.sc (Value.int IntKind.i64 e)), AV.p (PV.sc (Value.bool mn)), AV.p (PV.sc (Value.bool false)), AV.p (PV.sc (Value.bool false))]])))
theorem be_tree (d : Int) (lp : Int) (F : List PV) (L : List PV) (z : Nat) (t : Int) (e : Int) (mn : Bool) (n : Nat) (C : List PV) (i : Nat) (u : Unit) : grow Tryd.prog envM (beOrc d lp F L z t e mn n C i u) 1000000 true (bodyCfg Tryd.prog envM 14 0 ([AV.mp 0 0, sI IntKind.i64 d, sI IntKind.i64 lp, AV.mp 0 8, AV.p (PV.ps n 6 C), sI IntKind.i64 (↑n : Int), sI IntKind.i64 (↑i : Int)]) ([chk F L z t e mn]) 1 71) beSc atEnd = beTree d lp F L z t e mn n C i u := by kernel_rfl

/- bl: 126 steps -/
noncomputable def blOrc (d : Int) (lp : Int) (F : List PV) (L : List PV) (z : Nat) (t : Int) (e : Int) (mn : Bool) (n : Nat) (C : List PV) (i : Nat) (cs : List PV) (t1 : Int) (e1 : Int) (mn1 : Bool) : Orc := orcS (blC d lp F L z t e mn n C i cs t1 e1 mn1) noLed [(14, 0)] [(14, 0, 1), (14, 5, 5), (14, 0, 2)] [(14, 3, 0), (14, 3, 1)] (blS d lp F L z t e mn n C i cs t1 e1 mn1)
def blSc : Sc := (.fork (.fork (.lit .fin) .fin) .fin)
noncomputable def blTree (d : Int) (lp : Int) (F : List PV) (L : List PV) (z : Nat) (t : Int) (e : Int) (mn : Bool) (n : Nat) (C : List PV) (i : Nat) (cs : List PV) (t1 : Int) (e1 : Int) (mn1 : Bool) : Tree :=
  (.test (decide ((↑i : Int) < (↑n : Int)))
   (.must (inB (↑i : Int) n && true && true)
    (.must (isInt IntKind.i64 (C.getD ((↑i : Int).toNat * 6) PV.bad) && (isInt IntKind.i64 (C.getD ((↑i : Int).toNat * 6 + 1) PV.bad) && (isInt IntKind.i64 (C.getD ((↑i : Int).toNat * 6 + 1 + 1) PV.bad) && (isPs (C.getD ((↑i : Int).toNat * 6 + 1 + 1 + 1) PV.bad) && (isPs (C.getD ((↑i : Int).toNat * 6 + 1 + 1 + 1 + 1) PV.bad) && (isPs (C.getD ((↑i : Int).toNat * 6 + 1 + 1 + 1 + 1 + 1) PV.bad) && true))))) && true)
     (.need (AV.agg [AV.p (PV.sc (Value.int IntKind.i64 (pvInt (C.getD ((↑i : Int).toNat * 6) PV.bad)))), AV.p (PV.sc (Value.int IntKind.i64 (pvInt (C.getD ((↑i : Int).toNat * 6 + 1) PV.bad)))), AV.p (PV.sc (Value.int IntKind.i64 (pvInt (C.getD ((↑i : Int).toNat * 6 + 1 + 1) PV.bad)))), AV.p (PV.ps (psLen (C.getD ((↑i : Int).toNat * 6 + 1 + 1 + 1) PV.bad)) (psSz (C.getD ((↑i : Int).toNat * 6 + 1 + 1 + 1) PV.bad)) (psCells (C.getD ((↑i : Int).toNat * 6 + 1 + 1 + 1) PV.bad))), AV.p (PV.ps (psLen (C.getD ((↑i : Int).toNat * 6 + 1 + 1 + 1 + 1) PV.bad)) (psSz (C.getD ((↑i : Int).toNat * 6 + 1 + 1 + 1 + 1) PV.bad)) (psCells (C.getD ((↑i : Int).toNat * 6 + 1 + 1 + 1 + 1) PV.bad))), AV.p (PV.ps (psLen (C.getD ((↑i : Int).toNat * 6 + 1 + 1 + 1 + 1 + 1) PV.bad)) (psSz (C.getD ((↑i : Int).toNat * 6 + 1 + 1 + 1 + 1 + 1) PV.bad)) (psCells (C.getD ((↑i : Int).toNat * 6 + 1 + 1 + 1 + 1 + 1) PV.bad)))] = AV.agg [sI IntKind.i64 6, sI IntKind.i64 0, sI IntKind.i64 0, AV.p (PV.ps 0 0 []), AV.p (PV.ps 1 6 cs), AV.p (PV.ps 0 0 [])])
      (.test (decide (IntKind.i64.wrap (t - 1) < 0))
       (.out (Out.ret (AV.tup []) [Blk.ac [AV.os Option.none 1 3 F, AV.os Option.none 0 0 [], AV.os Option.none 0 0 [], AV.p (PV.sc (Value.int IntKind.i64 4)), AV.p (PV.sc (Value.int IntKind.i64 0)), AV.p (PV.sc (Value.int IntKind.i64 0)), AV.p (PV.sc (Value.int IntKind.i64 0)), AV.p (PV.ps z 6 L), AV.p (PV.sc (Value.int IntKind.i64 (IntKind.i64.wrap (t - 1)))), AV.p (PV.sc (Value.int IntKind.i64 e)), AV.p (PV.sc (Value.bool true)), AV.p (PV.sc (Value.bool false)), AV.p (PV.sc (Value.bool false))]]))
       (.test (decide (d > 200))
        (.out (Out.ret (AV.tup []) [Blk.ac [AV.os Option.none 1 3 F, AV.os Option.none 0 0 [], AV.os Option.none 0 0 [], AV.p (PV.sc (Value.int IntKind.i64 4)), AV.p (PV.sc (Value.int IntKind.i64 0)), AV.p (PV.sc (Value.int IntKind.i64 0)), AV.p (PV.sc (Value.int IntKind.i64 0)), AV.p (PV.ps z 6 L), AV.p (PV.sc (Value.int IntKind.i64 (IntKind.i64.wrap (t - 1)))), AV.p (PV.sc (Value.int IntKind.i64 e)), AV.p (PV.sc (Value.bool true)), AV.p (PV.sc (Value.bool false)), AV.p (PV.sc (Value.bool false))]]))
        (.call ⟨27, [AV.mp 0 0, AV.agg [AV.p (PV.sc (Value.int IntKind.i64 6)), AV.p (PV.sc (Value.int IntKind.i64 0)), AV.p (PV.sc (Value.int IntKind.i64 0)), AV.p (PV.ps 0 0 []), AV.p (PV.ps 1 6 cs), AV.p (PV.ps 0 0 [])], AV.p (PV.sc (Value.int IntKind.i64 lp))], [Blk.ac [AV.os Option.none 1 3 F, AV.os Option.none 0 0 [], AV.os Option.none 0 0 [], AV.p (PV.sc (Value.int IntKind.i64 4)), AV.p (PV.sc (Value.int IntKind.i64 0)), AV.p (PV.sc (Value.int IntKind.i64 0)), AV.p (PV.sc (Value.int IntKind.i64 0)), AV.p (PV.ps z 6 L), AV.p (PV.sc (Value.int IntKind.i64 (IntKind.i64.wrap (t - 1)))), AV.p (PV.sc (Value.int IntKind.i64 e)), AV.p (PV.sc (Value.bool mn)), AV.p (PV.sc (Value.bool false)), AV.p (PV.sc (Value.bool false))]], AV.tup [], [Blk.ac [AV.os Option.none 1 3 F, AV.os Option.none 0 0 [], AV.os Option.none 0 0 [], AV.p (PV.sc (Value.int IntKind.i64 4)), AV.p (PV.sc (Value.int IntKind.i64 0)), AV.p (PV.sc (Value.int IntKind.i64 0)), AV.p (PV.sc (Value.int IntKind.i64 0)), AV.p (PV.ps z 6 L), AV.p (PV.sc (Value.int IntKind.i64 (IntKind.i64.wrap (t - 1)))), AV.p (PV.sc (Value.int IntKind.i64 e)), AV.p (PV.sc (Value.bool mn)), AV.p (PV.sc (Value.bool false)), AV.p (PV.sc (Value.bool false))]]⟩
         (.call ⟨14, [AV.mp 0 0, AV.p (PV.ps 1 6 cs), AV.p (PV.sc (Value.int IntKind.i64 (IntKind.i64.wrap (d + 1)))), AV.p (PV.sc (Value.int IntKind.i64 (IntKind.i64.wrap (lp + 1)))), AV.mp 0 8], [Blk.ac [AV.os Option.none 1 3 F, AV.os Option.none 0 0 [], AV.os Option.none 0 0 [], AV.p (PV.sc (Value.int IntKind.i64 4)), AV.p (PV.sc (Value.int IntKind.i64 0)), AV.p (PV.sc (Value.int IntKind.i64 0)), AV.p (PV.sc (Value.int IntKind.i64 0)), AV.p (PV.ps z 6 L), AV.p (PV.sc (Value.int IntKind.i64 (IntKind.i64.wrap (t - 1)))), AV.p (PV.sc (Value.int IntKind.i64 e)), AV.p (PV.sc (Value.bool mn)), AV.p (PV.sc (Value.bool false)), AV.p (PV.sc (Value.bool false))]], AV.tup [], [Blk.ac [AV.os Option.none 1 3 F, AV.os Option.none 0 0 [], AV.os Option.none 0 0 [], AV.p (PV.sc (Value.int IntKind.i64 4)), AV.p (PV.sc (Value.int IntKind.i64 0)), AV.p (PV.sc (Value.int IntKind.i64 0)), AV.p (PV.sc (Value.int IntKind.i64 0)), AV.p (PV.ps z 6 L), AV.p (PV.sc (Value.int IntKind.i64 t1)), AV.p (PV.sc (Value.int IntKind.i64 e1)), AV.p (PV.sc (Value.bool mn1)), AV.p (PV.sc (Value.bool false)), AV.p (PV.sc (Value.bool false))]]⟩
          (.need (AV.p (PV.sc (Value.int IntKind.i64 (IntKind.i64.wrap ((↑i : Int) + 1)))) = sI IntKind.i64 (↑(i + 1) : Int))
           (.at (bodyCfg Tryd.prog envM 14 0 [AV.mp 0 0, AV.p (PV.sc (Value.int IntKind.i64 d)), AV.p (PV.sc (Value.int IntKind.i64 lp)), AV.mp 0 8, AV.p (PV.ps n 6 C), AV.p (PV.sc (Value.int IntKind.i64 (↑n : Int))), AV.p (PV.sc (Value.int IntKind.i64 (↑(i + 1) : Int)))] ([Blk.ac [AV.os Option.none 1 3 F, AV.os Option.none 0 0 [], AV.os Option.none 0 0 [], AV.p (PV.sc (Value.int IntKind.i64 4)), AV.p (PV.sc (Value.int IntKind.i64 0)), AV.p (PV.sc (Value.int IntKind.i64 0)), AV.p (PV.sc (Value.int IntKind.i64 0)), AV.p (PV.ps z 6 L), AV.p (PV.sc (Value.int IntKind.i64 t1)), AV.p (PV.sc (Value.int IntKind.i64 e1)), AV.p (PV.sc (Value.bool mn1)), AV.p (PV.sc (Value.bool false)), AV.p (PV.sc (Value.bool false))]]) 1 71))))))))))
   (.out (Out.ret (AV.tup []) [Blk.ac [AV.os Option.none 1 3 F, AV.os Option.none 0 0 [], AV.os Option.none 0 0 [], AV.p (PV.sc (Value.int IntKind.i64 4)), AV.p (PV.sc (Value.int IntKind.i64 0)), AV.p (PV.sc (Value.int IntKind.i64 0)), AV.p (PV.sc (Value.int IntKind.i64 0)), AV.p (PV.ps z 6 L), AV.p (PV.sc (Value.int IntKind.i64 t)), AV.p (PV.sc (Value.int IntKind.i64 e)), AV.p (PV.sc (Value.bool mn)), AV.p (PV.sc (Value.bool false)), AV.p (PV.sc (Value.bool false))]])))
theorem bl_tree (d : Int) (lp : Int) (F : List PV) (L : List PV) (z : Nat) (t : Int) (e : Int) (mn : Bool) (n : Nat) (C : List PV) (i : Nat) (cs : List PV) (t1 : Int) (e1 : Int) (mn1 : Bool) : grow Tryd.prog envM (blOrc d lp F L z t e mn n C i cs t1 e1 mn1) 1000000 true (bodyCfg Tryd.prog envM 14 0 ([AV.mp 0 0, sI IntKind.i64 d, sI IntKind.i64 lp, AV.mp 0 8, AV.p (PV.ps n 6 C), sI IntKind.i64 (↑n : Int), sI IntKind.i64 (↑i : Int)]) ([chk F L z t e mn]) 1 71) blSc atEnd = blTree d lp F L z t e mn n C i cs t1 e1 mn1 := by kernel_rfl


/-- What an expression leaves: how many are left, whether there are too many. -/
def expF : Nat → Int → Int → Bool → Int × Bool
  | 0, d, e, mn => if e - 1 < 0 ∨ d > 200 then (e - 1, true) else (e - 1, mn)
  | k + 1, d, e, mn => if e - 1 < 0 ∨ d > 200 then (e - 1, true) else expF k (d + 1) (e - 1) mn

theorem expF_bound : ∀ (k : Nat) (d e : Int) (mn : Bool), e - (k + 1) ≤ (expF k d e mn).1 ∧ (expF k d e mn).1 ≤ e
  | 0, d, e, mn => by unfold expF; split <;> (dsimp only; omega)
  | k + 1, d, e, mn => by
    unfold expF
    split
    · dsimp only; omega
    · have := expF_bound k (d + 1) (e - 1) mn; omega

theorem exp_does {F L : List PV} {z : Nat} {t : Int} : ∀ (k : Nat) (d e : Int) (mn : Bool), -1000000000 + (k + 1) ≤ e → e ≤ 1000000000 → 0 ≤ d → d + (k + 1) ≤ 1000000000 →
    Does Tryd.prog envM 41 [.mp 0 0, aggE k, sI .i64 d, .mp 0 9] [chk F L z t e mn] (.tup []) [chk F L z t (expF k d e mn).1 (expF k d e mn).2]
  | 0, d, e, mn, h1, h2, h3, h4 => by
    refine does_of_tree names (e0_tree d F L z t e mn) ?_
    simp (disch := omega) only [e0Tree, Tree.ok, i64In, expF]
    refine ⟨fun h => ?_, fun h => ⟨fun g => ?_, fun g => ?_⟩⟩
    · rw [if_pos (.inl (of_decide_eq_true h))]
    · rw [if_pos (.inr (of_decide_eq_true g))]
    · rw [if_neg (fun q => q.elim (fun q => of_decide_eq_false h q) (fun q => of_decide_eq_false g q))]
  | k + 1, d, e, mn, h1, h2, h3, h4 => by
    have IH := exp_does (F := F) (L := L) (z := z) (t := t) k (d + 1) (e - 1) mn (by omega) (by omega) (by omega) (by omega)
    have key : ∀ (kd nn : Int) (zz y : Nat) (cs : List PV), encE k = [.sc (.int .i64 kd), .sc (.int .i64 nn), .ps zz y cs] → aggE k = .agg [sI .i64 kd, sI .i64 nn, .p (.ps zz y cs)] →
        Does Tryd.prog envM 41 [.mp 0 0, aggE (k + 1), sI .i64 d, .mp 0 9] [chk F L z t e mn] (.tup []) [chk F L z t (expF (k + 1) d e mn).1 (expF (k + 1) d e mn).2] := by
      intro kd nn zz y cs e1 e2
      show Does _ _ _ [_, .agg [_, _, .p (.ps 1 3 (encE k))], _, _] _ _ _
      rw [e1]
      rw [e2] at IH
      refine does_of_tree names (e1_tree d F L z t e mn kd nn zz y cs (expF k (d + 1) (e - 1) mn).1 (expF k (d + 1) (e - 1) mn).2) ?_
      simp (disch := omega) only [e1Tree, Tree.ok, i64In, expF]
      refine ⟨fun h => ?_, fun h => ⟨fun g => ?_, fun g => ⟨IH, ?_⟩⟩⟩
      · rw [if_pos (.inl (of_decide_eq_true h))]
      · rw [if_pos (.inr (of_decide_eq_true g))]
      · rw [if_neg (fun q => q.elim (fun q => of_decide_eq_false h q) (fun q => of_decide_eq_false g q))]
    cases k with
    | zero => exact key 1 0 0 0 [] rfl rfl
    | succ k => exact key 6 69 1 3 (encE k) rfl rfl

/-- Things: what is written, of an expression; the end; a loop of one thing. -/
inductive Th where
  | out (k : Nat)
  | fin
  | loop (y : Th)

def encT : Th → List PV
  | .out k => [.sc (.int .i64 13), .sc (.int .i64 0), .sc (.int .i64 0), .ps 1 3 (encE k), .ps 0 0 [], .ps 0 0 []]
  | .fin => [.sc (.int .i64 14), .sc (.int .i64 0), .sc (.int .i64 0), .ps 0 0 [], .ps 0 0 [], .ps 0 0 []]
  | .loop y => [.sc (.int .i64 6), .sc (.int .i64 0), .sc (.int .i64 0), .ps 0 0 [], .ps 1 6 (encT y), .ps 0 0 []]

def encTs : List Th → List PV
  | [] => []
  | x :: r => encT x ++ encTs r

theorem encT_len : ∀ x : Th, (encT x).length = 6
  | .out _ | .fin | .loop _ => rfl

theorem encTs_at : ∀ {l : List Th} {i : Nat} {x : Th}, l[i]? = some x → ∀ j, j < 6 → (encTs l).getD (i * 6 + j) .bad = (encT x).getD j .bad
  | y :: r, 0, x, h, j, hj => by
    obtain rfl : y = x := Option.some.inj h
    rw [encTs, List.getD_eq_getElem?_getD, List.getD_eq_getElem?_getD, Nat.zero_mul, Nat.zero_add, List.getElem?_append_left (by rw [encT_len]; exact hj)]
  | y :: r, i + 1, x, h, j, hj => by
    have := encTs_at (l := r) (i := i) h j hj
    rw [← this, encTs, List.getD_eq_getElem?_getD, List.getD_eq_getElem?_getD, List.getElem?_append_right (by rw [encT_len]; omega), encT_len]
    congr 2
    omega

/-- What is counted: things and expressions left, whether there are too many. -/
structure Cnt where
  t : Int
  e : Int
  mn : Bool

def outF (t : Int) (q : Int × Bool) : Cnt := ⟨t, q.1, q.2⟩

def oneF (d : Int) : Th → Cnt → Cnt × Bool
  | x, s => if s.t - 1 < 0 ∨ d > 200 then (⟨s.t - 1, s.e, true⟩, true) else match x with
    | .out k => (outF (s.t - 1) (expF k 1 s.e s.mn), false)
    | .fin => (⟨s.t - 1, s.e, s.mn⟩, false)
    | .loop y => ((oneF (d + 1) y ⟨s.t - 1, s.e, s.mn⟩).1, false)

def listF (d : Int) : List Th → Cnt → Cnt
  | [], s => s
  | x :: r, s => match oneF d x s with
    | (s', true) => s'
    | (s', false) => listF d r s'

def cost : Th → Nat
  | .out k => k + 2
  | .fin => 1
  | .loop y => cost y + 1

def costs : List Th → Nat
  | [] => 0
  | x :: r => cost x + costs r

end Go.Proofs.YtiphaojaolcidaaDoor.N
