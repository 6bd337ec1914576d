/-
  The document's check, and the program's: what they tell.
-/
import Derived.Test.YtiphaojaolcidaaDoorLmF
set_option linter.unusedVariables false
set_option linter.unusedSimpArgs false
namespace Go.Proofs.YtiphaojaolcidaaDoor.N
open Go Go.Am

abbrev jdg (F L : List PV) (z : Nat) (mn : Bool) : Blk := .ac [.os none 1 3 F, .os none 0 0 [], .os none 0 0 [], .p (.sc (.int .i64 4)), .p (.sc (.int .i64 0)), .p (.sc (.int .i64 0)), .p (.sc (.int .i64 0)), .p (.ps z 6 L), .p (.sc (.bool mn)), .p (.sc (.bool false)), .p (.sc (.bool false))]
def j0A (_F _L : List PV) (_z : Nat) (_mn : Bool) : List AV := [.mp 0 0, .agg [sI .i64 1, sI .i64 0, .p (.ps 0 0 [])]]
def j0M (F L : List PV) (z : Nat) (mn : Bool) : Mem := [jdg F L z mn]
def j1A (_F _L : List PV) (_z : Nat) (_mn : Bool) (kd nn : Int) (zz y : Nat) (cs : List PV) : List AV := [.mp 0 0, .agg [sI .i64 6, sI .i64 69, .p (.ps 1 3 [.sc (.int .i64 kd), .sc (.int .i64 nn), .ps zz y cs])]]
def j1M (F L : List PV) (z : Nat) (mn : Bool) (_kd _nn : Int) (_zz _y : Nat) (_cs : List PV) : Mem := [jdg F L z mn]
def j1C (_F _L : List PV) (_z : Nat) (_mn : Bool) (_kd _nn : Int) (_zz _y : Nat) (_cs : List PV) (f : FuncId) (_ : List AV) (m : Mem) : Option (AV × Mem) := cond (Nat.beq f 31) (some (.tup [], m)) none
def jlA (lp : Int) (_F _L : List PV) (_z : Nat) (_mn : Bool) (n : Nat) (C : List PV) (_i : Nat) : List AV := [.mp 0 0, .p (.ps n 6 C), sI .i64 lp]
def jlM (_lp : Int) (F L : List PV) (z : Nat) (mn : Bool) (_n : Nat) (_C : List PV) (_i : Nat) : Mem := [jdg F L z mn]
def jnA (lp : Int) (_F _L : List PV) (_z : Nat) (_mn : Bool) : List AV := [.mp 0 0, .p (.ps 0 0 []), sI .i64 lp]
def jnM (_lp : Int) (F L : List PV) (z : Nat) (mn : Bool) : Mem := [jdg F L z mn]
def joA (lp : Int) (_F _L : List PV) (_z : Nat) (_mn : Bool) (n : Nat) (C : List PV) (i : Nat) (_kd _nn : Int) (_zz _y : Nat) (_cs : List PV) : List AV := [.mp 0 0, .p (.ps n 6 C), sI .i64 lp, sI .i64 i]
def joM (_lp : Int) (F L : List PV) (z : Nat) (mn : Bool) (_n : Nat) (_C : List PV) (_i : Nat) (_kd _nn : Int) (_zz _y : Nat) (_cs : List PV) : Mem := [jdg F L z mn]
def joS (_lp : Int) (_F _L : List PV) (_z : Nat) (_mn : Bool) (_n : Nat) (_C : List PV) (i : Nat) (kd nn : Int) (zz y : Nat) (cs : List PV) : FuncId → Nat → Nat → Option (AV → AV) := shapeAt [(19, 4, 3, .agg [sI .i64 13, sI .i64 0, sI .i64 0, .p (.ps 1 3 [.sc (.int .i64 kd), .sc (.int .i64 nn), .ps zz y cs]), .p (.ps 0 0 []), .p (.ps 0 0 [])]), (19, 3, 1, sI .i64 (i + 1 : Nat))]
def joC (_lp : Int) (_F _L : List PV) (_z : Nat) (_mn : Bool) (_n : Nat) (_C : List PV) (_i : Nat) (_kd _nn : Int) (_zz _y : Nat) (_cs : List PV) (f : FuncId) (_ : List AV) (m : Mem) : Option (AV × Mem) := cond (Nat.beq f 31 || Nat.beq f 19) (some (.tup [], m)) none
def jeA (lp : Int) (_F _L : List PV) (_z : Nat) (_mn : Bool) (n : Nat) (C : List PV) (i : Nat) (_u : Unit) : List AV := [.mp 0 0, .p (.ps n 6 C), sI .i64 lp, sI .i64 i]
def jeM (_lp : Int) (F L : List PV) (z : Nat) (mn : Bool) (_n : Nat) (_C : List PV) (_i : Nat) (_u : Unit) : Mem := [jdg F L z mn]
def jeS (_lp : Int) (_F _L : List PV) (_z : Nat) (_mn : Bool) (_n : Nat) (_C : List PV) (i : Nat) (_u : Unit) : FuncId → Nat → Nat → Option (AV → AV) := shapeAt [(19, 4, 3, .agg [sI .i64 14, sI .i64 0, sI .i64 0, .p (.ps 0 0 []), .p (.ps 0 0 []), .p (.ps 0 0 [])]), (19, 3, 1, sI .i64 (i + 1 : Nat))]
def jeC (_lp : Int) (_F _L : List PV) (_z : Nat) (_mn : Bool) (_n : Nat) (_C : List PV) (_i : Nat) (_u : Unit) (f : FuncId) (_ : List AV) (m : Mem) : Option (AV × Mem) := cond (Nat.beq f 31 || Nat.beq f 19) (some (.tup [], m)) none
def jpA (lp : Int) (_F _L : List PV) (_z : Nat) (_mn : Bool) (n : Nat) (C : List PV) (i : Nat) (_cs : List PV) : List AV := [.mp 0 0, .p (.ps n 6 C), sI .i64 lp, sI .i64 i]
def jpM (_lp : Int) (F L : List PV) (z : Nat) (mn : Bool) (_n : Nat) (_C : List PV) (_i : Nat) (_cs : List PV) : Mem := [jdg F L z mn]
def jpS (_lp : Int) (_F _L : List PV) (_z : Nat) (_mn : Bool) (_n : Nat) (_C : List PV) (i : Nat) (cs : List PV) : FuncId → Nat → Nat → Option (AV → AV) := shapeAt [(19, 4, 3, .agg [sI .i64 6, sI .i64 0, sI .i64 0, .p (.ps 0 0 []), .p (.ps 1 6 cs), .p (.ps 0 0 [])]), (19, 3, 1, sI .i64 (i + 1 : Nat))]
def jpC (_lp : Int) (_F _L : List PV) (_z : Nat) (_mn : Bool) (_n : Nat) (_C : List PV) (_i : Nat) (_cs : List PV) (f : FuncId) (_ : List AV) (m : Mem) : Option (AV × Mem) := cond (Nat.beq f 31 || Nat.beq f 19) (some (.tup [], m)) none
def pF (n : Nat) (L : List PV) : List PV := [.sc (.int .i64 0), .sc (.int .i64 0), .ps n 6 L]
def pA (n : Nat) (L : List PV) : AV := .agg [.os none 1 3 (pF n L), .os none 0 0 [], .os none 0 0 [], sI .i64 4, sI .i64 0]
def rcA (n : Nat) (L : List PV) (_na : Nat) (_A : List PV) (_xn _xm _sz _dp : Int) : List AV := [pA n L]
def rcC (_n : Nat) (_L : List PV) (na : Nat) (A : List PV) (xn xm sz dp : Int) (f : FuncId) (_ : List AV) (m : Mem) : Option (AV × Mem) := cond (Nat.beq f 16) (some (.p (.ps na 3 A), m)) (cond (Nat.beq f 15) (some (.tup [sI .i64 xn, sI .i64 xm], m)) (cond (Nat.beq f 17) (some (sI .i64 sz, m)) (cond (Nat.beq f 18) (some (sI .i64 dp, m)) (cond (Nat.beq f 19) (some (.tup [], m)) none))))

def ckA (n : Nat) (L : List PV) (_t1 _e1 : Int) (_mn1 : Bool) : List AV := [pA n L]
def ckC (n : Nat) (L : List PV) (t1 e1 : Int) (mn1 : Bool) (f : FuncId) (_ : List AV) (_ : Mem) : Option (AV × Mem) := cond (Nat.beq f 14) (some (.tup [], [chk (pF n L) L n t1 e1 mn1])) none

/- j0: 107 steps -/
noncomputable def j0Orc : Orc := orcL noC' noLed [] [] []
def j0Sc : Sc := .fin
noncomputable def j0Tree (F : List PV) (L : List PV) (z : Nat) (mn : Bool) : Tree :=
  (.out (Out.ret (AV.tup []) [Blk.ac [AV.os Option.none 1 3 F, AV.os Option.none 0 0 [], AV.os Option.none 0 0 [], AV.p (PV.sc (Value.int IntKind.i64 4)), AV.p (PV.sc (Value.int IntKind.i64 0)), AV.p (PV.sc (Value.int IntKind.i64 0)), AV.p (PV.sc (Value.int IntKind.i64 0)), AV.p (PV.ps z 6 L), AV.p (PV.sc (Value.bool mn)), AV.p (PV.sc (Value.bool false)), AV.p (PV.sc (Value.bool false))]]))
theorem j0_tree (F : List PV) (L : List PV) (z : Nat) (mn : Bool) : growF Tryd.prog envM j0Orc 1000000 31 ([AV.mp 0 0, AV.agg [sI IntKind.i64 1, sI IntKind.i64 0, AV.p (PV.ps 0 0 [])]]) ([jdg F L z mn]) j0Sc = j0Tree F L z mn := by kernel_rfl

/- j1: 221 steps -/
noncomputable def j1Orc (F : List PV) (L : List PV) (z : Nat) (mn : Bool) (kd : Int) (nn : Int) (zz : Nat) (y : Nat) (cs : List PV) : Orc := orcL (j1C F L z mn kd nn zz y cs) noLed [] [] []
def j1Sc : Sc := .fin
noncomputable def j1Tree (F : List PV) (L : List PV) (z : Nat) (mn : Bool) (kd : Int) (nn : Int) (zz : Nat) (y : Nat) (cs : List PV) : Tree :=
  (.call ⟨31, [AV.mp 0 0, AV.agg [AV.p (PV.sc (Value.int IntKind.i64 kd)), AV.p (PV.sc (Value.int IntKind.i64 nn)), AV.p (PV.ps zz y cs)]], [Blk.ac [AV.os Option.none 1 3 F, AV.os Option.none 0 0 [], AV.os Option.none 0 0 [], AV.p (PV.sc (Value.int IntKind.i64 4)), AV.p (PV.sc (Value.int IntKind.i64 0)), AV.p (PV.sc (Value.int IntKind.i64 0)), AV.p (PV.sc (Value.int IntKind.i64 0)), AV.p (PV.ps z 6 L), AV.p (PV.sc (Value.bool mn)), AV.p (PV.sc (Value.bool false)), AV.p (PV.sc (Value.bool false))]], AV.tup [], [Blk.ac [AV.os Option.none 1 3 F, AV.os Option.none 0 0 [], AV.os Option.none 0 0 [], AV.p (PV.sc (Value.int IntKind.i64 4)), AV.p (PV.sc (Value.int IntKind.i64 0)), AV.p (PV.sc (Value.int IntKind.i64 0)), AV.p (PV.sc (Value.int IntKind.i64 0)), AV.p (PV.ps z 6 L), AV.p (PV.sc (Value.bool mn)), AV.p (PV.sc (Value.bool false)), AV.p (PV.sc (Value.bool false))]]⟩
   (.out (Out.ret (AV.tup []) [Blk.ac [AV.os Option.none 1 3 F, AV.os Option.none 0 0 [], AV.os Option.none 0 0 [], AV.p (PV.sc (Value.int IntKind.i64 4)), AV.p (PV.sc (Value.int IntKind.i64 0)), AV.p (PV.sc (Value.int IntKind.i64 0)), AV.p (PV.sc (Value.int IntKind.i64 0)), AV.p (PV.ps z 6 L), AV.p (PV.sc (Value.bool mn)), AV.p (PV.sc (Value.bool false)), AV.p (PV.sc (Value.bool false))]])))
theorem j1_tree (F : List PV) (L : List PV) (z : Nat) (mn : Bool) (kd : Int) (nn : Int) (zz : Nat) (y : Nat) (cs : List PV) : growF Tryd.prog envM (j1Orc F L z mn kd nn zz y cs) 1000000 31 ([AV.mp 0 0, AV.agg [sI IntKind.i64 6, sI IntKind.i64 69, AV.p (PV.ps 1 3 [PV.sc (Value.int IntKind.i64 kd), PV.sc (Value.int IntKind.i64 nn), PV.ps zz y cs])]]) ([jdg F L z mn]) j1Sc = j1Tree F L z mn kd nn zz y cs := by kernel_rfl

/- jl: 6 steps -/
noncomputable def jlOrc : Orc := orcL noC' noLed [(19, 0)] [] []
def jlSc : Sc := .fin
noncomputable def jlTree (lp : Int) (F : List PV) (L : List PV) (z : Nat) (mn : Bool) (n : Nat) (C : List PV) (_i : Nat) : Tree :=
  (.at (bodyCfg Tryd.prog envM 19 0 [AV.mp 0 0, AV.p (PV.ps n 6 C), AV.p (PV.sc (Value.int IntKind.i64 lp)), AV.p (PV.sc (Value.int IntKind.i64 0))] ([Blk.ac [AV.os Option.none 1 3 F, AV.os Option.none 0 0 [], AV.os Option.none 0 0 [], AV.p (PV.sc (Value.int IntKind.i64 4)), AV.p (PV.sc (Value.int IntKind.i64 0)), AV.p (PV.sc (Value.int IntKind.i64 0)), AV.p (PV.sc (Value.int IntKind.i64 0)), AV.p (PV.ps z 6 L), AV.p (PV.sc (Value.bool mn)), AV.p (PV.sc (Value.bool false)), AV.p (PV.sc (Value.bool false))]]) 1 119))
theorem jl_tree (lp : Int) (F : List PV) (L : List PV) (z : Nat) (mn : Bool) (n : Nat) (C : List PV) (i : Nat) : growF Tryd.prog envM jlOrc 1000000 19 ([AV.mp 0 0, AV.p (PV.ps n 6 C), sI IntKind.i64 lp]) ([jdg F L z mn]) jlSc = jlTree lp F L z mn n C i := by kernel_rfl

/- jn: 18 steps -/
noncomputable def jnOrc : Orc := orcL noC' noLed [] [] []
def jnSc : Sc := .fin
noncomputable def jnTree (_lp : Int) (F : List PV) (L : List PV) (z : Nat) (mn : Bool) : Tree :=
  (.out (Out.ret (AV.tup []) [Blk.ac [AV.os Option.none 1 3 F, AV.os Option.none 0 0 [], AV.os Option.none 0 0 [], AV.p (PV.sc (Value.int IntKind.i64 4)), AV.p (PV.sc (Value.int IntKind.i64 0)), AV.p (PV.sc (Value.int IntKind.i64 0)), AV.p (PV.sc (Value.int IntKind.i64 0)), AV.p (PV.ps z 6 L), AV.p (PV.sc (Value.bool mn)), AV.p (PV.sc (Value.bool false)), AV.p (PV.sc (Value.bool false))]]))
theorem jn_tree (lp : Int) (F : List PV) (L : List PV) (z : Nat) (mn : Bool) : growF Tryd.prog envM jnOrc 1000000 19 ([AV.mp 0 0, AV.p (PV.ps 0 0 []), sI IntKind.i64 lp]) ([jdg F L z mn]) jnSc = jnTree lp F L z mn := by kernel_rfl

/- jo: 704 steps -/
noncomputable def joOrc (lp : Int) (F : List PV) (L : List PV) (z : Nat) (mn : Bool) (n : Nat) (C : List PV) (i : Nat) (kd : Int) (nn : Int) (zz : Nat) (y : Nat) (cs : List PV) : Orc := orcS (joC lp F L z mn n C i kd nn zz y cs) noLed [(19, 0)] [(19, 0, 1), (19, 7, 6)] [(19, 4, 2), (19, 4, 3)] (joS lp F L z mn n C i kd nn zz y cs)
def joSc : Sc := .fin
noncomputable def joTree (lp : Int) (F : List PV) (L : List PV) (z : Nat) (mn : Bool) (n : Nat) (C : List PV) (i : Nat) (kd : Int) (nn : Int) (zz : Nat) (y : Nat) (cs : List PV) : Tree :=
  (.test (decide ((↑i : Int) < (↑n : Int)))
   (.must (inB (↑i : Int) n && true && true)
    (.must (isInt IntKind.i64 (C.getD ((↑i : Int).toNat * 6) PV.bad) && (isInt IntKind.i64 (C.getD ((↑i : Int).toNat * 6 + 1) PV.bad) && (isInt IntKind.i64 (C.getD ((↑i : Int).toNat * 6 + 1 + 1) PV.bad) && (isPs (C.getD ((↑i : Int).toNat * 6 + 1 + 1 + 1) PV.bad) && (isPs (C.getD ((↑i : Int).toNat * 6 + 1 + 1 + 1 + 1) PV.bad) && (isPs (C.getD ((↑i : Int).toNat * 6 + 1 + 1 + 1 + 1 + 1) PV.bad) && true))))) && true)
     (.need (AV.agg [AV.p (PV.sc (Value.int IntKind.i64 (pvInt (C.getD ((↑i : Int).toNat * 6) PV.bad)))), AV.p (PV.sc (Value.int IntKind.i64 (pvInt (C.getD ((↑i : Int).toNat * 6 + 1) PV.bad)))), AV.p (PV.sc (Value.int IntKind.i64 (pvInt (C.getD ((↑i : Int).toNat * 6 + 1 + 1) PV.bad)))), AV.p (PV.ps (psLen (C.getD ((↑i : Int).toNat * 6 + 1 + 1 + 1) PV.bad)) (psSz (C.getD ((↑i : Int).toNat * 6 + 1 + 1 + 1) PV.bad)) (psCells (C.getD ((↑i : Int).toNat * 6 + 1 + 1 + 1) PV.bad))), AV.p (PV.ps (psLen (C.getD ((↑i : Int).toNat * 6 + 1 + 1 + 1 + 1) PV.bad)) (psSz (C.getD ((↑i : Int).toNat * 6 + 1 + 1 + 1 + 1) PV.bad)) (psCells (C.getD ((↑i : Int).toNat * 6 + 1 + 1 + 1 + 1) PV.bad))), AV.p (PV.ps (psLen (C.getD ((↑i : Int).toNat * 6 + 1 + 1 + 1 + 1 + 1) PV.bad)) (psSz (C.getD ((↑i : Int).toNat * 6 + 1 + 1 + 1 + 1 + 1) PV.bad)) (psCells (C.getD ((↑i : Int).toNat * 6 + 1 + 1 + 1 + 1 + 1) PV.bad)))] = AV.agg [sI IntKind.i64 13, sI IntKind.i64 0, sI IntKind.i64 0, AV.p (PV.ps 1 3 [PV.sc (Value.int IntKind.i64 kd), PV.sc (Value.int IntKind.i64 nn), PV.ps zz y cs]), AV.p (PV.ps 0 0 []), AV.p (PV.ps 0 0 [])])
      (.test (mn)
       (.call ⟨31, [AV.mp 0 0, AV.agg [AV.p (PV.sc (Value.int IntKind.i64 kd)), AV.p (PV.sc (Value.int IntKind.i64 nn)), AV.p (PV.ps zz y cs)]], [Blk.ac [AV.os Option.none 1 3 F, AV.os Option.none 0 0 [], AV.os Option.none 0 0 [], AV.p (PV.sc (Value.int IntKind.i64 4)), AV.p (PV.sc (Value.int IntKind.i64 0)), AV.p (PV.sc (Value.int IntKind.i64 0)), AV.p (PV.sc (Value.int IntKind.i64 0)), AV.p (PV.ps z 6 L), AV.p (PV.sc (Value.bool true)), AV.p (PV.sc (Value.bool false)), AV.p (PV.sc (Value.bool false))]], AV.tup [], [Blk.ac [AV.os Option.none 1 3 F, AV.os Option.none 0 0 [], AV.os Option.none 0 0 [], AV.p (PV.sc (Value.int IntKind.i64 4)), AV.p (PV.sc (Value.int IntKind.i64 0)), AV.p (PV.sc (Value.int IntKind.i64 0)), AV.p (PV.sc (Value.int IntKind.i64 0)), AV.p (PV.ps z 6 L), AV.p (PV.sc (Value.bool true)), AV.p (PV.sc (Value.bool false)), AV.p (PV.sc (Value.bool false))]]⟩
        (.call ⟨19, [AV.mp 0 0, AV.p (PV.ps 0 0 []), AV.p (PV.sc (Value.int IntKind.i64 lp))], [Blk.ac [AV.os Option.none 1 3 F, AV.os Option.none 0 0 [], AV.os Option.none 0 0 [], AV.p (PV.sc (Value.int IntKind.i64 4)), AV.p (PV.sc (Value.int IntKind.i64 0)), AV.p (PV.sc (Value.int IntKind.i64 0)), AV.p (PV.sc (Value.int IntKind.i64 0)), AV.p (PV.ps z 6 L), AV.p (PV.sc (Value.bool true)), AV.p (PV.sc (Value.bool false)), AV.p (PV.sc (Value.bool false))]], AV.tup [], [Blk.ac [AV.os Option.none 1 3 F, AV.os Option.none 0 0 [], AV.os Option.none 0 0 [], AV.p (PV.sc (Value.int IntKind.i64 4)), AV.p (PV.sc (Value.int IntKind.i64 0)), AV.p (PV.sc (Value.int IntKind.i64 0)), AV.p (PV.sc (Value.int IntKind.i64 0)), AV.p (PV.ps z 6 L), AV.p (PV.sc (Value.bool true)), AV.p (PV.sc (Value.bool false)), AV.p (PV.sc (Value.bool false))]]⟩
         (.need (AV.p (PV.sc (Value.int IntKind.i64 (IntKind.i64.wrap ((↑i : Int) + 1)))) = sI IntKind.i64 (↑(i + 1) : Int))
          (.at (bodyCfg Tryd.prog envM 19 0 [AV.mp 0 0, AV.p (PV.ps n 6 C), AV.p (PV.sc (Value.int IntKind.i64 lp)), AV.p (PV.sc (Value.int IntKind.i64 (↑(i + 1) : Int)))] ([Blk.ac [AV.os Option.none 1 3 F, AV.os Option.none 0 0 [], AV.os Option.none 0 0 [], AV.p (PV.sc (Value.int IntKind.i64 4)), AV.p (PV.sc (Value.int IntKind.i64 0)), AV.p (PV.sc (Value.int IntKind.i64 0)), AV.p (PV.sc (Value.int IntKind.i64 0)), AV.p (PV.ps z 6 L), AV.p (PV.sc (Value.bool true)), AV.p (PV.sc (Value.bool false)), AV.p (PV.sc (Value.bool false))]]) 1 119)))))
       (.call ⟨31, [AV.mp 0 0, AV.agg [AV.p (PV.sc (Value.int IntKind.i64 kd)), AV.p (PV.sc (Value.int IntKind.i64 nn)), AV.p (PV.ps zz y cs)]], [Blk.ac [AV.os Option.none 1 3 F, AV.os Option.none 0 0 [], AV.os Option.none 0 0 [], AV.p (PV.sc (Value.int IntKind.i64 4)), AV.p (PV.sc (Value.int IntKind.i64 0)), AV.p (PV.sc (Value.int IntKind.i64 0)), AV.p (PV.sc (Value.int IntKind.i64 0)), AV.p (PV.ps z 6 L), AV.p (PV.sc (Value.bool false)), AV.p (PV.sc (Value.bool false)), AV.p (PV.sc (Value.bool false))]], AV.tup [], [Blk.ac [AV.os Option.none 1 3 F, AV.os Option.none 0 0 [], AV.os Option.none 0 0 [], AV.p (PV.sc (Value.int IntKind.i64 4)), AV.p (PV.sc (Value.int IntKind.i64 0)), AV.p (PV.sc (Value.int IntKind.i64 0)), AV.p (PV.sc (Value.int IntKind.i64 0)), AV.p (PV.ps z 6 L), AV.p (PV.sc (Value.bool false)), AV.p (PV.sc (Value.bool false)), AV.p (PV.sc (Value.bool false))]]⟩
        (.call ⟨19, [AV.mp 0 0, AV.p (PV.ps 0 0 []), AV.p (PV.sc (Value.int IntKind.i64 lp))], [Blk.ac [AV.os Option.none 1 3 F, AV.os Option.none 0 0 [], AV.os Option.none 0 0 [], AV.p (PV.sc (Value.int IntKind.i64 4)), AV.p (PV.sc (Value.int IntKind.i64 0)), AV.p (PV.sc (Value.int IntKind.i64 0)), AV.p (PV.sc (Value.int IntKind.i64 0)), AV.p (PV.ps z 6 L), AV.p (PV.sc (Value.bool false)), AV.p (PV.sc (Value.bool false)), AV.p (PV.sc (Value.bool false))]], AV.tup [], [Blk.ac [AV.os Option.none 1 3 F, AV.os Option.none 0 0 [], AV.os Option.none 0 0 [], AV.p (PV.sc (Value.int IntKind.i64 4)), AV.p (PV.sc (Value.int IntKind.i64 0)), AV.p (PV.sc (Value.int IntKind.i64 0)), AV.p (PV.sc (Value.int IntKind.i64 0)), AV.p (PV.ps z 6 L), AV.p (PV.sc (Value.bool false)), AV.p (PV.sc (Value.bool false)), AV.p (PV.sc (Value.bool false))]]⟩
         (.need (AV.p (PV.sc (Value.int IntKind.i64 (IntKind.i64.wrap ((↑i : Int) + 1)))) = sI IntKind.i64 (↑(i + 1) : Int))
          (.at (bodyCfg Tryd.prog envM 19 0 [AV.mp 0 0, AV.p (PV.ps n 6 C), AV.p (PV.sc (Value.int IntKind.i64 lp)), AV.p (PV.sc (Value.int IntKind.i64 (↑(i + 1) : Int)))] ([Blk.ac [AV.os Option.none 1 3 F, AV.os Option.none 0 0 [], AV.os Option.none 0 0 [], AV.p (PV.sc (Value.int IntKind.i64 4)), AV.p (PV.sc (Value.int IntKind.i64 0)), AV.p (PV.sc (Value.int IntKind.i64 0)), AV.p (PV.sc (Value.int IntKind.i64 0)), AV.p (PV.ps z 6 L), AV.p (PV.sc (Value.bool false)), AV.p (PV.sc (Value.bool false)), AV.p (PV.sc (Value.bool false))]]) 1 119)))))))))
   (.out (Out.ret (AV.tup []) [Blk.ac [AV.os Option.none 1 3 F, AV.os Option.none 0 0 [], AV.os Option.none 0 0 [], AV.p (PV.sc (Value.int IntKind.i64 4)), AV.p (PV.sc (Value.int IntKind.i64 0)), AV.p (PV.sc (Value.int IntKind.i64 0)), AV.p (PV.sc (Value.int IntKind.i64 0)), AV.p (PV.ps z 6 L), AV.p (PV.sc (Value.bool mn)), AV.p (PV.sc (Value.bool false)), AV.p (PV.sc (Value.bool false))]])))
theorem jo_tree (lp : Int) (F : List PV) (L : List PV) (z : Nat) (mn : Bool) (n : Nat) (C : List PV) (i : Nat) (kd : Int) (nn : Int) (zz : Nat) (y : Nat) (cs : List PV) : grow Tryd.prog envM (joOrc lp F L z mn n C i kd nn zz y cs) 1000000 true (bodyCfg Tryd.prog envM 19 0 ([AV.mp 0 0, AV.p (PV.ps n 6 C), sI IntKind.i64 lp, sI IntKind.i64 (↑i : Int)]) ([jdg F L z mn]) 1 119) joSc atEnd = joTree lp F L z mn n C i kd nn zz y cs := by kernel_rfl

/- je: 753 steps -/
noncomputable def jeOrc (lp : Int) (F : List PV) (L : List PV) (z : Nat) (mn : Bool) (n : Nat) (C : List PV) (i : Nat) (u : Unit) : Orc := orcS (jeC lp F L z mn n C i u) noLed [(19, 0)] [(19, 0, 1), (19, 7, 6)] [(19, 4, 2), (19, 4, 3)] (jeS lp F L z mn n C i u)
def jeSc : Sc := .fin
noncomputable def jeTree (lp : Int) (F : List PV) (L : List PV) (z : Nat) (mn : Bool) (n : Nat) (C : List PV) (i : Nat) (_u : Unit) : Tree :=
  (.test (decide ((↑i : Int) < (↑n : Int)))
   (.must (inB (↑i : Int) n && true && true)
    (.must (isInt IntKind.i64 (C.getD ((↑i : Int).toNat * 6) PV.bad) && (isInt IntKind.i64 (C.getD ((↑i : Int).toNat * 6 + 1) PV.bad) && (isInt IntKind.i64 (C.getD ((↑i : Int).toNat * 6 + 1 + 1) PV.bad) && (isPs (C.getD ((↑i : Int).toNat * 6 + 1 + 1 + 1) PV.bad) && (isPs (C.getD ((↑i : Int).toNat * 6 + 1 + 1 + 1 + 1) PV.bad) && (isPs (C.getD ((↑i : Int).toNat * 6 + 1 + 1 + 1 + 1 + 1) PV.bad) && true))))) && true)
     (.need (AV.agg [AV.p (PV.sc (Value.int IntKind.i64 (pvInt (C.getD ((↑i : Int).toNat * 6) PV.bad)))), AV.p (PV.sc (Value.int IntKind.i64 (pvInt (C.getD ((↑i : Int).toNat * 6 + 1) PV.bad)))), AV.p (PV.sc (Value.int IntKind.i64 (pvInt (C.getD ((↑i : Int).toNat * 6 + 1 + 1) PV.bad)))), AV.p (PV.ps (psLen (C.getD ((↑i : Int).toNat * 6 + 1 + 1 + 1) PV.bad)) (psSz (C.getD ((↑i : Int).toNat * 6 + 1 + 1 + 1) PV.bad)) (psCells (C.getD ((↑i : Int).toNat * 6 + 1 + 1 + 1) PV.bad))), AV.p (PV.ps (psLen (C.getD ((↑i : Int).toNat * 6 + 1 + 1 + 1 + 1) PV.bad)) (psSz (C.getD ((↑i : Int).toNat * 6 + 1 + 1 + 1 + 1) PV.bad)) (psCells (C.getD ((↑i : Int).toNat * 6 + 1 + 1 + 1 + 1) PV.bad))), AV.p (PV.ps (psLen (C.getD ((↑i : Int).toNat * 6 + 1 + 1 + 1 + 1 + 1) PV.bad)) (psSz (C.getD ((↑i : Int).toNat * 6 + 1 + 1 + 1 + 1 + 1) PV.bad)) (psCells (C.getD ((↑i : Int).toNat * 6 + 1 + 1 + 1 + 1 + 1) PV.bad)))] = AV.agg [sI IntKind.i64 14, sI IntKind.i64 0, sI IntKind.i64 0, AV.p (PV.ps 0 0 []), AV.p (PV.ps 0 0 []), AV.p (PV.ps 0 0 [])])
      (.test (mn)
       (.call ⟨19, [AV.mp 0 0, AV.p (PV.ps 0 0 []), AV.p (PV.sc (Value.int IntKind.i64 lp))], [Blk.ac [AV.os Option.none 1 3 F, AV.os Option.none 0 0 [], AV.os Option.none 0 0 [], AV.p (PV.sc (Value.int IntKind.i64 4)), AV.p (PV.sc (Value.int IntKind.i64 0)), AV.p (PV.sc (Value.int IntKind.i64 0)), AV.p (PV.sc (Value.int IntKind.i64 0)), AV.p (PV.ps z 6 L), AV.p (PV.sc (Value.bool true)), AV.p (PV.sc (Value.bool false)), AV.p (PV.sc (Value.bool false))]], AV.tup [], [Blk.ac [AV.os Option.none 1 3 F, AV.os Option.none 0 0 [], AV.os Option.none 0 0 [], AV.p (PV.sc (Value.int IntKind.i64 4)), AV.p (PV.sc (Value.int IntKind.i64 0)), AV.p (PV.sc (Value.int IntKind.i64 0)), AV.p (PV.sc (Value.int IntKind.i64 0)), AV.p (PV.ps z 6 L), AV.p (PV.sc (Value.bool true)), AV.p (PV.sc (Value.bool false)), AV.p (PV.sc (Value.bool false))]]⟩
        (.need (AV.p (PV.sc (Value.int IntKind.i64 (IntKind.i64.wrap ((↑i : Int) + 1)))) = sI IntKind.i64 (↑(i + 1) : Int))
         (.at (bodyCfg Tryd.prog envM 19 0 [AV.mp 0 0, AV.p (PV.ps n 6 C), AV.p (PV.sc (Value.int IntKind.i64 lp)), AV.p (PV.sc (Value.int IntKind.i64 (↑(i + 1) : Int)))] ([Blk.ac [AV.os Option.none 1 3 F, AV.os Option.none 0 0 [], AV.os Option.none 0 0 [], AV.p (PV.sc (Value.int IntKind.i64 4)), AV.p (PV.sc (Value.int IntKind.i64 0)), AV.p (PV.sc (Value.int IntKind.i64 0)), AV.p (PV.sc (Value.int IntKind.i64 0)), AV.p (PV.ps z 6 L), AV.p (PV.sc (Value.bool true)), AV.p (PV.sc (Value.bool false)), AV.p (PV.sc (Value.bool false))]]) 1 119))))
       (.call ⟨19, [AV.mp 0 0, AV.p (PV.ps 0 0 []), AV.p (PV.sc (Value.int IntKind.i64 lp))], [Blk.ac [AV.os Option.none 1 3 F, AV.os Option.none 0 0 [], AV.os Option.none 0 0 [], AV.p (PV.sc (Value.int IntKind.i64 4)), AV.p (PV.sc (Value.int IntKind.i64 0)), AV.p (PV.sc (Value.int IntKind.i64 0)), AV.p (PV.sc (Value.int IntKind.i64 0)), AV.p (PV.ps z 6 L), AV.p (PV.sc (Value.bool false)), AV.p (PV.sc (Value.bool false)), AV.p (PV.sc (Value.bool false))]], AV.tup [], [Blk.ac [AV.os Option.none 1 3 F, AV.os Option.none 0 0 [], AV.os Option.none 0 0 [], AV.p (PV.sc (Value.int IntKind.i64 4)), AV.p (PV.sc (Value.int IntKind.i64 0)), AV.p (PV.sc (Value.int IntKind.i64 0)), AV.p (PV.sc (Value.int IntKind.i64 0)), AV.p (PV.ps z 6 L), AV.p (PV.sc (Value.bool false)), AV.p (PV.sc (Value.bool false)), AV.p (PV.sc (Value.bool false))]]⟩
        (.need (AV.p (PV.sc (Value.int IntKind.i64 (IntKind.i64.wrap ((↑i : Int) + 1)))) = sI IntKind.i64 (↑(i + 1) : Int))
         (.at (bodyCfg Tryd.prog envM 19 0 [AV.mp 0 0, AV.p (PV.ps n 6 C), AV.p (PV.sc (Value.int IntKind.i64 lp)), AV.p (PV.sc (Value.int IntKind.i64 (↑(i + 1) : Int)))] ([Blk.ac [AV.os Option.none 1 3 F, AV.os Option.none 0 0 [], AV.os Option.none 0 0 [], AV.p (PV.sc (Value.int IntKind.i64 4)), AV.p (PV.sc (Value.int IntKind.i64 0)), AV.p (PV.sc (Value.int IntKind.i64 0)), AV.p (PV.sc (Value.int IntKind.i64 0)), AV.p (PV.ps z 6 L), AV.p (PV.sc (Value.bool false)), AV.p (PV.sc (Value.bool false)), AV.p (PV.sc (Value.bool false))]]) 1 119))))))))
   (.out (Out.ret (AV.tup []) [Blk.ac [AV.os Option.none 1 3 F, AV.os Option.none 0 0 [], AV.os Option.none 0 0 [], AV.p (PV.sc (Value.int IntKind.i64 4)), AV.p (PV.sc (Value.int IntKind.i64 0)), AV.p (PV.sc (Value.int IntKind.i64 0)), AV.p (PV.sc (Value.int IntKind.i64 0)), AV.p (PV.ps z 6 L), AV.p (PV.sc (Value.bool mn)), AV.p (PV.sc (Value.bool false)), AV.p (PV.sc (Value.bool false))]])))
theorem je_tree (lp : Int) (F : List PV) (L : List PV) (z : Nat) (mn : Bool) (n : Nat) (C : List PV) (i : Nat) (u : Unit) : grow Tryd.prog envM (jeOrc lp F L z mn n C i u) 1000000 true (bodyCfg Tryd.prog envM 19 0 ([AV.mp 0 0, AV.p (PV.ps n 6 C), sI IntKind.i64 lp, sI IntKind.i64 (↑i : Int)]) ([jdg F L z mn]) 1 119) jeSc atEnd = jeTree lp F L z mn n C i u := by kernel_rfl

/- jp: 675 steps -/
noncomputable def jpOrc (lp : Int) (F : List PV) (L : List PV) (z : Nat) (mn : Bool) (n : Nat) (C : List PV) (i : Nat) (cs : List PV) : Orc := orcS (jpC lp F L z mn n C i cs) noLed [(19, 0)] [(19, 0, 1), (19, 7, 6)] [(19, 4, 2), (19, 4, 3)] (jpS lp F L z mn n C i cs)
def jpSc : Sc := .fin
noncomputable def jpTree (lp : Int) (F : List PV) (L : List PV) (z : Nat) (mn : Bool) (n : Nat) (C : List PV) (i : Nat) (cs : List PV) : Tree :=
  (.test (decide ((↑i : Int) < (↑n : Int)))
   (.must (inB (↑i : Int) n && true && true)
    (.must (isInt IntKind.i64 (C.getD ((↑i : Int).toNat * 6) PV.bad) && (isInt IntKind.i64 (C.getD ((↑i : Int).toNat * 6 + 1) PV.bad) && (isInt IntKind.i64 (C.getD ((↑i : Int).toNat * 6 + 1 + 1) PV.bad) && (isPs (C.getD ((↑i : Int).toNat * 6 + 1 + 1 + 1) PV.bad) && (isPs (C.getD ((↑i : Int).toNat * 6 + 1 + 1 + 1 + 1) PV.bad) && (isPs (C.getD ((↑i : Int).toNat * 6 + 1 + 1 + 1 + 1 + 1) PV.bad) && true))))) && true)
     (.need (AV.agg [AV.p (PV.sc (Value.int IntKind.i64 (pvInt (C.getD ((↑i : Int).toNat * 6) PV.bad)))), AV.p (PV.sc (Value.int IntKind.i64 (pvInt (C.getD ((↑i : Int).toNat * 6 + 1) PV.bad)))), AV.p (PV.sc (Value.int IntKind.i64 (pvInt (C.getD ((↑i : Int).toNat * 6 + 1 + 1) PV.bad)))), AV.p (PV.ps (psLen (C.getD ((↑i : Int).toNat * 6 + 1 + 1 + 1) PV.bad)) (psSz (C.getD ((↑i : Int).toNat * 6 + 1 + 1 + 1) PV.bad)) (psCells (C.getD ((↑i : Int).toNat * 6 + 1 + 1 + 1) PV.bad))), AV.p (PV.ps (psLen (C.getD ((↑i : Int).toNat * 6 + 1 + 1 + 1 + 1) PV.bad)) (psSz (C.getD ((↑i : Int).toNat * 6 + 1 + 1 + 1 + 1) PV.bad)) (psCells (C.getD ((↑i : Int).toNat * 6 + 1 + 1 + 1 + 1) PV.bad))), AV.p (PV.ps (psLen (C.getD ((↑i : Int).toNat * 6 + 1 + 1 + 1 + 1 + 1) PV.bad)) (psSz (C.getD ((↑i : Int).toNat * 6 + 1 + 1 + 1 + 1 + 1) PV.bad)) (psCells (C.getD ((↑i : Int).toNat * 6 + 1 + 1 + 1 + 1 + 1) PV.bad)))] = AV.agg [sI IntKind.i64 6, sI IntKind.i64 0, sI IntKind.i64 0, AV.p (PV.ps 0 0 []), AV.p (PV.ps 1 6 cs), AV.p (PV.ps 0 0 [])])
      (.test (mn)
       (.call ⟨19, [AV.mp 0 0, AV.p (PV.ps 1 6 cs), AV.p (PV.sc (Value.int IntKind.i64 (IntKind.i64.wrap (lp + 1))))], [Blk.ac [AV.os Option.none 1 3 F, AV.os Option.none 0 0 [], AV.os Option.none 0 0 [], AV.p (PV.sc (Value.int IntKind.i64 4)), AV.p (PV.sc (Value.int IntKind.i64 0)), AV.p (PV.sc (Value.int IntKind.i64 0)), AV.p (PV.sc (Value.int IntKind.i64 0)), AV.p (PV.ps z 6 L), AV.p (PV.sc (Value.bool true)), AV.p (PV.sc (Value.bool false)), AV.p (PV.sc (Value.bool false))]], AV.tup [], [Blk.ac [AV.os Option.none 1 3 F, AV.os Option.none 0 0 [], AV.os Option.none 0 0 [], AV.p (PV.sc (Value.int IntKind.i64 4)), AV.p (PV.sc (Value.int IntKind.i64 0)), AV.p (PV.sc (Value.int IntKind.i64 0)), AV.p (PV.sc (Value.int IntKind.i64 0)), AV.p (PV.ps z 6 L), AV.p (PV.sc (Value.bool true)), AV.p (PV.sc (Value.bool false)), AV.p (PV.sc (Value.bool false))]]⟩
        (.need (AV.p (PV.sc (Value.int IntKind.i64 (IntKind.i64.wrap ((↑i : Int) + 1)))) = sI IntKind.i64 (↑(i + 1) : Int))
         (.at (bodyCfg Tryd.prog envM 19 0 [AV.mp 0 0, AV.p (PV.ps n 6 C), AV.p (PV.sc (Value.int IntKind.i64 lp)), AV.p (PV.sc (Value.int IntKind.i64 (↑(i + 1) : Int)))] ([Blk.ac [AV.os Option.none 1 3 F, AV.os Option.none 0 0 [], AV.os Option.none 0 0 [], AV.p (PV.sc (Value.int IntKind.i64 4)), AV.p (PV.sc (Value.int IntKind.i64 0)), AV.p (PV.sc (Value.int IntKind.i64 0)), AV.p (PV.sc (Value.int IntKind.i64 0)), AV.p (PV.ps z 6 L), AV.p (PV.sc (Value.bool true)), AV.p (PV.sc (Value.bool false)), AV.p (PV.sc (Value.bool false))]]) 1 119))))
       (.call ⟨19, [AV.mp 0 0, AV.p (PV.ps 1 6 cs), AV.p (PV.sc (Value.int IntKind.i64 (IntKind.i64.wrap (lp + 1))))], [Blk.ac [AV.os Option.none 1 3 F, AV.os Option.none 0 0 [], AV.os Option.none 0 0 [], AV.p (PV.sc (Value.int IntKind.i64 4)), AV.p (PV.sc (Value.int IntKind.i64 0)), AV.p (PV.sc (Value.int IntKind.i64 0)), AV.p (PV.sc (Value.int IntKind.i64 0)), AV.p (PV.ps z 6 L), AV.p (PV.sc (Value.bool false)), AV.p (PV.sc (Value.bool false)), AV.p (PV.sc (Value.bool false))]], AV.tup [], [Blk.ac [AV.os Option.none 1 3 F, AV.os Option.none 0 0 [], AV.os Option.none 0 0 [], AV.p (PV.sc (Value.int IntKind.i64 4)), AV.p (PV.sc (Value.int IntKind.i64 0)), AV.p (PV.sc (Value.int IntKind.i64 0)), AV.p (PV.sc (Value.int IntKind.i64 0)), AV.p (PV.ps z 6 L), AV.p (PV.sc (Value.bool false)), AV.p (PV.sc (Value.bool false)), AV.p (PV.sc (Value.bool false))]]⟩
        (.need (AV.p (PV.sc (Value.int IntKind.i64 (IntKind.i64.wrap ((↑i : Int) + 1)))) = sI IntKind.i64 (↑(i + 1) : Int))
         (.at (bodyCfg Tryd.prog envM 19 0 [AV.mp 0 0, AV.p (PV.ps n 6 C), AV.p (PV.sc (Value.int IntKind.i64 lp)), AV.p (PV.sc (Value.int IntKind.i64 (↑(i + 1) : Int)))] ([Blk.ac [AV.os Option.none 1 3 F, AV.os Option.none 0 0 [], AV.os Option.none 0 0 [], AV.p (PV.sc (Value.int IntKind.i64 4)), AV.p (PV.sc (Value.int IntKind.i64 0)), AV.p (PV.sc (Value.int IntKind.i64 0)), AV.p (PV.sc (Value.int IntKind.i64 0)), AV.p (PV.ps z 6 L), AV.p (PV.sc (Value.bool false)), AV.p (PV.sc (Value.bool false)), AV.p (PV.sc (Value.bool false))]]) 1 119))))))))
   (.out (Out.ret (AV.tup []) [Blk.ac [AV.os Option.none 1 3 F, AV.os Option.none 0 0 [], AV.os Option.none 0 0 [], AV.p (PV.sc (Value.int IntKind.i64 4)), AV.p (PV.sc (Value.int IntKind.i64 0)), AV.p (PV.sc (Value.int IntKind.i64 0)), AV.p (PV.sc (Value.int IntKind.i64 0)), AV.p (PV.ps z 6 L), AV.p (PV.sc (Value.bool mn)), AV.p (PV.sc (Value.bool false)), AV.p (PV.sc (Value.bool false))]])))
theorem jp_tree (lp : Int) (F : List PV) (L : List PV) (z : Nat) (mn : Bool) (n : Nat) (C : List PV) (i : Nat) (cs : List PV) : grow Tryd.prog envM (jpOrc lp F L z mn n C i cs) 1000000 true (bodyCfg Tryd.prog envM 19 0 ([AV.mp 0 0, AV.p (PV.ps n 6 C), sI IntKind.i64 lp, sI IntKind.i64 (↑i : Int)]) ([jdg F L z mn]) 1 119) jpSc atEnd = jpTree lp F L z mn n C i cs := by kernel_rfl

/- rc: 776 steps -/
noncomputable def rcOrc (n : Nat) (L : List PV) (na : Nat) (A : List PV) (xn : Int) (xm : Int) (sz : Int) (dp : Int) : Orc := orcL (rcC n L na A xn xm sz dp) noLed [] [(7, 9, 12), (7, 9, 18), (7, 9, 22), (7, 9, 26)] []
def rcSc : Sc := (.fork (.lit (.lit (.lit .fin))) (.fork (.lit (.lit .fin)) (.fork (.lit .fin) .fin)))
noncomputable def rcTree (n : Nat) (L : List PV) (na : Nat) (A : List PV) (xn : Int) (xm : Int) (sz : Int) (dp : Int) : Tree :=
  (.call ⟨16, [AV.p (PV.ps n 6 L)], [], AV.p (PV.ps na 3 A), []⟩
   (.call ⟨15, [AV.p (PV.ps na 3 A)], [], AV.tup [AV.p (PV.sc (Value.int IntKind.i64 xn)), AV.p (PV.sc (Value.int IntKind.i64 xm))], []⟩
    (.call ⟨17, [AV.p (PV.ps n 6 L)], [], AV.p (PV.sc (Value.int IntKind.i64 sz)), []⟩
     (.test (decide (sz > 32768))
      (.call ⟨19, [AV.mp 0 0, AV.p (PV.ps n 6 L), AV.p (PV.sc (Value.int IntKind.i64 0))], [Blk.ac [AV.os Option.none 1 3 [PV.sc (Value.int IntKind.i64 0), PV.sc (Value.int IntKind.i64 0), PV.ps n 6 L], AV.os Option.none 0 0 [], AV.os Option.none 0 0 [], AV.p (PV.sc (Value.int IntKind.i64 4)), AV.p (PV.sc (Value.int IntKind.i64 0)), AV.p (PV.sc (Value.int IntKind.i64 0)), AV.p (PV.sc (Value.int IntKind.i64 0)), AV.p (PV.ps n 6 L), AV.p (PV.sc (Value.bool true)), AV.p (PV.sc (Value.bool false)), AV.p (PV.sc (Value.bool false))]], AV.tup [], [Blk.ac [AV.os Option.none 1 3 [PV.sc (Value.int IntKind.i64 0), PV.sc (Value.int IntKind.i64 0), PV.ps n 6 L], AV.os Option.none 0 0 [], AV.os Option.none 0 0 [], AV.p (PV.sc (Value.int IntKind.i64 4)), AV.p (PV.sc (Value.int IntKind.i64 0)), AV.p (PV.sc (Value.int IntKind.i64 0)), AV.p (PV.sc (Value.int IntKind.i64 0)), AV.p (PV.ps n 6 L), AV.p (PV.sc (Value.bool true)), AV.p (PV.sc (Value.bool false)), AV.p (PV.sc (Value.bool false))]]⟩
       (.out (Out.ret (AV.p (PV.sc (Value.int IntKind.i64 141))) [])))
      (.call ⟨18, [AV.p (PV.ps n 6 L)], [], AV.p (PV.sc (Value.int IntKind.i64 dp)), []⟩
       (.test (decide (dp > 200))
        (.call ⟨19, [AV.mp 0 0, AV.p (PV.ps n 6 L), AV.p (PV.sc (Value.int IntKind.i64 0))], [Blk.ac [AV.os Option.none 1 3 [PV.sc (Value.int IntKind.i64 0), PV.sc (Value.int IntKind.i64 0), PV.ps n 6 L], AV.os Option.none 0 0 [], AV.os Option.none 0 0 [], AV.p (PV.sc (Value.int IntKind.i64 4)), AV.p (PV.sc (Value.int IntKind.i64 0)), AV.p (PV.sc (Value.int IntKind.i64 0)), AV.p (PV.sc (Value.int IntKind.i64 0)), AV.p (PV.ps n 6 L), AV.p (PV.sc (Value.bool true)), AV.p (PV.sc (Value.bool false)), AV.p (PV.sc (Value.bool false))]], AV.tup [], [Blk.ac [AV.os Option.none 1 3 [PV.sc (Value.int IntKind.i64 0), PV.sc (Value.int IntKind.i64 0), PV.ps n 6 L], AV.os Option.none 0 0 [], AV.os Option.none 0 0 [], AV.p (PV.sc (Value.int IntKind.i64 4)), AV.p (PV.sc (Value.int IntKind.i64 0)), AV.p (PV.sc (Value.int IntKind.i64 0)), AV.p (PV.sc (Value.int IntKind.i64 0)), AV.p (PV.ps n 6 L), AV.p (PV.sc (Value.bool true)), AV.p (PV.sc (Value.bool false)), AV.p (PV.sc (Value.bool false))]]⟩
         (.out (Out.ret (AV.p (PV.sc (Value.int IntKind.i64 141))) [])))
        (.test (decide (xn > 32768))
         (.call ⟨19, [AV.mp 0 0, AV.p (PV.ps n 6 L), AV.p (PV.sc (Value.int IntKind.i64 0))], [Blk.ac [AV.os Option.none 1 3 [PV.sc (Value.int IntKind.i64 0), PV.sc (Value.int IntKind.i64 0), PV.ps n 6 L], AV.os Option.none 0 0 [], AV.os Option.none 0 0 [], AV.p (PV.sc (Value.int IntKind.i64 4)), AV.p (PV.sc (Value.int IntKind.i64 0)), AV.p (PV.sc (Value.int IntKind.i64 0)), AV.p (PV.sc (Value.int IntKind.i64 0)), AV.p (PV.ps n 6 L), AV.p (PV.sc (Value.bool true)), AV.p (PV.sc (Value.bool false)), AV.p (PV.sc (Value.bool false))]], AV.tup [], [Blk.ac [AV.os Option.none 1 3 [PV.sc (Value.int IntKind.i64 0), PV.sc (Value.int IntKind.i64 0), PV.ps n 6 L], AV.os Option.none 0 0 [], AV.os Option.none 0 0 [], AV.p (PV.sc (Value.int IntKind.i64 4)), AV.p (PV.sc (Value.int IntKind.i64 0)), AV.p (PV.sc (Value.int IntKind.i64 0)), AV.p (PV.sc (Value.int IntKind.i64 0)), AV.p (PV.ps n 6 L), AV.p (PV.sc (Value.bool true)), AV.p (PV.sc (Value.bool false)), AV.p (PV.sc (Value.bool false))]]⟩
          (.out (Out.ret (AV.p (PV.sc (Value.int IntKind.i64 141))) [])))
         (.test (decide (xm > 200))
          (.call ⟨19, [AV.mp 0 0, AV.p (PV.ps n 6 L), AV.p (PV.sc (Value.int IntKind.i64 0))], [Blk.ac [AV.os Option.none 1 3 [PV.sc (Value.int IntKind.i64 0), PV.sc (Value.int IntKind.i64 0), PV.ps n 6 L], AV.os Option.none 0 0 [], AV.os Option.none 0 0 [], AV.p (PV.sc (Value.int IntKind.i64 4)), AV.p (PV.sc (Value.int IntKind.i64 0)), AV.p (PV.sc (Value.int IntKind.i64 0)), AV.p (PV.sc (Value.int IntKind.i64 0)), AV.p (PV.ps n 6 L), AV.p (PV.sc (Value.bool true)), AV.p (PV.sc (Value.bool false)), AV.p (PV.sc (Value.bool false))]], AV.tup [], [Blk.ac [AV.os Option.none 1 3 [PV.sc (Value.int IntKind.i64 0), PV.sc (Value.int IntKind.i64 0), PV.ps n 6 L], AV.os Option.none 0 0 [], AV.os Option.none 0 0 [], AV.p (PV.sc (Value.int IntKind.i64 4)), AV.p (PV.sc (Value.int IntKind.i64 0)), AV.p (PV.sc (Value.int IntKind.i64 0)), AV.p (PV.sc (Value.int IntKind.i64 0)), AV.p (PV.ps n 6 L), AV.p (PV.sc (Value.bool true)), AV.p (PV.sc (Value.bool false)), AV.p (PV.sc (Value.bool false))]]⟩
           (.out (Out.ret (AV.p (PV.sc (Value.int IntKind.i64 141))) [])))
          (.call ⟨19, [AV.mp 0 0, AV.p (PV.ps n 6 L), AV.p (PV.sc (Value.int IntKind.i64 0))], [Blk.ac [AV.os Option.none 1 3 [PV.sc (Value.int IntKind.i64 0), PV.sc (Value.int IntKind.i64 0), PV.ps n 6 L], AV.os Option.none 0 0 [], AV.os Option.none 0 0 [], AV.p (PV.sc (Value.int IntKind.i64 4)), AV.p (PV.sc (Value.int IntKind.i64 0)), AV.p (PV.sc (Value.int IntKind.i64 0)), AV.p (PV.sc (Value.int IntKind.i64 0)), AV.p (PV.ps n 6 L), AV.p (PV.sc (Value.bool false)), AV.p (PV.sc (Value.bool false)), AV.p (PV.sc (Value.bool false))]], AV.tup [], [Blk.ac [AV.os Option.none 1 3 [PV.sc (Value.int IntKind.i64 0), PV.sc (Value.int IntKind.i64 0), PV.ps n 6 L], AV.os Option.none 0 0 [], AV.os Option.none 0 0 [], AV.p (PV.sc (Value.int IntKind.i64 4)), AV.p (PV.sc (Value.int IntKind.i64 0)), AV.p (PV.sc (Value.int IntKind.i64 0)), AV.p (PV.sc (Value.int IntKind.i64 0)), AV.p (PV.ps n 6 L), AV.p (PV.sc (Value.bool false)), AV.p (PV.sc (Value.bool false)), AV.p (PV.sc (Value.bool false))]]⟩
           (.out (Out.ret (AV.p (PV.sc (Value.int IntKind.i64 0))) [])))))))))))
theorem rc_tree (n : Nat) (L : List PV) (na : Nat) (A : List PV) (xn : Int) (xm : Int) (sz : Int) (dp : Int) : growF Tryd.prog envM (rcOrc n L na A xn xm sz dp) 1000000 7 ([pA n L]) ([]) rcSc = rcTree n L na A xn xm sz dp := by kernel_rfl

/- ck: 276 steps -/
noncomputable def ckOrc (n : Nat) (L : List PV) (t1 : Int) (e1 : Int) (mn1 : Bool) : Orc := orcL (ckC n L t1 e1 mn1) noLed [] [(6, 0, 4)] []
def ckSc : Sc := .fin
noncomputable def ckTree (n : Nat) (L : List PV) (t1 : Int) (e1 : Int) (mn1 : Bool) : Tree :=
  (.call ⟨14, [AV.mp 0 0, AV.p (PV.ps n 6 L), AV.p (PV.sc (Value.int IntKind.i64 1)), AV.p (PV.sc (Value.int IntKind.i64 0)), AV.mp 0 8], [Blk.ac [AV.os Option.none 1 3 [PV.sc (Value.int IntKind.i64 0), PV.sc (Value.int IntKind.i64 0), PV.ps n 6 L], AV.os Option.none 0 0 [], AV.os Option.none 0 0 [], AV.p (PV.sc (Value.int IntKind.i64 4)), AV.p (PV.sc (Value.int IntKind.i64 0)), AV.p (PV.sc (Value.int IntKind.i64 0)), AV.p (PV.sc (Value.int IntKind.i64 0)), AV.p (PV.ps n 6 L), AV.p (PV.sc (Value.int IntKind.i64 32768)), AV.p (PV.sc (Value.int IntKind.i64 32768)), AV.p (PV.sc (Value.bool false)), AV.p (PV.sc (Value.bool false)), AV.p (PV.sc (Value.bool false))]], AV.tup [], [Blk.ac [AV.os Option.none 1 3 [PV.sc (Value.int IntKind.i64 0), PV.sc (Value.int IntKind.i64 0), PV.ps n 6 L], AV.os Option.none 0 0 [], AV.os Option.none 0 0 [], AV.p (PV.sc (Value.int IntKind.i64 4)), AV.p (PV.sc (Value.int IntKind.i64 0)), AV.p (PV.sc (Value.int IntKind.i64 0)), AV.p (PV.sc (Value.int IntKind.i64 0)), AV.p (PV.ps n 6 L), AV.p (PV.sc (Value.int IntKind.i64 t1)), AV.p (PV.sc (Value.int IntKind.i64 e1)), AV.p (PV.sc (Value.bool mn1)), AV.p (PV.sc (Value.bool false)), AV.p (PV.sc (Value.bool false))]]⟩
   (.test (mn1)
    (.out (Out.ret (AV.p (PV.sc (Value.int IntKind.i64 141))) []))
    (.out (Out.ret (AV.p (PV.sc (Value.int IntKind.i64 0))) []))))
theorem ck_tree (n : Nat) (L : List PV) (t1 : Int) (e1 : Int) (mn1 : Bool) : growF Tryd.prog envM (ckOrc n L t1 e1 mn1) 1000000 6 ([pA n L]) ([]) ckSc = ckTree n L t1 e1 mn1 := by kernel_rfl


theorem jexp_does {F L : List PV} {z : Nat} {mn : Bool} : ∀ k : Nat, Does Tryd.prog envM 31 [.mp 0 0, aggE k] [jdg F L z mn] (.tup []) [jdg F L z mn]
  | 0 => does_of_tree names (j0_tree F L z mn) rfl
  | k + 1 => by
    have IH := jexp_does (F := F) (L := L) (z := z) (mn := mn) k
    obtain ⟨kd, nn, zz, y, cs, q1, q2⟩ := encE_is k
    show Does _ _ _ [_, .agg [_, _, .p (.ps 1 3 (encE k))]] _ _ _
    rw [q1]
    rw [q2] at IH
    exact does_of_tree names (j1_tree F L z mn kd nn zz y cs) ⟨IH, rfl⟩

theorem jnil_does {F L : List PV} {z : Nat} {mn : Bool} {lp : Int} : Does Tryd.prog envM 19 [.mp 0 0, .p (.ps 0 0 []), sI .i64 lp] [jdg F L z mn] (.tup []) [jdg F L z mn] := does_of_tree names (jn_tree lp F L z mn) rfl

theorem jlist_loop {F L : List PV} {z : Nat} {mn : Bool} {lp : Int} {l : List Th} (hil : l.length ≤ 1000000) (h0 : 0 ≤ lp) (h1 : lp ≤ 1000000000)
    (inner : ∀ y, Th.loop y ∈ l → Does Tryd.prog envM 19 [.mp 0 0, .p (.ps 1 6 (encT y)), sI .i64 (lp + 1)] [jdg F L z mn] (.tup []) [jdg F L z mn]) : ∀ (r i : Nat), i + r = l.length →
      Am.Good Tryd.prog envM (bodyCfg Tryd.prog envM 19 0 [.mp 0 0, .p (.ps l.length 6 (encTs l)), sI .i64 lp, sI .i64 i] [jdg F L z mn] 1 119) (.ret (.tup []) [jdg F L z mn]) := by
  intro r
  induction r with
  | zero =>
    intro i hr
    have hiI : ¬ (i : Int) < (l.length : Int) := by omega
    refine good_of_tree names (je_tree lp F L z mn l.length (encTs l) i ()) ?_
    simp only [jeTree, Tree.ok]
    exact ⟨fun h => absurd (by simpa using h) hiI, fun _ => trivial⟩
  | succ r ih =>
    intro i hr
    obtain ⟨x, hg⟩ : ∃ x, l[i]? = some x := ⟨l[i]'(by omega), List.getElem?_eq_getElem (by omega)⟩
    have hm := List.mem_of_getElem? hg
    have hiI : (i : Int) < (l.length : Int) := by omega
    have c0 := encTs_at hg 0 (by omega)
    have c1 := encTs_at hg 1 (by omega)
    have c2 := encTs_at hg 2 (by omega)
    have c3 := encTs_at hg 3 (by omega)
    have c4 := encTs_at hg 4 (by omega)
    have c5 := encTs_at hg 5 (by omega)
    have w2 : IntKind.i64.wrap ((i : Int) + 1) = ((i + 1 : Nat) : Int) := by rw [i64In (by omega) (by omega)]; rfl
    have w4 : IntKind.i64.wrap (lp + 1) = lp + 1 := i64In (by omega) (by omega)
    have nx := ih (i + 1) (by omega)
    cases x with
    | out k =>
      obtain ⟨kd, nn, zz, y, cs, q1, q2⟩ := encE_is k
      have hx := jexp_does (F := F) (L := L) (z := z) (mn := mn) k
      rw [q2] at hx
      simp only [encT, q1, List.getD_cons_zero, List.getD_cons_succ, Nat.add_zero] at c0 c1 c2 c3 c4 c5
      refine good_of_tree names (jo_tree lp F L z mn l.length (encTs l) i kd nn zz y cs) ?_
      simp only [joTree, Tree.ok, Int.toNat_natCast, Nat.add_assoc, Nat.reduceAdd, c0, c1, c2, c3, c4, c5, isInt, isPs, pvInt, psLen, psSz, psCells, inB, w2]
      refine ⟨fun _ => ⟨by simp [hiI], by decide, trivial, fun h => ?_, fun h => ?_⟩, fun h => absurd hiI (by simpa using h)⟩
      · subst h; exact ⟨hx, jnil_does, trivial, nx⟩
      · subst h; exact ⟨hx, jnil_does, trivial, nx⟩
    | fin =>
      simp only [encT, List.getD_cons_zero, List.getD_cons_succ, Nat.add_zero] at c0 c1 c2 c3 c4 c5
      refine good_of_tree names (je_tree lp F L z mn l.length (encTs l) i ()) ?_
      simp only [jeTree, Tree.ok, Int.toNat_natCast, Nat.add_assoc, Nat.reduceAdd, c0, c1, c2, c3, c4, c5, isInt, isPs, pvInt, psLen, psSz, psCells, inB, w2]
      refine ⟨fun _ => ⟨by simp [hiI], by decide, trivial, fun h => ?_, fun h => ?_⟩, fun h => absurd hiI (by simpa using h)⟩
      · subst h; exact ⟨jnil_does, trivial, nx⟩
      · subst h; exact ⟨jnil_does, trivial, nx⟩
    | loop y =>
      simp only [encT, List.getD_cons_zero, List.getD_cons_succ, Nat.add_zero] at c0 c1 c2 c3 c4 c5
      have hx := inner y hm
      refine good_of_tree names (jp_tree lp F L z mn l.length (encTs l) i (encT y)) ?_
      simp only [jpTree, Tree.ok, Int.toNat_natCast, Nat.add_assoc, Nat.reduceAdd, c0, c1, c2, c3, c4, c5, isInt, isPs, pvInt, psLen, psSz, psCells, inB, w2, w4]
      refine ⟨fun _ => ⟨by simp [hiI], by decide, trivial, fun h => ?_, fun h => ?_⟩, fun h => absurd hiI (by simpa using h)⟩
      · subst h; exact ⟨hx, trivial, nx⟩
      · subst h; exact ⟨hx, trivial, nx⟩

theorem jlist_does {F L : List PV} {z : Nat} {mn : Bool} : ∀ (N : Nat) (l : List Th) (lp : Int), costs l ≤ N → l.length ≤ 1000000 → 0 ≤ lp → lp + N ≤ 1000000000 →
    Does Tryd.prog envM 19 [.mp 0 0, .p (.ps l.length 6 (encTs l)), sI .i64 lp] [jdg F L z mn] (.tup []) [jdg F L z mn]
  | N, l, lp, hN, hil, h0, h1 => by
    refine does_of_tree names (jl_tree lp F L z mn l.length (encTs l) 0) ?_
    have h := jlist_loop (F := F) (L := L) (z := z) (mn := mn) (lp := lp) hil h0 (by omega) (fun y hy => ?_) l.length 0 (by omega)
    · exact h
    · have hcy := costs_mem hy
      simp only [cost] at hcy
      match N, hN with
      | 0, hN => omega
      | N + 1, hN =>
        have := jlist_does (F := F) (L := L) (z := z) (mn := mn) N [y] (lp + 1) (by simp only [costs]; omega) (by simp) (by omega) (by omega)
        simp only [encTs, List.append_nil, List.length_singleton] at this
        exact this

/-- What the document says of such a list. -/
def tooMany (l : List Th) : Prop := l.length + sumIn l > 32768 ∨ maxIn l > 200 ∨ (allL l).length + sumE (allL l) > 32768 ∨ maxE (allL l) > 200

open Classical in
theorem rcheck_does {l : List Th} (hc : costs l ≤ 1000000) (hil : l.length ≤ 1000000) (hk : ∀ x ∈ l, cost x ≤ 1000000) (hA : ∀ k ∈ allL l, k ≤ 1000000) :
    Does Tryd.prog envM 7 [pA l.length (encTs l)] [] (sI .i64 (if tooMany l then 141 else 0)) [] := by
  have hAl := allL_cost l
  have h16 := all_does 1000000 l hc (by omega) hil
  have h15 := exps_does 1000000 (allL l) hA (Nat.le_refl _) (by omega)
  have h17 := size_does 1000000 l hc hil hk
  have h18 := deep_does 1000000 l hc hil hk
  have h19 : ∀ mn : Bool, Does Tryd.prog envM 19 [.mp 0 0, .p (.ps l.length 6 (encTs l)), sI .i64 0] [jdg (pF l.length (encTs l)) (encTs l) l.length mn] (.tup []) [jdg (pF l.length (encTs l)) (encTs l) l.length mn] := fun mn => jlist_does 1000000 l 0 hc hil (by omega) (by omega)
  refine does_of_tree names (rc_tree l.length (encTs l) (allL l).length (encEs (allL l)) ((allL l).length + sumE (allL l) : Nat) (maxE (allL l) : Nat) (l.length + sumIn l : Nat) (maxIn l : Nat)) ?_
  simp only [rcTree, Tree.ok]
  refine ⟨h16, h15, h17, fun a => ?_, fun a => ⟨h18, fun b => ?_, fun b => ⟨fun c => ?_, fun c => ⟨fun d => ?_, fun d => ?_⟩⟩⟩⟩
  · have a := of_decide_eq_true a
    rw [if_pos (.inl (by omega))]; exact ⟨h19 true, rfl⟩
  · have b := of_decide_eq_true b
    rw [if_pos (.inr (.inl (by omega)))]; exact ⟨h19 true, rfl⟩
  · have c := of_decide_eq_true c
    rw [if_pos (.inr (.inr (.inl (by omega))))]; exact ⟨h19 true, rfl⟩
  · have d := of_decide_eq_true d
    rw [if_pos (.inr (.inr (.inr (by omega))))]; exact ⟨h19 true, rfl⟩
  · have a := of_decide_eq_false a
    have b := of_decide_eq_false b
    have c := of_decide_eq_false c
    have d := of_decide_eq_false d
    have hn : ¬ tooMany l := by unfold tooMany; omega
    rw [if_neg hn]; exact ⟨h19 false, rfl⟩

theorem check_does {l : List Th} (hc : costs l ≤ 1000000) (hil : l.length ≤ 1000000) (hk : ∀ x ∈ l, cost x ≤ 1000000) :
    Does Tryd.prog envM 6 [pA l.length (encTs l)] [] (sI .i64 (if (listF 1 l ⟨32768, 32768, false⟩).mn then 141 else 0)) [] := by
  have h14 := list_does (F := pF l.length (encTs l)) (L := encTs l) (z := l.length) 1000000 l 1 0 ⟨32768, 32768, false⟩ hc hil hk (by omega) (by omega) (by omega) (by omega) (by show (_ : Int) ≤ 32768; omega) (by decide) (by show (_ : Int) ≤ 32768; omega) (by decide)
  generalize listF 1 l ⟨32768, 32768, false⟩ = s at *
  refine does_of_tree names (ck_tree l.length (encTs l) s.t s.e s.mn) ?_
  simp only [ckTree, Tree.ok]
  exact ⟨h14, fun h => by rw [h]; rfl, fun h => by rw [h]; rfl⟩

end Go.Proofs.YtiphaojaolcidaaDoor.N
