/-
  LowMany: the law.
-/
import Derived.Test.YtiphaojaolcidaaDoorLmH
set_option linter.unusedVariables false
set_option linter.unusedSimpArgs false
namespace Go.Proofs.YtiphaojaolcidaaDoor.N
open Go Go.Am

def lwA (m d x : Int) (tr : Bool) (_PK : Int → Int → Int) : List AV := [sI .i64 m, sI .i64 d, sI .i64 x, sB tr]
def lwC (_m _d _x : Int) (_tr : Bool) (PK : Int → Int → Int) (f : FuncId) (args : List AV) (mm : Mem) : Option (AV × Mem) := cond (Nat.beq f 5) (match args with
  | [.p (.sc (.int _ a)), .p (.sc (.int _ b))] => some (sI .i64 (PK a b), mm)
  | _ => none) none
def l0A (M D X : Int) (tr : Bool) (i : Nat) (_kd _nn : Int) (_q _z : Nat) (_cs : List PV) : List AV := [sI .i64 M, sI .i64 D, sI .i64 X, sB tr, .mp 0 0, sI .i64 i]
def l0M (_M _D _X : Int) (_tr : Bool) (_i : Nat) (kd nn : Int) (q z : Nat) (cs : List PV) : Mem := [.ac [sI .i64 kd, sI .i64 nn, .os none q z cs]]
def l0S (_M _D _X : Int) (_tr : Bool) (i : Nat) (_kd _nn : Int) (_q _z : Nat) (_cs : List PV) : FuncId → Nat → Nat → Option (AV → AV) := shapeAt [(3, 6, 1, sI .i64 (i + 1 : Nat))]
def l2A (M D : Int) (tr : Bool) (i : Nat) (cs : List PV) : List AV := [sI .i64 M, sI .i64 D, sB tr, .os none 1 6 cs, sI .i64 i]
def l2M (_M _D : Int) (_tr : Bool) (_i : Nat) (_cs : List PV) : Mem := []
def l2S (_M _D : Int) (_tr : Bool) (i : Nat) (_cs : List PV) : FuncId → Nat → Nat → Option (AV → AV) := shapeAt [(3, 11, 1, sI .i64 (i + 1 : Nat))]
def led3 (r : Int) (f : FuncId) (_ : List AV) (m : Mem) : Option (AV × Mem) := cond (Nat.beq f 6 || Nat.beq f 7) (some (sI .i64 r, m)) (cond (Nat.beq f 8) (some (sB true, m)) none)
def l4A (M : Int) (tr : Bool) (i : Nat) (cs : List PV) (_r : Int) : List AV := [sI .i64 M, sB tr, .os none 1 6 cs, sI .i64 i]
def l4M (_M : Int) (_tr : Bool) (_i : Nat) (_cs : List PV) (_r : Int) : Mem := []
def l4S (_M : Int) (_tr : Bool) (i : Nat) (_cs : List PV) (_r : Int) : FuncId → Nat → Nat → Option (AV → AV) := shapeAt [(3, 15, 1, sI .i64 (i + 1 : Nat))]
def l4L (M : Int) (tr : Bool) (i : Nat) (cs : List PV) (r : Int) := led3 r
def l5A (M : Int) (tr : Bool) (i n : Nat) (cs : List PV) (_r : Int) : List AV := [sI .i64 M, sB tr, .os (some 0) n 6 cs, sI .i64 i]
def l5M (_M : Int) (_tr : Bool) (_i _n : Nat) (_cs : List PV) (_r : Int) : Mem := [.tok]
def l5S (_M : Int) (_tr : Bool) (i _n : Nat) (_cs : List PV) (_r : Int) : FuncId → Nat → Nat → Option (AV → AV) := shapeAt [(3, 15, 1, sI .i64 (i + 1 : Nat))]
def l5L (M : Int) (tr : Bool) (i n : Nat) (cs : List PV) (r : Int) := led3 r

def p1A (a : Int) : List AV := [sI .i64 a, sI .i64 33000]
def p2A (a : Int) : List AV := [sI .i64 a, sI .i64 220]

/- lw: 29 steps -/
noncomputable def lwOrc (m : Int) (d : Int) (x : Int) (tr : Bool) (PK : Int → Int → Int) : Orc := orcL (lwC m d x tr PK) noLed [(3, 0)] [] []
def lwSc : Sc := .fin
noncomputable def lwTree (m : Int) (d : Int) (x : Int) (tr : Bool) (PK : Int → Int → Int) : Tree :=
  (.call ⟨5, [AV.p (PV.sc (Value.int IntKind.i64 m)), AV.p (PV.sc (Value.int IntKind.i64 33000))], [], AV.p (PV.sc (Value.int IntKind.i64 (PK m 33000))), []⟩
   (.call ⟨5, [AV.p (PV.sc (Value.int IntKind.i64 d)), AV.p (PV.sc (Value.int IntKind.i64 220))], [], AV.p (PV.sc (Value.int IntKind.i64 (PK d 220))), []⟩
    (.call ⟨5, [AV.p (PV.sc (Value.int IntKind.i64 x)), AV.p (PV.sc (Value.int IntKind.i64 220))], [], AV.p (PV.sc (Value.int IntKind.i64 (PK x 220))), []⟩
     (.at (bodyCfg Tryd.prog envM 3 0 [AV.p (PV.sc (Value.int IntKind.i64 (PK m 33000))), AV.p (PV.sc (Value.int IntKind.i64 (PK d 220))), AV.p (PV.sc (Value.int IntKind.i64 (PK x 220))), AV.p (PV.sc (Value.bool tr)), AV.mp 0 0, AV.p (PV.sc (Value.int IntKind.i64 0))] ([Blk.ac [AV.p (PV.sc (Value.int IntKind.i64 1)), AV.p (PV.sc (Value.int IntKind.i64 0)), AV.os Option.none 0 0 []]]) 0 70)))))
theorem lw_tree (m : Int) (d : Int) (x : Int) (tr : Bool) (PK : Int → Int → Int) : growF Tryd.prog envM (lwOrc m d x tr PK) 1000000 3 ([sI IntKind.i64 m, sI IntKind.i64 d, sI IntKind.i64 x, sB tr]) ([]) lwSc = lwTree m d x tr PK := by kernel_rfl

/- l0: 40 steps -/
noncomputable def l0Orc (M : Int) (D : Int) (X : Int) (tr : Bool) (i : Nat) (kd : Int) (nn : Int) (q : Nat) (z : Nat) (cs : List PV) : Orc := orcS noC' noLed [(3, 0), (3, 2)] [(3, 0, 1)] [] (l0S M D X tr i kd nn q z cs)
def l0Sc : Sc := .fin
noncomputable def l0Tree (M : Int) (D : Int) (X : Int) (tr : Bool) (i : Nat) (kd : Int) (nn : Int) (q : Nat) (z : Nat) (cs : List PV) : Tree :=
  (.test (decide ((↑i : Int) < X))
   (.need (AV.p (PV.sc (Value.int IntKind.i64 (IntKind.i64.wrap ((↑i : Int) + 1)))) = sI IntKind.i64 (↑(i + 1) : Int))
    (.at (bodyCfg Tryd.prog envM 3 0 [AV.p (PV.sc (Value.int IntKind.i64 M)), AV.p (PV.sc (Value.int IntKind.i64 D)), AV.p (PV.sc (Value.int IntKind.i64 X)), AV.p (PV.sc (Value.bool tr)), AV.mp 0 0, AV.p (PV.sc (Value.int IntKind.i64 (↑(i + 1) : Int)))] ([Blk.ac [AV.p (PV.sc (Value.int IntKind.i64 6)), AV.p (PV.sc (Value.int IntKind.i64 69)), AV.os Option.none 1 3 [PV.sc (Value.int IntKind.i64 kd), PV.sc (Value.int IntKind.i64 nn), PV.ps q z cs]]]) 0 70)))
   (.at (bodyCfg Tryd.prog envM 3 2 [AV.p (PV.sc (Value.int IntKind.i64 M)), AV.p (PV.sc (Value.int IntKind.i64 D)), AV.p (PV.sc (Value.bool tr)), AV.os Option.none 1 6 [PV.sc (Value.int IntKind.i64 13), PV.sc (Value.int IntKind.i64 0), PV.sc (Value.int IntKind.i64 0), PV.ps 1 3 [PV.sc (Value.int IntKind.i64 kd), PV.sc (Value.int IntKind.i64 nn), PV.ps q z cs], PV.ps 0 0 [], PV.ps 0 0 []], AV.p (PV.sc (Value.int IntKind.i64 0))] ([]) 0 70)))
theorem l0_tree (M : Int) (D : Int) (X : Int) (tr : Bool) (i : Nat) (kd : Int) (nn : Int) (q : Nat) (z : Nat) (cs : List PV) : grow Tryd.prog envM (l0Orc M D X tr i kd nn q z cs) 1000000 true (bodyCfg Tryd.prog envM 3 0 ([sI IntKind.i64 M, sI IntKind.i64 D, sI IntKind.i64 X, sB tr, AV.mp 0 0, sI IntKind.i64 (↑i : Int)]) ([Blk.ac [sI IntKind.i64 kd, sI IntKind.i64 nn, AV.os Option.none q z cs]]) 0 70) l0Sc atEnd = l0Tree M D X tr i kd nn q z cs := by kernel_rfl

/- l2: 32 steps -/
noncomputable def l2Orc (M : Int) (D : Int) (tr : Bool) (i : Nat) (cs : List PV) : Orc := orcS noC' noLed [(3, 2), (3, 4)] [(3, 0, 3)] [] (l2S M D tr i cs)
def l2Sc : Sc := .fin
noncomputable def l2Tree (M : Int) (D : Int) (tr : Bool) (i : Nat) (cs : List PV) : Tree :=
  (.test (decide ((↑i : Int) < D))
   (.need (AV.p (PV.sc (Value.int IntKind.i64 (IntKind.i64.wrap ((↑i : Int) + 1)))) = sI IntKind.i64 (↑(i + 1) : Int))
    (.at (bodyCfg Tryd.prog envM 3 2 [AV.p (PV.sc (Value.int IntKind.i64 M)), AV.p (PV.sc (Value.int IntKind.i64 D)), AV.p (PV.sc (Value.bool tr)), AV.os Option.none 1 6 [PV.sc (Value.int IntKind.i64 6), PV.sc (Value.int IntKind.i64 0), PV.sc (Value.int IntKind.i64 0), PV.ps 0 0 [], PV.ps 1 6 cs, PV.ps 0 0 []], AV.p (PV.sc (Value.int IntKind.i64 (↑(i + 1) : Int)))] ([]) 0 70)))
   (.at (bodyCfg Tryd.prog envM 3 4 [AV.p (PV.sc (Value.int IntKind.i64 M)), AV.p (PV.sc (Value.bool tr)), AV.os Option.none 1 6 cs, AV.p (PV.sc (Value.int IntKind.i64 0))] ([]) 0 70)))
theorem l2_tree (M : Int) (D : Int) (tr : Bool) (i : Nat) (cs : List PV) : grow Tryd.prog envM (l2Orc M D tr i cs) 1000000 true (bodyCfg Tryd.prog envM 3 2 ([sI IntKind.i64 M, sI IntKind.i64 D, sB tr, AV.os Option.none 1 6 cs, sI IntKind.i64 (↑i : Int)]) ([]) 0 70) l2Sc atEnd = l2Tree M D tr i cs := by kernel_rfl

/- l4: 60 steps -/
noncomputable def l4Orc (M : Int) (tr : Bool) (i : Nat) (cs : List PV) (r : Int) : Orc := orcS noC' (l4L M tr i cs r) [(3, 4)] [(3, 0, 5), (3, 0, 6)] [(3, 0, 7)] (l4S M tr i cs r)
def l4Sc : Sc := .fin
noncomputable def l4Tree (M : Int) (tr : Bool) (i : Nat) (cs : List PV) (r : Int) : Tree :=
  (.test (decide ((↑i : Int) < M))
   (.test (tr)
    (.need (AV.p (PV.sc (Value.int IntKind.i64 (IntKind.i64.wrap ((↑i : Int) + 1)))) = sI IntKind.i64 (↑(i + 1) : Int))
     (.at (bodyCfg Tryd.prog envM 3 4 [AV.p (PV.sc (Value.int IntKind.i64 M)), AV.p (PV.sc (Value.bool tr)), AV.os (Option.some 0) 2 6 (cs ++ [PV.sc (Value.int IntKind.i64 13), PV.sc (Value.int IntKind.i64 0), PV.sc (Value.int IntKind.i64 0), PV.ps 1 3 [PV.sc (Value.int IntKind.i64 1), PV.sc (Value.int IntKind.i64 0), PV.ps 0 0 []], PV.ps 0 0 [], PV.ps 0 0 []]), AV.p (PV.sc (Value.int IntKind.i64 (↑(i + 1) : Int)))] ([Blk.tok]) 0 70)))
    (.need (AV.p (PV.sc (Value.int IntKind.i64 (IntKind.i64.wrap ((↑i : Int) + 1)))) = sI IntKind.i64 (↑(i + 1) : Int))
     (.at (bodyCfg Tryd.prog envM 3 4 [AV.p (PV.sc (Value.int IntKind.i64 M)), AV.p (PV.sc (Value.bool tr)), AV.os (Option.some 0) 2 6 (cs ++ [PV.sc (Value.int IntKind.i64 14), PV.sc (Value.int IntKind.i64 0), PV.sc (Value.int IntKind.i64 0), PV.ps 0 0 [], PV.ps 0 0 [], PV.ps 0 0 []]), AV.p (PV.sc (Value.int IntKind.i64 (↑(i + 1) : Int)))] ([Blk.tok]) 0 70))))
   (.call ⟨6, [AV.agg [AV.os Option.none 1 3 [PV.sc (Value.int IntKind.i64 0), PV.sc (Value.int IntKind.i64 0), PV.ps 1 6 cs], AV.os Option.none 0 0 [], AV.os Option.none 0 0 [], AV.p (PV.sc (Value.int IntKind.i64 4)), AV.p (PV.sc (Value.int IntKind.i64 0))]], [], AV.p (PV.sc (Value.int IntKind.i64 r)), []⟩
   (.call ⟨7, [AV.agg [AV.os Option.none 1 3 [PV.sc (Value.int IntKind.i64 0), PV.sc (Value.int IntKind.i64 0), PV.ps 1 6 cs], AV.os Option.none 0 0 [], AV.os Option.none 0 0 [], AV.p (PV.sc (Value.int IntKind.i64 4)), AV.p (PV.sc (Value.int IntKind.i64 0))]], [], AV.p (PV.sc (Value.int IntKind.i64 r)), []⟩
   (.call ⟨8, [], [], AV.p (PV.sc (Value.bool true)), []⟩
   (.must (eqAV (AV.p (PV.sc (Value.bool (r == r)))) (AV.p (PV.sc (Value.bool true))) && true && true)
    (.must true
     (.out (Out.ret (AV.p (PV.sc (Value.bool true))) []))))))))
theorem l4_tree (M : Int) (tr : Bool) (i : Nat) (cs : List PV) (r : Int) : grow Tryd.prog envM (l4Orc M tr i cs r) 1000000 true (bodyCfg Tryd.prog envM 3 4 ([sI IntKind.i64 M, sB tr, AV.os Option.none 1 6 cs, sI IntKind.i64 (↑i : Int)]) ([]) 0 70) l4Sc atEnd = l4Tree M tr i cs r := by kernel_rfl

/- l5: 60 steps -/
noncomputable def l5Orc (M : Int) (tr : Bool) (i : Nat) (n : Nat) (cs : List PV) (r : Int) : Orc := orcS noC' (l5L M tr i n cs r) [(3, 4)] [(3, 0, 5), (3, 0, 6)] [(3, 17, 5), (3, 18, 3), (3, 0, 7)] (l5S M tr i n cs r)
def l5Sc : Sc := .fin
noncomputable def l5Tree (M : Int) (tr : Bool) (i : Nat) (n : Nat) (cs : List PV) (r : Int) : Tree :=
  (.test (decide ((↑i : Int) < M))
   (.test (tr)
    (.must (((n + 1) * 96).ble lim && (n + 1).ble lim && true)
     (.need (AV.p (PV.sc (Value.int IntKind.i64 (IntKind.i64.wrap ((↑i : Int) + 1)))) = sI IntKind.i64 (↑(i + 1) : Int))
      (.at (bodyCfg Tryd.prog envM 3 4 [AV.p (PV.sc (Value.int IntKind.i64 M)), AV.p (PV.sc (Value.bool tr)), AV.os (Option.some 0) (n + 1) 6 (cs ++ [PV.sc (Value.int IntKind.i64 13), PV.sc (Value.int IntKind.i64 0), PV.sc (Value.int IntKind.i64 0), PV.ps 1 3 [PV.sc (Value.int IntKind.i64 1), PV.sc (Value.int IntKind.i64 0), PV.ps 0 0 []], PV.ps 0 0 [], PV.ps 0 0 []]), AV.p (PV.sc (Value.int IntKind.i64 (↑(i + 1) : Int)))] ([Blk.tok]) 0 70))))
    (.must (((n + 1) * 96).ble lim && (n + 1).ble lim && true)
     (.need (AV.p (PV.sc (Value.int IntKind.i64 (IntKind.i64.wrap ((↑i : Int) + 1)))) = sI IntKind.i64 (↑(i + 1) : Int))
      (.at (bodyCfg Tryd.prog envM 3 4 [AV.p (PV.sc (Value.int IntKind.i64 M)), AV.p (PV.sc (Value.bool tr)), AV.os (Option.some 0) (n + 1) 6 (cs ++ [PV.sc (Value.int IntKind.i64 14), PV.sc (Value.int IntKind.i64 0), PV.sc (Value.int IntKind.i64 0), PV.ps 0 0 [], PV.ps 0 0 [], PV.ps 0 0 []]), AV.p (PV.sc (Value.int IntKind.i64 (↑(i + 1) : Int)))] ([Blk.tok]) 0 70)))))
   (.call ⟨6, [AV.agg [AV.os Option.none 1 3 [PV.sc (Value.int IntKind.i64 0), PV.sc (Value.int IntKind.i64 0), PV.ps n 6 cs], AV.os Option.none 0 0 [], AV.os Option.none 0 0 [], AV.p (PV.sc (Value.int IntKind.i64 4)), AV.p (PV.sc (Value.int IntKind.i64 0))]], [], AV.p (PV.sc (Value.int IntKind.i64 r)), []⟩
   (.call ⟨7, [AV.agg [AV.os Option.none 1 3 [PV.sc (Value.int IntKind.i64 0), PV.sc (Value.int IntKind.i64 0), PV.ps n 6 cs], AV.os Option.none 0 0 [], AV.os Option.none 0 0 [], AV.p (PV.sc (Value.int IntKind.i64 4)), AV.p (PV.sc (Value.int IntKind.i64 0))]], [], AV.p (PV.sc (Value.int IntKind.i64 r)), []⟩
   (.call ⟨8, [], [], AV.p (PV.sc (Value.bool true)), []⟩
   (.must (eqAV (AV.p (PV.sc (Value.bool (r == r)))) (AV.p (PV.sc (Value.bool true))) && true && true)
    (.must true
     (.out (Out.ret (AV.p (PV.sc (Value.bool true))) []))))))))
theorem l5_tree (M : Int) (tr : Bool) (i : Nat) (n : Nat) (cs : List PV) (r : Int) : grow Tryd.prog envM (l5Orc M tr i n cs r) 1000000 true (bodyCfg Tryd.prog envM 3 4 ([sI IntKind.i64 M, sB tr, AV.os (Option.some 0) n 6 cs, sI IntKind.i64 (↑i : Int)]) ([Blk.tok]) 0 70) l5Sc atEnd = l5Tree M tr i n cs r := by kernel_rfl

/- p1: 47 steps -/
noncomputable def p1Orc : Orc := orcL noC' noLed [] [(5, 0, 1)] []
def p1Sc : Sc := .fin
noncomputable def p1Tree (a : Int) : Tree :=
  (.test (decide (a.tmod 33000 < 0))
   (.out (Out.ret (AV.p (PV.sc (Value.int IntKind.i64 (IntKind.i64.wrap (a.tmod 33000 + 33000))))) []))
   (.out (Out.ret (AV.p (PV.sc (Value.int IntKind.i64 (a.tmod 33000)))) [])))
theorem p1_tree (a : Int) : growF Tryd.prog envM p1Orc 1000000 5 ([sI IntKind.i64 a, sI IntKind.i64 33000]) ([]) p1Sc = p1Tree a := by kernel_rfl

/- p2: 47 steps -/
noncomputable def p2Orc : Orc := orcL noC' noLed [] [(5, 0, 1)] []
def p2Sc : Sc := .fin
noncomputable def p2Tree (a : Int) : Tree :=
  (.test (decide (a.tmod 220 < 0))
   (.out (Out.ret (AV.p (PV.sc (Value.int IntKind.i64 (IntKind.i64.wrap (a.tmod 220 + 220))))) []))
   (.out (Out.ret (AV.p (PV.sc (Value.int IntKind.i64 (a.tmod 220)))) [])))
theorem p2_tree (a : Int) : growF Tryd.prog envM p2Orc 1000000 5 ([sI IntKind.i64 a, sI IntKind.i64 220]) ([]) p2Sc = p2Tree a := by kernel_rfl


def PK (a b : Int) : Int := if a.tmod b < 0 then a.tmod b + b else a.tmod b

theorem PK_in (a : Int) {b : Int} (hb : 0 < b) : 0 ≤ PK a b ∧ PK a b < b := by
  have h1 := Int.lt_tmod_of_pos a hb
  have h2 := Int.tmod_lt_of_pos a hb
  unfold PK
  split <;> omega

theorem pick1 (a : Int) : Does Tryd.prog envM 5 [sI .i64 a, sI .i64 33000] [] (sI .i64 (PK a 33000)) [] := by
  have h1 := Int.lt_tmod_of_pos a (b := 33000) (by decide)
  have h2 := Int.tmod_lt_of_pos a (b := 33000) (by decide)
  refine does_of_tree names (p1_tree a) ?_
  unfold PK
  refine ⟨fun h => ?_, fun h => ?_⟩
  · have h := of_decide_eq_true h
    rw [if_pos h]
    simp only [Tree.ok]
    rw [i64In (by omega) (by omega)]
  · rw [if_neg (of_decide_eq_false h)]; rfl

theorem pick2 (a : Int) : Does Tryd.prog envM 5 [sI .i64 a, sI .i64 220] [] (sI .i64 (PK a 220)) [] := by
  have h1 := Int.lt_tmod_of_pos a (b := 220) (by decide)
  have h2 := Int.tmod_lt_of_pos a (b := 220) (by decide)
  refine does_of_tree names (p2_tree a) ?_
  unfold PK
  refine ⟨fun h => ?_, fun h => ?_⟩
  · have h := of_decide_eq_true h
    rw [if_pos h]
    simp only [Tree.ok]
    rw [i64In (by omega) (by omega)]
  · rw [if_neg (of_decide_eq_false h)]; rfl

theorem encTs_append : ∀ l m : List Th, encTs (l ++ m) = encTs l ++ encTs m
  | [], _ => rfl
  | x :: r, m => by rw [List.cons_append, encTs, encTs, encTs_append r m, List.append_assoc]

theorem cost_nest : ∀ j k : Nat, cost (nestT j k) = j + k + 2
  | 0, k => by simp only [nestT, cost]; omega
  | j + 1, k => by simp only [nestT, cost, cost_nest j k]; omega

theorem costs_rep (tr : Bool) : ∀ m : Nat, costs (List.replicate m (itemT tr)) ≤ 2 * m
  | 0 => Nat.le_refl _
  | m + 1 => by
    have := costs_rep tr m
    rw [List.replicate_succ]
    have : cost (itemT tr) ≤ 2 := by cases tr <;> decide
    simp only [costs]; omega

abbrev theL (D X m : Nat) (tr : Bool) : List Th := nestT D X :: List.replicate m (itemT tr)

open Classical in
noncomputable def theR (D X m : Nat) (tr : Bool) : Int := if tooMany (theL D X m tr) then 141 else 0

theorem both {D X m : Nat} {tr : Bool} (hD : D ≤ 220) (hX : X ≤ 220) (hm : m ≤ 33000) :
    Does Tryd.prog envM 6 [pA (m + 1) (encTs (theL D X m tr))] [] (sI .i64 (theR D X m tr)) [] ∧ Does Tryd.prog envM 7 [pA (m + 1) (encTs (theL D X m tr))] [] (sI .i64 (theR D X m tr)) [] := by
  have hl : (theL D X m tr).length = m + 1 := by simp only [List.length_cons, List.length_replicate]
  have hcr := costs_rep tr m
  have hcn := cost_nest D X
  have hc : costs (theL D X m tr) ≤ 1000000 := by simp only [costs]; omega
  have hk : ∀ x ∈ theL D X m tr, cost x ≤ 1000000 := fun x hx => Nat.le_trans (costs_mem hx) hc
  have hA : ∀ k ∈ allL (theL D X m tr), k ≤ 1000000 := by
    intro k hk
    simp only [allL, all_nest, (rep_sum tr m).2.2] at hk
    rcases List.mem_append.1 hk with h | h
    · obtain rfl := List.mem_singleton.1 h; omega
    · cases tr with
      | true => obtain ⟨_, rfl⟩ := List.mem_replicate.1 h; omega
      | false => cases h
  have h6 := check_does hc (by rw [hl]; omega) hk
  have h7 := rcheck_does (Nat.le_trans hc (by decide)) (by rw [hl]; omega) hk hA
  have hs := same_count D X m tr (by omega) (by omega)
  rw [hl] at h6 h7
  refine ⟨?_, h7⟩
  have e : (if (listF 1 (theL D X m tr) ⟨32768, 32768, false⟩).mn then (141 : Int) else 0) = theR D X m tr := by
    unfold theR
    by_cases h : tooMany (theL D X m tr)
    · rw [if_pos h, if_pos (hs.2 h)]
    · rw [if_neg h, if_neg (fun q => h (hs.1 q))]
  rw [e] at h6
  exact h6

theorem must3 (r : Int) : (eqAV (AV.p (PV.sc (Value.bool (r == r)))) (AV.p (PV.sc (Value.bool true))) && true && true) = true := by rw [beq_self_eq_true]; rfl

theorem awake_does : Does Tryd.prog envM 8 [] [] (sB true) [] := Does.toM lsd2

theorem items_loop {D X M : Nat} {tr : Bool} (hD : D ≤ 220) (hX : X ≤ 220) (hM : M ≤ 33000) : ∀ (r i : Nat), i + r = M →
    Am.Good Tryd.prog envM (bodyCfg Tryd.prog envM 3 4 [sI .i64 M, sB tr, .os (some 0) (i + 1) 6 (encTs (theL D X i tr)), sI .i64 i] [.tok] 0 70) (.ret (sB true) []) := by
  intro r
  induction r with
  | zero =>
    intro i hr
    obtain rfl : i = M := by omega
    obtain ⟨h6, h7⟩ := both (tr := tr) hD hX hM
    refine good_of_tree names (l5_tree (i : Nat) tr i (i + 1) (encTs (theL D X i tr)) (theR D X i tr)) ?_
    simp only [l5Tree, Tree.ok]
    exact ⟨fun h => absurd (of_decide_eq_true h) (Int.lt_irrefl _), fun _ => ⟨h6, h7, awake_does, must3 _, trivial, trivial⟩⟩
  | succ r ih =>
    intro i hr
    have hiI : (i : Int) < (M : Int) := by omega
    have nx := ih (i + 1) (by omega)
    have w2 : IntKind.i64.wrap ((i : Int) + 1) = ((i + 1 : Nat) : Int) := by rw [i64In (by omega) (by omega)]; rfl
    have hlim : lim = 70368744177664 := rfl
    have e : encTs (theL D X (i + 1) tr) = encTs (theL D X i tr) ++ encT (itemT tr) := by
      show encTs (nestT D X :: List.replicate (i + 1) (itemT tr)) = _
      rw [List.replicate_succ', ← List.cons_append, encTs_append]
      simp only [encTs, List.append_nil]
    rw [e] at nx
    refine good_of_tree names (l5_tree (M : Nat) tr i (i + 1) (encTs (theL D X i tr)) 0) ?_
    simp only [l5Tree, Tree.ok, w2]
    refine ⟨fun _ => ⟨fun ht => ?_, fun ht => ?_⟩, fun h => absurd hiI (by simpa using h)⟩
    · subst ht; exact ⟨by simp [hlim]; omega, trivial, nx⟩
    · subst ht; exact ⟨by simp [hlim]; omega, trivial, nx⟩

theorem items_first {D X M : Nat} {tr : Bool} (hD : D ≤ 220) (hX : X ≤ 220) (hM : M ≤ 33000) :
    Am.Good Tryd.prog envM (bodyCfg Tryd.prog envM 3 4 [sI .i64 M, sB tr, .os none 1 6 (encT (nestT D X)), sI .i64 (0 : Nat)] [] 0 70) (.ret (sB true) []) := by
  have e0 : encTs (theL D X 0 tr) = encT (nestT D X) := List.append_nil _
  cases M with
  | zero =>
    obtain ⟨h6, h7⟩ := both (tr := tr) (m := 0) hD hX hM
    rw [e0] at h6 h7
    refine good_of_tree names (l4_tree ((0 : Nat) : Int) tr 0 (encT (nestT D X)) (theR D X 0 tr)) ?_
    simp only [l4Tree, Tree.ok]
    exact ⟨fun h => absurd (of_decide_eq_true h) (Int.lt_irrefl _), fun _ => ⟨h6, h7, awake_does, must3 _, trivial, trivial⟩⟩
  | succ M =>
    have nx := items_loop (tr := tr) hD hX hM M 1 (by omega)
    have e : encTs (theL D X 1 tr) = encT (nestT D X) ++ encT (itemT tr) := by
      show encT (nestT D X) ++ (encT (itemT tr) ++ []) = _
      rw [List.append_nil]
    rw [e] at nx
    have hiI : ((0 : Nat) : Int) < ((M + 1 : Nat) : Int) := by omega
    have w2 : IntKind.i64.wrap (((0 : Nat) : Int) + 1) = ((0 + 1 : Nat) : Int) := by decide
    refine good_of_tree names (l4_tree ((M + 1 : Nat) : Int) tr 0 (encT (nestT D X)) 0) ?_
    simp only [l4Tree, Tree.ok, w2]
    refine ⟨fun _ => ⟨fun ht => ?_, fun ht => ?_⟩, fun h => absurd hiI (of_decide_eq_false h)⟩
    · subst ht; exact ⟨trivial, nx⟩
    · subst ht; exact ⟨trivial, nx⟩

theorem nests_loop {D X M : Nat} {tr : Bool} (hD : D ≤ 220) (hX : X ≤ 220) (hM : M ≤ 33000) : ∀ (r i : Nat), i + r = D →
    Am.Good Tryd.prog envM (bodyCfg Tryd.prog envM 3 2 [sI .i64 M, sI .i64 D, sB tr, .os none 1 6 (encT (nestT i X)), sI .i64 i] [] 0 70) (.ret (sB true) []) := by
  intro r
  induction r with
  | zero =>
    intro i hr
    obtain rfl : i = D := by omega
    refine good_of_tree names (l2_tree (M : Nat) (i : Nat) tr i (encT (nestT i X))) ?_
    simp only [l2Tree, Tree.ok]
    exact ⟨fun h => absurd (of_decide_eq_true h) (Int.lt_irrefl _), fun _ => items_first hD hX hM⟩
  | succ r ih =>
    intro i hr
    have hiI : (i : Int) < (D : Int) := by omega
    have nx := ih (i + 1) (by omega)
    have w2 : IntKind.i64.wrap ((i : Int) + 1) = ((i + 1 : Nat) : Int) := by rw [i64In (by omega) (by omega)]; rfl
    refine good_of_tree names (l2_tree (M : Nat) (D : Nat) tr i (encT (nestT i X))) ?_
    simp only [l2Tree, Tree.ok, w2]
    exact ⟨fun _ => ⟨trivial, nx⟩, fun h => absurd hiI (by simpa using h)⟩

theorem exps_build {D X M : Nat} {tr : Bool} (hD : D ≤ 220) (hX : X ≤ 220) (hM : M ≤ 33000) : ∀ (r i : Nat) (kd nn : Int) (q z : Nat) (cs : List PV), i + r = X → encE i = [.sc (.int .i64 kd), .sc (.int .i64 nn), .ps q z cs] →
    Am.Good Tryd.prog envM (bodyCfg Tryd.prog envM 3 0 [sI .i64 M, sI .i64 D, sI .i64 X, sB tr, .mp 0 0, sI .i64 i] [.ac [sI .i64 kd, sI .i64 nn, .os none q z cs]] 0 70) (.ret (sB true) []) := by
  intro r
  induction r with
  | zero =>
    intro i kd nn q z cs hr he
    obtain rfl : i = X := by omega
    have nx := nests_loop (tr := tr) hD hX hM D 0 (by omega)
    simp only [nestT, encT, he] at nx
    refine good_of_tree names (l0_tree (M : Nat) (D : Nat) (i : Nat) tr i kd nn q z cs) ?_
    simp only [l0Tree, Tree.ok]
    exact ⟨fun h => absurd (of_decide_eq_true h) (Int.lt_irrefl _), fun _ => nx⟩
  | succ r ih =>
    intro i kd nn q z cs hr he
    have hiI : (i : Int) < (X : Int) := by omega
    have nx := ih (i + 1) 6 69 1 3 (encE i) (by omega) rfl
    rw [he] at nx
    have w2 : IntKind.i64.wrap ((i : Int) + 1) = ((i + 1 : Nat) : Int) := by rw [i64In (by omega) (by omega)]; rfl
    refine good_of_tree names (l0_tree (M : Nat) (D : Nat) (X : Nat) tr i kd nn q z cs) ?_
    simp only [l0Tree, Tree.ok, w2]
    exact ⟨fun _ => ⟨trivial, nx⟩, fun h => absurd hiI (by simpa using h)⟩

theorem many_does (m d x : Int) (tr : Bool) : Does Tryd.prog envM 3 [sI .i64 m, sI .i64 d, sI .i64 x, sB tr] [] (sB true) [] := by
  have i1 := PK_in m (b := 33000) (by decide)
  have i2 := PK_in d (b := 220) (by decide)
  have i3 := PK_in x (b := 220) (by decide)
  refine does_of_tree names (lw_tree m d x tr PK) ?_
  refine ⟨pick1 m, pick2 d, pick2 x, ?_⟩
  obtain ⟨M, hM⟩ := Int.eq_ofNat_of_zero_le i1.1
  obtain ⟨D, hD⟩ := Int.eq_ofNat_of_zero_le i2.1
  obtain ⟨X, hX⟩ := Int.eq_ofNat_of_zero_le i3.1
  rw [hM] at i1
  rw [hD] at i2
  rw [hX] at i3
  simp only [Tree.ok, hM, hD, hX]
  exact exps_build (tr := tr) (by omega) (by omega) (by omega) X 0 1 0 0 0 [] (by omega) rfl

end Go.Proofs.YtiphaojaolcidaaDoor.N
