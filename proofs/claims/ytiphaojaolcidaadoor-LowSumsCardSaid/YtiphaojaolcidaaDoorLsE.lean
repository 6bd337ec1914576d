/-
  LowSums: the loop, the calls from outside, the law.
-/
import Derived.Test.YtiphaojaolcidaaDoorLsD
import Derived.Test.YtiphaojaolcidaaDoorLsKnown
set_option linter.unusedVariables false
namespace Go.Proofs.YtiphaojaolcidaaDoor.N
open Go Go.Am

theorem ca_does : ∀ (n : Nat), n ≤ 300 → Does Tryd.prog env 25 (aA 1 n) (mA 0 10000 0 0) (sI .i64 0) (mA (3 * n + 1) (10000 - (3 * n + 1)) 0 (tri n))
  | 0, _ => by
    refine does_of_tree names (ca_tree 0 0 10000 0 0 0 0 0) ?_
    simp (disch := omega) only [caTree, Tree.ok, i64In, u32In, Int.add_sub_cancel]
    refine ⟨by decide, by decide, fun h => ?_, fun _ => rfl⟩
    simp at h
  | n + 1, hn => by
    have hb := tri_bound n
    refine does_of_tree names (ca_tree ((n + 1 : Nat) : Int) 0 10000 0 0 (0 + 1 + 1 + (3 * n + 1)) (10000 - 1 - 1 - (3 * n + 1)) (tri n)) ?_
    have IH := cb_does n (0 + 1 + 1) (10000 - 1 - 1) (0 + 1) 0 _ _ (by omega) (by omega) (by omega) (by omega) (by omega) (by omega) (by omega) rfl rfl
    have hn1 : (((n + 1 : Nat) : Int) - 1) = n := by omega
    have ht : ((n + 1 : Nat) : Int) + tri n = tri (n + 1) := by simp only [tri]; omega
    have e1 : (3 * ((n + 1 : Nat) : Int) + 1) = 0 + 1 + 1 + (3 * (n : Int) + 1) + 1 := by omega
    have e2 : (10000 - (0 + 1 + 1 + (3 * (n : Int) + 1) + 1)) = 10000 - 1 - 1 - (3 * (n : Int) + 1) - 1 := by omega
    rw [e1, e2]
    simp (disch := omega) only [caTree, Tree.ok, i64In, u32In, Int.add_sub_cancel, hn1, ht]
    have h4 : ¬ (10000 : Int) - 1 - 1 - (3 * (n : Int) + 1) = 0 := by omega
    refine ⟨by decide, by decide, fun _ => ⟨by decide, ?_, by simpa using h4, ?_⟩, fun h => ?_⟩
    · refine does_of_tree names (cc_tree n (0 + 1 + 1) (10000 - 1 - 1) (0 + 1) 0 _ _ (0 + 1 + 1 + (3 * n + 1)) (10000 - 1 - 1 - (3 * n + 1)) (tri n)) ?_
      exact ⟨IH, rfl⟩
    · trivial
    · simp at h; omega

theorem lp_loop : ∀ (n : Nat) (y S L D T S' L' y' : Int), n ≤ 300 → 0 ≤ y → y + tri n ≤ 1000000 → 0 ≤ S → S + (4 * n + 2) ≤ 20000 → 4 * n + 3 ≤ L → L ≤ 20000 → S' = S + (4 * n + 2) → L' = L - (4 * n + 2) → y' = y + tri n →
    Am.Good Tryd.prog env (bodyCfg Tryd.prog env 55 0 aL (mL S L D T n y) 4 40) (.ret (sI .i64 2) (mL S' L' D y' 0 y'))
  | 0, y, S, L, D, T, S', L', y', _, hy, hy', hS, hS', hL, hL', eS, eL, ey => by
    obtain rfl : S' = S + 1 + 1 := by omega
    obtain rfl : L' = L - 1 - 1 := by omega
    obtain rfl : y' = y := by simp only [tri] at ey; omega
    have h2 : ¬ L = 0 := by omega
    have h3 : ¬ L - 1 = 0 := by omega
    refine good_of_tree names (lb_tree 0 y' S L D T) ?_
    simp (disch := omega) only [lbTree, Tree.ok, i64In, u32In]
    refine ⟨by simpa using h2, fun h => ?_, fun _ => ⟨by simpa using h3, trivial⟩⟩
    simp at h
  | n + 1, y, S, L, D, T, S', L', y', hn, hy, hy', hS, hS', hL, hL', eS, eL, ey => by
    have hb := tri_bound n
    simp only [tri] at hy' ey
    have IH := lp_loop n (y + ((n + 1 : Nat) : Int)) (S + 1 + 1 + 1 + 1) (L - 1 - 1 - 1 - 1) D T S' L' y' (by omega) (by omega) (by omega) (by omega) (by omega) (by omega) (by omega) (by omega) (by omega) (by omega)
    have hn1 : (((n + 1 : Nat) : Int) - 1) = n := by omega
    have h2 : ¬ L = 0 := by omega
    have h3 : ¬ L - 1 = 0 := by omega
    have h4 : ¬ L - 1 - 1 = 0 := by omega
    have h5 : ¬ L - 1 - 1 - 1 = 0 := by omega
    refine good_of_tree names (lb_tree ((n + 1 : Nat) : Int) y S L D T) ?_
    simp (disch := omega) only [lbTree, Tree.ok, i64In, u32In, hn1]
    refine ⟨by simpa using h2, fun _ => ⟨by simpa using h3, by simpa using h4, by simpa using h5, IH⟩, fun h => ?_⟩
    simp at h; omega

theorem cl_does (n : Nat) (hn : n ≤ 300) : Does Tryd.prog env 25 (aA 2 n) (mA 0 10000 0 0) (sI .i64 0) (mA (4 * n + 3) (10000 - (4 * n + 3)) 0 (tri n)) := by
  have hb := tri_bound n
  have IH := lp_loop n 0 (0 + 1) (10000 - 1) (0 + 1) 0 (4 * n + 3) (10000 - (4 * n + 3)) (tri n) hn (by omega) (by omega) (by omega) (by omega) (by omega) (by omega) (by omega) (by omega) (by omega)
  refine does_of_tree names (cl_tree n 0 10000 0 0 (tri n) (4 * n + 3) (10000 - (4 * n + 3)) (tri n)) ?_
  simp (disch := omega) only [clTree, Tree.ok, i64In, Int.add_sub_cancel]
  refine ⟨by decide, by decide, ?_, trivial⟩
  exact does_of_tree names (lp_tree n 0 (0 + 1) (10000 - 1) (0 + 1) 0) IH

def kA (f n _S1 _L1 _T1 : Int) : List AV := [progV, sI .i64 f, .os none 1 1 [.sc (.int .u32 n)], sI .i64 10000, sI .u32 0, sI .u32 0]
def kC (_f _n S1 L1 T1 : Int) (g : FuncId) (_ : List AV) (_ : Mem) : Option (AV × Mem) := cond (Nat.beq g 6) (some (sI .i64 0, [])) (cond (Nat.beq g 25) (some (sI .i64 0, mA S1 L1 0 T1)) none)
def nilC (g : FuncId) (_ : List AV) (_ : Mem) : Option (AV × Mem) := cond (Nat.beq g 35) (some (.os none 0 0 [], [])) none
def c1C (n S1 L1 T1 : Int) := kC 1 n S1 L1 T1
def c2C (n S1 L1 T1 : Int) := kC 2 n S1 L1 T1

/- c1: 447 steps -/
noncomputable def c1Orc (n : Int) (S1 : Int) (L1 : Int) (T1 : Int) : Orc := orcL (c1C n S1 L1 T1) nilC [] [] []
def c1Sc : Sc := .fin
noncomputable def c1Tree (n : Int) (S1 : Int) (L1 : Int) (T1 : Int) : Tree :=
  (.call ⟨6, [AV.agg [AV.os Option.none 3 3 fns, AV.os Option.none 0 0 [], AV.os Option.none 0 0 [], AV.p (PV.sc (Value.int IntKind.i64 4)), AV.p (PV.sc (Value.int IntKind.i64 0))]], [], AV.p (PV.sc (Value.int IntKind.i64 0)), []⟩
   (.call ⟨35, [AV.os Option.none 0 0 []], [], AV.os Option.none 0 0 [], []⟩
    (.call ⟨25, [AV.mp 0 0, AV.p (PV.sc (Value.int IntKind.i64 1)), AV.os Option.none 1 1 [PV.sc (Value.int IntKind.u32 n)]], [Blk.ac [AV.os Option.none 3 3 fns, AV.os Option.none 0 0 [], AV.os Option.none 0 0 [], AV.p (PV.sc (Value.int IntKind.i64 4)), AV.p (PV.sc (Value.int IntKind.i64 0)), AV.mp 1 0, AV.os Option.none 0 0 [], AV.os Option.none 0 0 [], AV.p (PV.sc (Value.int IntKind.i64 0)), AV.p (PV.sc (Value.int IntKind.i64 0)), AV.p (PV.sc (Value.int IntKind.i64 0)), AV.p (PV.sc (Value.int IntKind.i64 0)), AV.os Option.none 0 0 [], AV.p (PV.sc (Value.int IntKind.i64 10000)), AV.p (PV.sc (Value.int IntKind.i64 0)), AV.p (PV.sc (Value.int IntKind.u32 0)), AV.p (PV.sc (Value.int IntKind.i64 0))], Blk.ac [AV.vm 2, AV.p (PV.sc (Value.int IntKind.u32 4)), AV.p (PV.sc (Value.int IntKind.u32 65536))], Blk.ob (ObK.map [] [] 0) []], AV.p (PV.sc (Value.int IntKind.i64 0)), [Blk.ac [AV.os Option.none 3 3 fns, AV.os Option.none 0 0 [], AV.os Option.none 0 0 [], AV.p (PV.sc (Value.int IntKind.i64 4)), AV.p (PV.sc (Value.int IntKind.i64 0)), AV.mp 1 0, AV.os Option.none 0 0 [], AV.os Option.none 0 0 [], AV.p (PV.sc (Value.int IntKind.i64 0)), AV.p (PV.sc (Value.int IntKind.i64 0)), AV.p (PV.sc (Value.int IntKind.i64 0)), AV.p (PV.sc (Value.int IntKind.i64 S1)), AV.os Option.none 0 0 [], AV.p (PV.sc (Value.int IntKind.i64 L1)), AV.p (PV.sc (Value.int IntKind.i64 0)), AV.p (PV.sc (Value.int IntKind.u32 T1)), AV.p (PV.sc (Value.int IntKind.i64 0))], Blk.ac [AV.vm 2, AV.p (PV.sc (Value.int IntKind.u32 4)), AV.p (PV.sc (Value.int IntKind.u32 65536))], Blk.ob (ObK.map [] [] 0) []]⟩
     (.out (Out.ret (AV.tup [AV.p (PV.sc (Value.int IntKind.u32 T1)), AV.ms 0 0 0 1 (Option.some 0), AV.agg [AV.p (PV.sc (Value.int IntKind.i64 0)), AV.p (PV.sc (Value.int IntKind.i64 0)), AV.p (PV.sc (Value.int IntKind.i64 0)), AV.p (PV.sc (Value.int IntKind.i64 S1)), AV.os Option.none 0 0 []]]) [Blk.pc []])))))
theorem c1_tree (n : Int) (S1 : Int) (L1 : Int) (T1 : Int) : growF Tryd.prog env (c1Orc n S1 L1 T1) 1000000 13 (kA 1 n S1 L1 T1) ([]) c1Sc = c1Tree n S1 L1 T1 := by kernel_rfl

/- c2: 447 steps -/
noncomputable def c2Orc (n : Int) (S1 : Int) (L1 : Int) (T1 : Int) : Orc := orcL (c2C n S1 L1 T1) nilC [] [] []
def c2Sc : Sc := .fin
noncomputable def c2Tree (n : Int) (S1 : Int) (L1 : Int) (T1 : Int) : Tree :=
  (.call ⟨6, [AV.agg [AV.os Option.none 3 3 fns, AV.os Option.none 0 0 [], AV.os Option.none 0 0 [], AV.p (PV.sc (Value.int IntKind.i64 4)), AV.p (PV.sc (Value.int IntKind.i64 0))]], [], AV.p (PV.sc (Value.int IntKind.i64 0)), []⟩
   (.call ⟨35, [AV.os Option.none 0 0 []], [], AV.os Option.none 0 0 [], []⟩
    (.call ⟨25, [AV.mp 0 0, AV.p (PV.sc (Value.int IntKind.i64 2)), AV.os Option.none 1 1 [PV.sc (Value.int IntKind.u32 n)]], [Blk.ac [AV.os Option.none 3 3 fns, AV.os Option.none 0 0 [], AV.os Option.none 0 0 [], AV.p (PV.sc (Value.int IntKind.i64 4)), AV.p (PV.sc (Value.int IntKind.i64 0)), AV.mp 1 0, AV.os Option.none 0 0 [], AV.os Option.none 0 0 [], AV.p (PV.sc (Value.int IntKind.i64 0)), AV.p (PV.sc (Value.int IntKind.i64 0)), AV.p (PV.sc (Value.int IntKind.i64 0)), AV.p (PV.sc (Value.int IntKind.i64 0)), AV.os Option.none 0 0 [], AV.p (PV.sc (Value.int IntKind.i64 10000)), AV.p (PV.sc (Value.int IntKind.i64 0)), AV.p (PV.sc (Value.int IntKind.u32 0)), AV.p (PV.sc (Value.int IntKind.i64 0))], Blk.ac [AV.vm 2, AV.p (PV.sc (Value.int IntKind.u32 4)), AV.p (PV.sc (Value.int IntKind.u32 65536))], Blk.ob (ObK.map [] [] 0) []], AV.p (PV.sc (Value.int IntKind.i64 0)), [Blk.ac [AV.os Option.none 3 3 fns, AV.os Option.none 0 0 [], AV.os Option.none 0 0 [], AV.p (PV.sc (Value.int IntKind.i64 4)), AV.p (PV.sc (Value.int IntKind.i64 0)), AV.mp 1 0, AV.os Option.none 0 0 [], AV.os Option.none 0 0 [], AV.p (PV.sc (Value.int IntKind.i64 0)), AV.p (PV.sc (Value.int IntKind.i64 0)), AV.p (PV.sc (Value.int IntKind.i64 0)), AV.p (PV.sc (Value.int IntKind.i64 S1)), AV.os Option.none 0 0 [], AV.p (PV.sc (Value.int IntKind.i64 L1)), AV.p (PV.sc (Value.int IntKind.i64 0)), AV.p (PV.sc (Value.int IntKind.u32 T1)), AV.p (PV.sc (Value.int IntKind.i64 0))], Blk.ac [AV.vm 2, AV.p (PV.sc (Value.int IntKind.u32 4)), AV.p (PV.sc (Value.int IntKind.u32 65536))], Blk.ob (ObK.map [] [] 0) []]⟩
     (.out (Out.ret (AV.tup [AV.p (PV.sc (Value.int IntKind.u32 T1)), AV.ms 0 0 0 1 (Option.some 0), AV.agg [AV.p (PV.sc (Value.int IntKind.i64 0)), AV.p (PV.sc (Value.int IntKind.i64 0)), AV.p (PV.sc (Value.int IntKind.i64 0)), AV.p (PV.sc (Value.int IntKind.i64 S1)), AV.os Option.none 0 0 []]]) [Blk.pc []])))))
theorem c2_tree (n : Int) (S1 : Int) (L1 : Int) (T1 : Int) : growF Tryd.prog env (c2Orc n S1 L1 T1) 1000000 13 (kA 2 n S1 L1 T1) ([]) c2Sc = c2Tree n S1 L1 T1 := by kernel_rfl

/- pi: 47 steps -/
noncomputable def piOrc : Orc := orcL noC noLed [] [(5, 0, 1)] []
def piSc : Sc := .fin
noncomputable def piTree (n : Int) : Tree :=
  (.test (decide (n.tmod 301 < 0))
   (.out (Out.ret (AV.p (PV.sc (Value.int IntKind.i64 (IntKind.i64.wrap (n.tmod 301 + 301))))) []))
   (.out (Out.ret (AV.p (PV.sc (Value.int IntKind.i64 (n.tmod 301)))) [])))
theorem pi_tree (n : Int) : growF Tryd.prog env piOrc 1000000 5 ([sI IntKind.i64 n, sI IntKind.i64 301]) ([]) piSc = piTree n := by kernel_rfl


noncomputable def ledX (f : FuncId) (args : List AV) (m : Mem) : Option (AV × Mem) := match execXF Tryd.prog env [] 100000 f args m with
  | some (.ret v m') => some (v, m')
  | _ => none
abbrev resV (t S : Int) : AV × Mem := (.tup [.p (.sc (.int .u32 t)), .ms 0 0 0 1 (some 0), .agg [.p (.sc (.int .i64 0)), .p (.sc (.int .i64 0)), .p (.sc (.int .i64 0)), .p (.sc (.int .i64 S)), .os none 0 0 []]], [.pc []])
def lawC (_n m t S1 S2 : Int) (g : FuncId) (args : List AV) (_ : Mem) : Option (AV × Mem) := cond (Nat.beq g 8) (some (sB true, [])) (cond (Nat.beq g 5) (some (sI .i64 m, [])) (cond (Nat.beq g 13) (match args with
  | _ :: .p (.sc (.int _ 1)) :: _ => some (resV t S1)
  | _ => some (resV t S2)) none))

/- law: 185 steps -/
noncomputable def lawOrc (n : Int) (m : Int) (t : Int) (S1 : Int) (S2 : Int) : Orc := orcL (lawC n m t S1 S2) ledX [] [(4, 11, 7), (4, 11, 12)] []
def lawSc : Sc := (.fork (.yes .fin) (.lit .fin))
noncomputable def lawTree (n : Int) (m : Int) (t : Int) (S1 : Int) (S2 : Int) : Tree :=
  (.call ⟨8, [], [], AV.p (PV.sc (Value.bool true)), []⟩
   (.call ⟨5, [AV.p (PV.sc (Value.int IntKind.i64 n)), AV.p (PV.sc (Value.int IntKind.i64 301))], [], AV.p (PV.sc (Value.int IntKind.i64 m)), []⟩
    (.call ⟨10, [AV.p (PV.sc (Value.int IntKind.i64 0))], [], AV.agg [AV.p (PV.sc (Value.int IntKind.i64 2)), AV.p (PV.sc (Value.int IntKind.i64 0)), AV.os Option.none 0 0 []], []⟩
    (.call ⟨12, [AV.p (PV.sc (Value.int IntKind.i64 10)), AV.p (PV.sc (Value.int IntKind.i64 1)), AV.p (PV.sc (Value.int IntKind.i64 1)), AV.os Option.none 1 3 [PV.sc (Value.int IntKind.i64 7), PV.sc (Value.int IntKind.i64 107), PV.ps 2 3 [PV.sc (Value.int IntKind.i64 2), PV.sc (Value.int IntKind.i64 0), PV.ps 0 0 [], PV.sc (Value.int IntKind.i64 1), PV.sc (Value.int IntKind.i64 1), PV.ps 0 0 []]]], [], AV.agg [AV.p (PV.sc (Value.int IntKind.i64 10)), AV.p (PV.sc (Value.int IntKind.i64 1)), AV.p (PV.sc (Value.int IntKind.i64 1)), AV.os Option.none 1 3 [PV.sc (Value.int IntKind.i64 7), PV.sc (Value.int IntKind.i64 107), PV.ps 2 3 [PV.sc (Value.int IntKind.i64 2), PV.sc (Value.int IntKind.i64 0), PV.ps 0 0 [], PV.sc (Value.int IntKind.i64 1), PV.sc (Value.int IntKind.i64 1), PV.ps 0 0 []]], AV.os Option.none 0 0 [], AV.os Option.none 0 0 []], []⟩
    (.call ⟨10, [AV.p (PV.sc (Value.int IntKind.i64 0))], [], AV.agg [AV.p (PV.sc (Value.int IntKind.i64 2)), AV.p (PV.sc (Value.int IntKind.i64 0)), AV.os Option.none 0 0 []], []⟩
    (.call ⟨10, [AV.p (PV.sc (Value.int IntKind.i64 1))], [], AV.agg [AV.p (PV.sc (Value.int IntKind.i64 2)), AV.p (PV.sc (Value.int IntKind.i64 1)), AV.os Option.none 0 0 []], []⟩
    (.call ⟨9, [AV.p (PV.sc (Value.int IntKind.i64 106)), AV.agg [AV.p (PV.sc (Value.int IntKind.i64 2)), AV.p (PV.sc (Value.int IntKind.i64 0)), AV.os Option.none 0 0 []], AV.agg [AV.p (PV.sc (Value.int IntKind.i64 2)), AV.p (PV.sc (Value.int IntKind.i64 1)), AV.os Option.none 0 0 []]], [], AV.agg [AV.p (PV.sc (Value.int IntKind.i64 7)), AV.p (PV.sc (Value.int IntKind.i64 106)), AV.os Option.none 2 3 [PV.sc (Value.int IntKind.i64 2), PV.sc (Value.int IntKind.i64 0), PV.ps 0 0 [], PV.sc (Value.int IntKind.i64 2), PV.sc (Value.int IntKind.i64 1), PV.ps 0 0 []]], []⟩
    (.call ⟨12, [AV.p (PV.sc (Value.int IntKind.i64 9)), AV.p (PV.sc (Value.int IntKind.i64 0)), AV.p (PV.sc (Value.int IntKind.i64 0)), AV.os Option.none 1 3 [PV.sc (Value.int IntKind.i64 7), PV.sc (Value.int IntKind.i64 106), PV.ps 2 3 [PV.sc (Value.int IntKind.i64 2), PV.sc (Value.int IntKind.i64 0), PV.ps 0 0 [], PV.sc (Value.int IntKind.i64 2), PV.sc (Value.int IntKind.i64 1), PV.ps 0 0 []]]], [], AV.agg [AV.p (PV.sc (Value.int IntKind.i64 9)), AV.p (PV.sc (Value.int IntKind.i64 0)), AV.p (PV.sc (Value.int IntKind.i64 0)), AV.os Option.none 1 3 [PV.sc (Value.int IntKind.i64 7), PV.sc (Value.int IntKind.i64 106), PV.ps 2 3 [PV.sc (Value.int IntKind.i64 2), PV.sc (Value.int IntKind.i64 0), PV.ps 0 0 [], PV.sc (Value.int IntKind.i64 2), PV.sc (Value.int IntKind.i64 1), PV.ps 0 0 []]], AV.os Option.none 0 0 [], AV.os Option.none 0 0 []], []⟩
     (.call ⟨10, [AV.p (PV.sc (Value.int IntKind.i64 0))], [], AV.agg [AV.p (PV.sc (Value.int IntKind.i64 2)), AV.p (PV.sc (Value.int IntKind.i64 0)), AV.os Option.none 0 0 []], []⟩
     (.call ⟨10, [AV.p (PV.sc (Value.int IntKind.i64 1))], [], AV.agg [AV.p (PV.sc (Value.int IntKind.i64 2)), AV.p (PV.sc (Value.int IntKind.i64 1)), AV.os Option.none 0 0 []], []⟩
     (.call ⟨12, [AV.p (PV.sc (Value.int IntKind.i64 9)), AV.p (PV.sc (Value.int IntKind.i64 0)), AV.p (PV.sc (Value.int IntKind.i64 0)), AV.os Option.none 1 3 [PV.sc (Value.int IntKind.i64 2), PV.sc (Value.int IntKind.i64 1), PV.ps 0 0 []]], [], AV.agg [AV.p (PV.sc (Value.int IntKind.i64 9)), AV.p (PV.sc (Value.int IntKind.i64 0)), AV.p (PV.sc (Value.int IntKind.i64 0)), AV.os Option.none 1 3 [PV.sc (Value.int IntKind.i64 2), PV.sc (Value.int IntKind.i64 1), PV.ps 0 0 []], AV.os Option.none 0 0 [], AV.os Option.none 0 0 []], []⟩
     (.call ⟨10, [AV.p (PV.sc (Value.int IntKind.i64 1))], [], AV.agg [AV.p (PV.sc (Value.int IntKind.i64 2)), AV.p (PV.sc (Value.int IntKind.i64 1)), AV.os Option.none 0 0 []], []⟩
     (.call ⟨10, [AV.p (PV.sc (Value.int IntKind.i64 0))], [], AV.agg [AV.p (PV.sc (Value.int IntKind.i64 2)), AV.p (PV.sc (Value.int IntKind.i64 0)), AV.os Option.none 0 0 []], []⟩
     (.call ⟨9, [AV.p (PV.sc (Value.int IntKind.i64 106)), AV.agg [AV.p (PV.sc (Value.int IntKind.i64 2)), AV.p (PV.sc (Value.int IntKind.i64 1)), AV.os Option.none 0 0 []], AV.agg [AV.p (PV.sc (Value.int IntKind.i64 2)), AV.p (PV.sc (Value.int IntKind.i64 0)), AV.os Option.none 0 0 []]], [], AV.agg [AV.p (PV.sc (Value.int IntKind.i64 7)), AV.p (PV.sc (Value.int IntKind.i64 106)), AV.os Option.none 2 3 [PV.sc (Value.int IntKind.i64 2), PV.sc (Value.int IntKind.i64 1), PV.ps 0 0 [], PV.sc (Value.int IntKind.i64 2), PV.sc (Value.int IntKind.i64 0), PV.ps 0 0 []]], []⟩
     (.call ⟨12, [AV.p (PV.sc (Value.int IntKind.i64 1)), AV.p (PV.sc (Value.int IntKind.i64 1)), AV.p (PV.sc (Value.int IntKind.i64 0)), AV.os Option.none 1 3 [PV.sc (Value.int IntKind.i64 7), PV.sc (Value.int IntKind.i64 106), PV.ps 2 3 [PV.sc (Value.int IntKind.i64 2), PV.sc (Value.int IntKind.i64 1), PV.ps 0 0 [], PV.sc (Value.int IntKind.i64 2), PV.sc (Value.int IntKind.i64 0), PV.ps 0 0 []]]], [], AV.agg [AV.p (PV.sc (Value.int IntKind.i64 1)), AV.p (PV.sc (Value.int IntKind.i64 1)), AV.p (PV.sc (Value.int IntKind.i64 0)), AV.os Option.none 1 3 [PV.sc (Value.int IntKind.i64 7), PV.sc (Value.int IntKind.i64 106), PV.ps 2 3 [PV.sc (Value.int IntKind.i64 2), PV.sc (Value.int IntKind.i64 1), PV.ps 0 0 [], PV.sc (Value.int IntKind.i64 2), PV.sc (Value.int IntKind.i64 0), PV.ps 0 0 []]], AV.os Option.none 0 0 [], AV.os Option.none 0 0 []], []⟩
     (.call ⟨12, [AV.p (PV.sc (Value.int IntKind.i64 1)), AV.p (PV.sc (Value.int IntKind.i64 0)), AV.p (PV.sc (Value.int IntKind.i64 0)), AV.os Option.none 1 3 [PV.sc (Value.int IntKind.i64 7), PV.sc (Value.int IntKind.i64 107), PV.ps 2 3 [PV.sc (Value.int IntKind.i64 2), PV.sc (Value.int IntKind.i64 0), PV.ps 0 0 [], PV.sc (Value.int IntKind.i64 1), PV.sc (Value.int IntKind.i64 1), PV.ps 0 0 []]]], [], AV.agg [AV.p (PV.sc (Value.int IntKind.i64 1)), AV.p (PV.sc (Value.int IntKind.i64 0)), AV.p (PV.sc (Value.int IntKind.i64 0)), AV.os Option.none 1 3 [PV.sc (Value.int IntKind.i64 7), PV.sc (Value.int IntKind.i64 107), PV.ps 2 3 [PV.sc (Value.int IntKind.i64 2), PV.sc (Value.int IntKind.i64 0), PV.ps 0 0 [], PV.sc (Value.int IntKind.i64 1), PV.sc (Value.int IntKind.i64 1), PV.ps 0 0 []]], AV.os Option.none 0 0 [], AV.os Option.none 0 0 []], []⟩
      (.call ⟨13, [AV.agg [AV.os Option.none 3 3 fns, AV.os Option.none 0 0 [], AV.os Option.none 0 0 [], AV.p (PV.sc (Value.int IntKind.i64 4)), AV.p (PV.sc (Value.int IntKind.i64 0))], AV.p (PV.sc (Value.int IntKind.i64 1)), AV.os Option.none 1 1 [PV.sc (Value.int IntKind.u32 (IntKind.u32.wrap m))], AV.p (PV.sc (Value.int IntKind.i64 10000)), AV.p (PV.sc (Value.int IntKind.u32 0)), AV.p (PV.sc (Value.int IntKind.u32 0))], [], AV.tup [AV.p (PV.sc (Value.int IntKind.u32 t)), AV.ms 0 0 0 1 (Option.some 0), AV.agg [AV.p (PV.sc (Value.int IntKind.i64 0)), AV.p (PV.sc (Value.int IntKind.i64 0)), AV.p (PV.sc (Value.int IntKind.i64 0)), AV.p (PV.sc (Value.int IntKind.i64 S1)), AV.os Option.none 0 0 []]], [Blk.pc []]⟩
       (.call ⟨13, [AV.agg [AV.os Option.none 3 3 fns, AV.os Option.none 0 0 [], AV.os Option.none 0 0 [], AV.p (PV.sc (Value.int IntKind.i64 4)), AV.p (PV.sc (Value.int IntKind.i64 0))], AV.p (PV.sc (Value.int IntKind.i64 2)), AV.os Option.none 1 1 [PV.sc (Value.int IntKind.u32 (IntKind.u32.wrap m))], AV.p (PV.sc (Value.int IntKind.i64 10000)), AV.p (PV.sc (Value.int IntKind.u32 0)), AV.p (PV.sc (Value.int IntKind.u32 0))], [], AV.tup [AV.p (PV.sc (Value.int IntKind.u32 t)), AV.ms 0 0 0 1 (Option.some 0), AV.agg [AV.p (PV.sc (Value.int IntKind.i64 0)), AV.p (PV.sc (Value.int IntKind.i64 0)), AV.p (PV.sc (Value.int IntKind.i64 0)), AV.p (PV.sc (Value.int IntKind.i64 S2)), AV.os Option.none 0 0 []]], [Blk.pc []]⟩
        (.test (t == IntKind.u32.wrap (IntKind.i64.wrap ((IntKind.i64.wrap (m * IntKind.i64.wrap (m + 1))).tdiv 2)))
         (.must (t == IntKind.u32.wrap (IntKind.i64.wrap ((IntKind.i64.wrap (m * IntKind.i64.wrap (m + 1))).tdiv 2)))
          (.out (Out.ret (AV.p (PV.sc (Value.bool true))) [])))
         (.out (Out.ret (AV.p (PV.sc (Value.bool false))) [])))))))))))))))))))))
theorem law_tree (n : Int) (m : Int) (t : Int) (S1 : Int) (S2 : Int) : growF Tryd.prog env (lawOrc n m t S1 S2) 1000000 4 ([sI IntKind.i64 n]) ([]) lawSc = lawTree n m t S1 S2 := by kernel_rfl


theorem nil_does : Does Tryd.prog env 35 [.os none 0 0 []] [] (.os none 0 0 []) [] := does_fast names (K := []) calls_nil (n := 1000) (by kernel_rfl)

theorem c1_does (n : Nat) (hn : n ≤ 300) : Does Tryd.prog env 13 [progV, sI .i64 1, .os none 1 1 [.sc (.int .u32 n)], sI .i64 10000, sI .u32 0, sI .u32 0] [] (resV (tri n) (3 * n + 1)).1 (resV (tri n) (3 * n + 1)).2 := by
  refine does_of_tree names (c1_tree n (3 * n + 1) (10000 - (3 * n + 1)) (tri n)) ?_
  exact ⟨chk_does, nil_does, ca_does n hn, rfl⟩

theorem c2_does (n : Nat) (hn : n ≤ 300) : Does Tryd.prog env 13 [progV, sI .i64 2, .os none 1 1 [.sc (.int .u32 n)], sI .i64 10000, sI .u32 0, sI .u32 0] [] (resV (tri n) (4 * n + 3)).1 (resV (tri n) (4 * n + 3)).2 := by
  refine does_of_tree names (c2_tree n (4 * n + 3) (10000 - (4 * n + 3)) (tri n)) ?_
  exact ⟨chk_does, nil_does, cl_does n hn, rfl⟩

theorem pick_does (x : Int) : ∃ n : Nat, n ≤ 300 ∧ Does Tryd.prog env 5 [sI .i64 x, sI .i64 301] [] (sI .i64 n) [] := by
  have h1 := Int.lt_tmod_of_pos x (b := 301) (by omega)
  have h2 := Int.tmod_lt_of_pos x (b := 301) (by omega)
  rcases Int.lt_or_le (x.tmod 301) 0 with h | h
  · refine ⟨(x.tmod 301 + 301).toNat, by omega, does_of_tree names (pi_tree x) ?_⟩
    have hw : IntKind.i64.wrap (x.tmod 301 + 301) = ((x.tmod 301 + 301).toNat : Int) := by rw [i64In (by omega) (by omega)]; omega
    simp only [piTree, Tree.ok, hw, implies_true, true_and]
    intro h'
    exact absurd h (by simpa using h')
  · refine ⟨(x.tmod 301).toNat, by omega, does_of_tree names (pi_tree x) ?_⟩
    have hw : x.tmod 301 = ((x.tmod 301).toNat : Int) := by omega
    refine ⟨fun h' => absurd (of_decide_eq_true h') (by omega), fun _ => ?_⟩
    simp only [Tree.ok]
    rw [← hw]

theorem sums_does (x : Int) : Does Tryd.prog env 4 [sI .i64 x] [] (sB true) [] := by
  obtain ⟨n, hn, hp⟩ := pick_does x
  have hb := tri_bound n
  have ht := tri_eq n
  have hq : ((n : Int) * ((n : Int) + 1)).tdiv 2 = tri n := by
    rw [← ht, tdivPos (by omega)]; omega
  have hm : (n : Int) * ((n : Int) + 1) ≤ 1000000 := by omega
  have hm0 : 0 ≤ (n : Int) * ((n : Int) + 1) := by omega
  refine does_of_tree names (law_tree x n (tri n) (3 * n + 1) (4 * n + 3)) ?_
  simp (disch := omega) only [lawTree, Tree.ok, i64In, u32In, hq]
  refine ⟨lsd2, hp, ?_⟩
  repeat' (first | exact c1_does n hn | exact c2_does n hn | exact (does_fast names (K := []) calls_nil (n := 1000) (by kernel_rfl)) | apply And.intro)
  all_goals simp

end Go.Proofs.YtiphaojaolcidaaDoor.N
