/-
  The document's check: all expressions of things; how many there are, how many in one another.
-/
import Derived.Test.YtiphaojaolcidaaDoorLmE
set_option linter.unusedVariables false
set_option linter.unusedSimpArgs false
namespace Go.Proofs.YtiphaojaolcidaaDoor.N
open Go Go.Am

def xsA (n : Nat) (C : List PV) : List AV := [.p (.ps n 3 C)]
def xnA : List AV := [.p (.ps 0 0 [])]
def xbS (_n : Nat) (_C : List PV) (i : Nat) (_a _b : Int) (q k : Nat) (cs : List PV) (_x _y : Int) : FuncId → Nat → Nat → Option (AV → AV) := shapeAt [(15, 6, 4, .p (.ps q k cs)), (15, 5, 1, sI .i64 (i + 1 : Nat))]
def xbC (_n : Nat) (_C : List PV) (_i : Nat) (_a _b : Int) (_q _k : Nat) (_cs : List PV) (x y : Int) (f : FuncId) (_ : List AV) (m : Mem) : Option (AV × Mem) := cond (Nat.beq f 15) (some (.tup [sI .i64 x, sI .i64 y], m)) none
def xbB (n : Nat) (C : List PV) (i : Nat) (a b : Int) (_q _k : Nat) (_cs : List PV) (_x _y : Int) : List AV := [.p (.ps n 3 C), sI .i64 a, sI .i64 b, sI .i64 i]
def xbN (_n : Nat) (_C : List PV) (_i : Nat) (_a _b : Int) (_q _k : Nat) (_cs : List PV) (_x _y : Int) : Mem := []
def alA (n : Nat) (C : List PV) : List AV := [.p (.ps n 6 C)]
def anA : List AV := [.p (.ps 0 0 [])]
def a0S (_n : Nat) (_C : List PV) (i : Nat) (qa ka : Nat) (ca : List PV) (ql kl : Nat) (cl : List PV) (_q : Nat) (_cr : List PV) : FuncId → Nat → Nat → Option (AV → AV) := shapeAt [(16, 6, 5, .p (.ps qa ka ca)), (16, 7, 5, .p (.ps ql kl cl)), (16, 9, 5, .p (.ps 0 0 [])), (16, 5, 1, sI .i64 (i + 1 : Nat))]
def a0C (_n : Nat) (_C : List PV) (_i : Nat) (_qa _ka : Nat) (_ca : List PV) (_ql _kl : Nat) (_cl : List PV) (q : Nat) (cr : List PV) (f : FuncId) (_ : List AV) (m : Mem) : Option (AV × Mem) := cond (Nat.beq f 16) (some (.p (.ps q 3 cr), m)) none
def a0B (n : Nat) (C : List PV) (i : Nat) (_qa _ka : Nat) (_ca : List PV) (_ql _kl : Nat) (_cl : List PV) (_q : Nat) (_cr : List PV) : List AV := [.p (.ps n 6 C), .os none 0 0 [], sI .i64 i]
def a0N (_n : Nat) (_C : List PV) (_i : Nat) (_qa _ka : Nat) (_ca : List PV) (_ql _kl : Nat) (_cl : List PV) (_q : Nat) (_cr : List PV) : Mem := []
def a1S (n : Nat) (C : List PV) (i : Nat) (qa ka : Nat) (ca : List PV) (ql kl : Nat) (cl : List PV) (q : Nat) (cr : List PV) (c : Nat) (cs : List PV) := a0S n C i qa ka ca ql kl cl q cr
def a1C (n : Nat) (C : List PV) (i : Nat) (qa ka : Nat) (ca : List PV) (ql kl : Nat) (cl : List PV) (q : Nat) (cr : List PV) (c : Nat) (cs : List PV) := a0C n C i qa ka ca ql kl cl q cr
def a1B (n : Nat) (C : List PV) (i : Nat) (_qa _ka : Nat) (_ca : List PV) (_ql _kl : Nat) (_cl : List PV) (_q : Nat) (_cr : List PV) (c : Nat) (cs : List PV) : List AV := [.p (.ps n 6 C), .os (some 0) c 3 cs, sI .i64 i]
def a1N (_n : Nat) (_C : List PV) (_i : Nat) (_qa _ka : Nat) (_ca : List PV) (_ql _kl : Nat) (_cl : List PV) (_q : Nat) (_cr : List PV) (_c : Nat) (_cs : List PV) : Mem := [.tok]

/- xs: 19 steps -/
noncomputable def xsOrc : Orc := orcL noC' noLed [(15, 0)] [] []
def xsSc : Sc := .fin
noncomputable def xsTree (n : Nat) (C : List PV) : Tree :=
  (.at (bodyCfg Tryd.prog envM 15 0 [AV.p (PV.ps n 3 C), AV.p (PV.sc (Value.int IntKind.i64 (↑n : Int))), AV.p (PV.sc (Value.int IntKind.i64 0)), AV.p (PV.sc (Value.int IntKind.i64 0))] ([]) 0 35))
theorem xs_tree (n : Nat) (C : List PV) : growF Tryd.prog envM xsOrc 1000000 15 ([AV.p (PV.ps n 3 C)]) ([]) xsSc = xsTree n C := by kernel_rfl

/- xn: 38 steps -/
noncomputable def xnOrc : Orc := orcL noC' noLed [] [] []
def xnSc : Sc := .fin
noncomputable def xnTree : Tree :=
  (.out (Out.ret (AV.tup [AV.p (PV.sc (Value.int IntKind.i64 0)), AV.p (PV.sc (Value.int IntKind.i64 0))]) []))
theorem xn_tree : growF Tryd.prog envM xnOrc 1000000 15 ([AV.p (PV.ps 0 0 [])]) ([]) xnSc = xnTree := by kernel_rfl

/- xb: 57 steps -/
noncomputable def xbOrc (n : Nat) (C : List PV) (i : Nat) (a : Int) (b : Int) (q : Nat) (k : Nat) (cs : List PV) (x : Int) (y : Int) : Orc := orcS (xbC n C i a b q k cs x y) noLed [(15, 0)] [(15, 0, 1)] [(15, 6, 2), (15, 6, 4)] (xbS n C i a b q k cs x y)
def xbSc : Sc := .fin
noncomputable def xbTree (n : Nat) (C : List PV) (i : Nat) (a : Int) (b : Int) (q : Nat) (k : Nat) (cs : List PV) (x : Int) (y : Int) : Tree :=
  (.test (decide ((↑i : Int) < (↑n : Int)))
   (.must (inB (↑i : Int) n && true && true)
    (.must (isPs (C.getD ((↑i : Int).toNat * 3 + 2) PV.bad) && true)
     (.need (AV.p (PV.ps (psLen (C.getD ((↑i : Int).toNat * 3 + 2) PV.bad)) (psSz (C.getD ((↑i : Int).toNat * 3 + 2) PV.bad)) (psCells (C.getD ((↑i : Int).toNat * 3 + 2) PV.bad))) = AV.p (PV.ps q k cs))
      (.call ⟨15, [AV.p (PV.ps q k cs)], [], AV.tup [AV.p (PV.sc (Value.int IntKind.i64 x)), AV.p (PV.sc (Value.int IntKind.i64 y))], []⟩
       (.need (AV.p (PV.sc (Value.int IntKind.i64 (IntKind.i64.wrap ((↑i : Int) + 1)))) = sI IntKind.i64 (↑(i + 1) : Int))
        (.at (bodyCfg Tryd.prog envM 15 0 [AV.p (PV.ps n 3 C), AV.p (PV.sc (Value.int IntKind.i64 (IntKind.i64.wrap (a + x)))), AV.p (PV.sc (Value.int IntKind.i64 (bif false then Min.min b (IntKind.i64.wrap (y + 1)) else Max.max b (IntKind.i64.wrap (y + 1))))), AV.p (PV.sc (Value.int IntKind.i64 (↑(i + 1) : Int)))] ([]) 0 35)))))))
   (.out (Out.ret (AV.tup [AV.p (PV.sc (Value.int IntKind.i64 a)), AV.p (PV.sc (Value.int IntKind.i64 b))]) [])))
theorem xb_tree (n : Nat) (C : List PV) (i : Nat) (a : Int) (b : Int) (q : Nat) (k : Nat) (cs : List PV) (x : Int) (y : Int) : grow Tryd.prog envM (xbOrc n C i a b q k cs x y) 1000000 true (bodyCfg Tryd.prog envM 15 0 ([AV.p (PV.ps n 3 C), sI IntKind.i64 a, sI IntKind.i64 b, sI IntKind.i64 (↑i : Int)]) ([]) 0 35) xbSc atEnd = xbTree n C i a b q k cs x y := by kernel_rfl

/- al: 15 steps -/
noncomputable def alOrc : Orc := orcL noC' noLed [(16, 0)] [] []
def alSc : Sc := .fin
noncomputable def alTree (n : Nat) (C : List PV) : Tree :=
  (.at (bodyCfg Tryd.prog envM 16 0 [AV.p (PV.ps n 6 C), AV.os Option.none 0 0 [], AV.p (PV.sc (Value.int IntKind.i64 0))] ([]) 0 49))
theorem al_tree (n : Nat) (C : List PV) : growF Tryd.prog envM alOrc 1000000 16 ([AV.p (PV.ps n 6 C)]) ([]) alSc = alTree n C := by kernel_rfl

/- an: 32 steps -/
noncomputable def anOrc : Orc := orcL noC' noLed [] [] []
def anSc : Sc := .fin
noncomputable def anTree : Tree :=
  (.out (Out.ret (AV.os Option.none 0 0 []) []))
theorem an_tree : growF Tryd.prog envM anOrc 1000000 16 ([AV.p (PV.ps 0 0 [])]) ([]) anSc = anTree := by kernel_rfl

/- a0: 70 steps -/
noncomputable def a0Orc (n : Nat) (C : List PV) (i : Nat) (qa : Nat) (ka : Nat) (ca : List PV) (ql : Nat) (kl : Nat) (cl : List PV) (q : Nat) (cr : List PV) : Orc := orcS (a0C n C i qa ka ca ql kl cl q cr) noLed [(16, 0)] [(16, 0, 1)] [(16, 6, 3), (16, 6, 5), (16, 6, 6), (16, 7, 3), (16, 7, 5), (16, 7, 7), (16, 9, 3), (16, 9, 5)] (a0S n C i qa ka ca ql kl cl q cr)
def a0Sc : Sc := .fin
noncomputable def a0Tree (n : Nat) (C : List PV) (i : Nat) (qa : Nat) (ka : Nat) (ca : List PV) (ql : Nat) (kl : Nat) (cl : List PV) (q : Nat) (cr : List PV) : Tree :=
  (.test (decide ((↑i : Int) < (↑n : Int)))
   (.must (inB (↑i : Int) n && true && true)
    (.must (isPs (C.getD ((↑i : Int).toNat * 6 + 3) PV.bad) && true)
     (.need (AV.p (PV.ps (psLen (C.getD ((↑i : Int).toNat * 6 + 3) PV.bad)) (psSz (C.getD ((↑i : Int).toNat * 6 + 3) PV.bad)) (psCells (C.getD ((↑i : Int).toNat * 6 + 3) PV.bad))) = AV.p (PV.ps qa ka ca))
      (.must ((ka.beq 3 || qa.beq 0 && Nat.ble 1 3) && true && true && true && ((0 + qa) * 40).ble lim && (0 + qa).ble lim && true)
       (.must (inB (↑i : Int) n && true && true)
        (.must (isPs (C.getD ((↑i : Int).toNat * 6 + 4) PV.bad) && true)
         (.need (AV.p (PV.ps (psLen (C.getD ((↑i : Int).toNat * 6 + 4) PV.bad)) (psSz (C.getD ((↑i : Int).toNat * 6 + 4) PV.bad)) (psCells (C.getD ((↑i : Int).toNat * 6 + 4) PV.bad))) = AV.p (PV.ps ql kl cl))
          (.call ⟨16, [AV.p (PV.ps ql kl cl)], [], AV.p (PV.ps q 3 cr), []⟩
           (.must (((0 + qa + q) * 40).ble lim && (0 + qa + q).ble lim && true)
            (.must (inB (↑i : Int) n && true && true)
             (.must (isPs (C.getD ((↑i : Int).toNat * 6 + 5) PV.bad) && true)
              (.need (AV.p (PV.ps (psLen (C.getD ((↑i : Int).toNat * 6 + 5) PV.bad)) (psSz (C.getD ((↑i : Int).toNat * 6 + 5) PV.bad)) (psCells (C.getD ((↑i : Int).toNat * 6 + 5) PV.bad))) = AV.p (PV.ps 0 0 []))
               (.need (AV.p (PV.sc (Value.int IntKind.i64 (IntKind.i64.wrap ((↑i : Int) + 1)))) = sI IntKind.i64 (↑(i + 1) : Int))
                (.at (bodyCfg Tryd.prog envM 16 0 [AV.p (PV.ps n 6 C), AV.os (Option.some 0) (0 + qa + q) 3 ([] ++ ca ++ cr), AV.p (PV.sc (Value.int IntKind.i64 (↑(i + 1) : Int)))] ([Blk.tok]) 0 49)))))))))))))))
   (.out (Out.ret (AV.os Option.none 0 0 []) [])))
theorem a0_tree (n : Nat) (C : List PV) (i : Nat) (qa : Nat) (ka : Nat) (ca : List PV) (ql : Nat) (kl : Nat) (cl : List PV) (q : Nat) (cr : List PV) : grow Tryd.prog envM (a0Orc n C i qa ka ca ql kl cl q cr) 1000000 true (bodyCfg Tryd.prog envM 16 0 ([AV.p (PV.ps n 6 C), AV.os Option.none 0 0 [], sI IntKind.i64 (↑i : Int)]) ([]) 0 49) a0Sc atEnd = a0Tree n C i qa ka ca ql kl cl q cr := by kernel_rfl

/- a1: 70 steps -/
noncomputable def a1Orc (n : Nat) (C : List PV) (i : Nat) (qa : Nat) (ka : Nat) (ca : List PV) (ql : Nat) (kl : Nat) (cl : List PV) (q : Nat) (cr : List PV) (c : Nat) (cs : List PV) : Orc := orcS (a1C n C i qa ka ca ql kl cl q cr c cs) noLed [(16, 0)] [(16, 0, 1)] [(16, 6, 3), (16, 6, 5), (16, 6, 6), (16, 7, 3), (16, 7, 5), (16, 7, 7), (16, 9, 3), (16, 9, 5)] (a1S n C i qa ka ca ql kl cl q cr c cs)
def a1Sc : Sc := .fin
noncomputable def a1Tree (n : Nat) (C : List PV) (i : Nat) (qa : Nat) (ka : Nat) (ca : List PV) (ql : Nat) (kl : Nat) (cl : List PV) (q : Nat) (cr : List PV) (c : Nat) (cs : List PV) : Tree :=
  (.test (decide ((↑i : Int) < (↑n : Int)))
   (.must (inB (↑i : Int) n && true && true)
    (.must (isPs (C.getD ((↑i : Int).toNat * 6 + 3) PV.bad) && true)
     (.need (AV.p (PV.ps (psLen (C.getD ((↑i : Int).toNat * 6 + 3) PV.bad)) (psSz (C.getD ((↑i : Int).toNat * 6 + 3) PV.bad)) (psCells (C.getD ((↑i : Int).toNat * 6 + 3) PV.bad))) = AV.p (PV.ps qa ka ca))
      (.must ((ka.beq 3 || qa.beq 0 && Nat.ble 1 3) && true && true && true && ((c + qa) * 40).ble lim && (c + qa).ble lim && true)
       (.must (inB (↑i : Int) n && true && true)
        (.must (isPs (C.getD ((↑i : Int).toNat * 6 + 4) PV.bad) && true)
         (.need (AV.p (PV.ps (psLen (C.getD ((↑i : Int).toNat * 6 + 4) PV.bad)) (psSz (C.getD ((↑i : Int).toNat * 6 + 4) PV.bad)) (psCells (C.getD ((↑i : Int).toNat * 6 + 4) PV.bad))) = AV.p (PV.ps ql kl cl))
          (.call ⟨16, [AV.p (PV.ps ql kl cl)], [], AV.p (PV.ps q 3 cr), []⟩
           (.must (((c + qa + q) * 40).ble lim && (c + qa + q).ble lim && true)
            (.must (inB (↑i : Int) n && true && true)
             (.must (isPs (C.getD ((↑i : Int).toNat * 6 + 5) PV.bad) && true)
              (.need (AV.p (PV.ps (psLen (C.getD ((↑i : Int).toNat * 6 + 5) PV.bad)) (psSz (C.getD ((↑i : Int).toNat * 6 + 5) PV.bad)) (psCells (C.getD ((↑i : Int).toNat * 6 + 5) PV.bad))) = AV.p (PV.ps 0 0 []))
               (.need (AV.p (PV.sc (Value.int IntKind.i64 (IntKind.i64.wrap ((↑i : Int) + 1)))) = sI IntKind.i64 (↑(i + 1) : Int))
                (.at (bodyCfg Tryd.prog envM 16 0 [AV.p (PV.ps n 6 C), AV.os (Option.some 0) (c + qa + q) 3 (cs ++ ca ++ cr), AV.p (PV.sc (Value.int IntKind.i64 (↑(i + 1) : Int)))] ([Blk.tok]) 0 49)))))))))))))))
   (.out (Out.ret (AV.os (Option.some 0) c 3 cs) [Blk.tok])))
theorem a1_tree (n : Nat) (C : List PV) (i : Nat) (qa : Nat) (ka : Nat) (ca : List PV) (ql : Nat) (kl : Nat) (cl : List PV) (q : Nat) (cr : List PV) (c : Nat) (cs : List PV) : grow Tryd.prog envM (a1Orc n C i qa ka ca ql kl cl q cr c cs) 1000000 true (bodyCfg Tryd.prog envM 16 0 ([AV.p (PV.ps n 6 C), AV.os (Option.some 0) c 3 cs, sI IntKind.i64 (↑i : Int)]) ([Blk.tok]) 0 49) a1Sc atEnd = a1Tree n C i qa ka ca ql kl cl q cr c cs := by kernel_rfl


def encEs : List Nat → List PV
  | [] => []
  | k :: r => encE k ++ encEs r

theorem encE_len (k : Nat) : (encE k).length = 3 := by cases k <;> rfl

theorem encEs_at : ∀ {l : List Nat} {i k : Nat}, l[i]? = some k → ∀ j, j < 3 → (encEs l).getD (i * 3 + j) .bad = (encE k).getD j .bad
  | y :: r, 0, x, h, j, hj => by
    obtain rfl : y = x := Option.some.inj h
    rw [encEs, List.getD_eq_getElem?_getD, List.getD_eq_getElem?_getD, Nat.zero_mul, Nat.zero_add, List.getElem?_append_left (by rw [encE_len]; exact hj)]
  | y :: r, i + 1, x, h, j, hj => by
    have := encEs_at (l := r) (i := i) h j hj
    rw [← this, encEs, List.getD_eq_getElem?_getD, List.getD_eq_getElem?_getD, List.getElem?_append_right (by rw [encE_len]; omega), encE_len]
    congr 2
    omega

theorem encEs_append : ∀ l m : List Nat, encEs (l ++ m) = encEs l ++ encEs m
  | [], _ => rfl
  | k :: r, m => by rw [List.cons_append, encEs, encEs, encEs_append r m, List.append_assoc]

/-- The list in an expression. -/
def inE : Nat → Nat × Nat × List PV
  | 0 => (0, 0, [])
  | k + 1 => (1, 3, encE k)

theorem encE_in (k : Nat) : (encE k).getD 2 .bad = .ps (inE k).1 (inE k).2.1 (inE k).2.2 := by cases k <;> rfl

def sumE : List Nat → Nat
  | [] => 0
  | k :: r => k + sumE r

def maxE : List Nat → Nat
  | [] => 0
  | k :: r => max (k + 1) (maxE r)

theorem nilX : Does Tryd.prog envM 15 [.p (.ps 0 0 [])] [] (.tup [sI .i64 0, sI .i64 0]) [] := does_of_tree names xn_tree rfl

theorem dropE {l : List Nat} {i k : Nat} (h : l[i]? = some k) : l.drop i = k :: l.drop (i + 1) := by
  obtain ⟨hi, e⟩ := List.getElem?_eq_some_iff.1 h
  rw [List.drop_eq_getElem_cons hi, e]

theorem exps_loop {l : List Nat} (hil : l.length ≤ 1000000) (hc : ∀ k ∈ l, k ≤ 1000000) (inner : ∀ k ∈ l, Does Tryd.prog envM 15 [.p (.ps (inE k).1 (inE k).2.1 (inE k).2.2)] [] (.tup [sI .i64 (k : Nat), sI .i64 (k : Nat)]) []) :
    ∀ (r i a b : Nat), i + r = l.length → a + r * 1000001 ≤ 10000000000000 → b ≤ 10000000 →
      Am.Good Tryd.prog envM (bodyCfg Tryd.prog envM 15 0 [.p (.ps l.length 3 (encEs l)), sI .i64 (a : Nat), sI .i64 (b : Nat), sI .i64 i] [] 0 35) (.ret (.tup [sI .i64 (a + sumE (l.drop i) : Nat), sI .i64 (max b (maxE (l.drop i)) : Nat)]) []) := by
  intro r
  induction r with
  | zero =>
    intro i a b hr _ _
    have hiI : ¬ (i : Int) < (l.length : Int) := by omega
    rw [List.drop_eq_nil_of_le (by omega)]
    refine good_of_tree names (xb_tree l.length (encEs l) i (a : Nat) (b : Nat) 0 0 [] 0 0) ?_
    simp only [xbTree, Tree.ok, sumE, maxE, Nat.add_zero, Nat.max_zero]
    exact ⟨fun h => absurd (by simpa using h) hiI, fun _ => trivial⟩
  | succ r ih =>
    intro i a b hr ha hb
    obtain ⟨k, hg⟩ : ∃ k, l[i]? = some k := ⟨l[i]'(by omega), List.getElem?_eq_getElem (by omega)⟩
    have hm := List.mem_of_getElem? hg
    have hck := hc k hm
    have hiI : (i : Int) < (l.length : Int) := by omega
    have c2 := encEs_at hg 2 (by omega)
    rw [encE_in k] at c2
    have w2 : IntKind.i64.wrap ((i : Int) + 1) = ((i + 1 : Nat) : Int) := by rw [i64In (by omega) (by omega)]; rfl
    have w3 : IntKind.i64.wrap ((a : Int) + ((k : Nat) : Int)) = ((a + k : Nat) : Int) := by rw [i64In (by omega) (by omega)]; omega
    have w4 : Max.max (b : Int) (IntKind.i64.wrap (((k : Nat) : Int) + 1)) = ((max b (k + 1) : Nat) : Int) := by rw [i64In (by omega) (by omega)]; omega
    have nx := ih (i + 1) (a + k) (max b (k + 1)) (by omega) (by clear w3 w4; omega) (Nat.max_le.2 ⟨hb, by omega⟩)
    rw [dropE hg]
    refine good_of_tree names (xb_tree l.length (encEs l) i (a : Nat) (b : Nat) (inE k).1 (inE k).2.1 (inE k).2.2 (k : Nat) (k : Nat)) ?_
    simp only [xbTree, Tree.ok, Int.toNat_natCast, c2, isPs, psLen, psSz, psCells, inB, w2, w3, w4, cond_false, sumE, maxE]
    rw [show a + (k + sumE (l.drop (i + 1))) = a + k + sumE (l.drop (i + 1)) by omega, ← Nat.max_assoc]
    exact ⟨fun _ => ⟨by simp [hiI], by decide, trivial, inner k hm, trivial, nx⟩, fun h => absurd hiI (by simpa using h)⟩

theorem exps_does : ∀ (K : Nat) (l : List Nat), (∀ k ∈ l, k ≤ K) → K ≤ 1000000 → l.length ≤ 1000000 → Does Tryd.prog envM 15 [.p (.ps l.length 3 (encEs l))] [] (.tup [sI .i64 (l.length + sumE l : Nat), sI .i64 (maxE l : Nat)]) []
  | K, l, hK, hK', hil => by
    refine does_of_tree names (xs_tree l.length (encEs l)) ?_
    have h := exps_loop hil (fun k hk => Nat.le_trans (hK k hk) hK') (fun k hk => ?_) l.length 0 l.length 0 (by omega) (by omega) (by omega)
    · rw [Nat.zero_max] at h
      exact h
    · have := hK k hk
      cases k with
      | zero => exact nilX
      | succ k =>
        match K, hK' with
        | 0, _ => omega
        | K + 1, hK' =>
          have q := exps_does K [k] (fun z hz => by
            obtain rfl := List.mem_singleton.1 hz
            omega) (by omega) (by simp)
          have e1 : ([k] : List Nat).length + sumE [k] = k + 1 := by simp only [List.length_singleton, sumE]; omega
          have e2 : maxE [k] = k + 1 := by simp only [maxE, Nat.max_zero]
          rw [e1, e2] at q
          simp only [encEs, List.append_nil, List.length_singleton] at q
          exact q

/-! All expressions. -/

def allT : Th → List Nat
  | .out k => [k]
  | .fin => []
  | .loop y => allT y

def allL : List Th → List Nat
  | [] => []
  | x :: r => allT x ++ allL r

/-- A thing's own expressions; those in it. -/
def ownA : Th → Nat × Nat × List PV
  | .out k => (1, 3, encE k)
  | _ => (0, 0, [])

def subA : Th → List Nat
  | .loop y => allT y
  | _ => []

theorem encT_own (x : Th) : (encT x).getD 3 .bad = .ps (ownA x).1 (ownA x).2.1 (ownA x).2.2 := by cases x <;> rfl

theorem own_ok (x : Th) : ((ownA x).2.1.beq 3 || (ownA x).1.beq 0 && Nat.ble 1 3) = true ∧ (ownA x).1 + (subA x).length = (allT x).length ∧ (ownA x).2.2 ++ encEs (subA x) = encEs (allT x) ∧ (ownA x).1 ≤ 1 := by
  cases x with
  | out k => exact ⟨rfl, rfl, by simp [ownA, subA, allT, encEs], Nat.le_refl 1⟩
  | fin => exact ⟨rfl, rfl, rfl, by decide⟩
  | loop y => exact ⟨rfl, by simp [ownA, subA, allT], rfl, Nat.zero_le 1⟩

theorem allT_cost : ∀ x : Th, (allT x).length ≤ cost x
  | .out k => by simp [allT, cost]
  | .fin => by simp [allT, cost]
  | .loop y => by have := allT_cost y; simp only [allT, cost]; omega

theorem allL_cost : ∀ l : List Th, (allL l).length ≤ costs l
  | [] => Nat.le_refl _
  | x :: r => by have := allT_cost x; have := allL_cost r; simp only [allL, costs, List.length_append]; omega

abbrev AllOk (x : Th) : Prop := Does Tryd.prog envM 16 [.p (.ps (inL x).1 (inL x).2.1 (inL x).2.2)] [] (.p (.ps (subA x).length 3 (encEs (subA x)))) []

theorem nilA : Does Tryd.prog envM 16 [.p (.ps 0 0 [])] [] (.p (.ps 0 3 [])) [] := Does.nil (tok := none) (sz := 0) (m' := []) (does_of_tree names an_tree rfl) (by omega)

theorem all_loop {l : List Th} (hil : l.length ≤ 1000000) (inner : ∀ x ∈ l, AllOk x) : ∀ (r i : Nat) (acc : List Nat), i + r = l.length → acc.length + costs (l.drop i) ≤ 1000000000 →
    Am.Good Tryd.prog envM (bodyCfg Tryd.prog envM 16 0 [.p (.ps l.length 6 (encTs l)), .os (some 0) acc.length 3 (encEs acc), sI .i64 i] [.tok] 0 49) (.ret (.os (some 0) (acc ++ allL (l.drop i)).length 3 (encEs (acc ++ allL (l.drop i)))) [.tok]) := by
  intro r
  induction r with
  | zero =>
    intro i acc hr _
    have hiI : ¬ (i : Int) < (l.length : Int) := by omega
    rw [List.drop_eq_nil_of_le (by omega)]
    refine good_of_tree names (a1_tree l.length (encTs l) i 0 0 [] 0 0 [] 0 [] acc.length (encEs acc)) ?_
    simp only [a1Tree, Tree.ok, allL, List.append_nil]
    exact ⟨fun h => absurd (by simpa using h) hiI, fun _ => trivial⟩
  | succ r ih =>
    intro i acc hr hac
    obtain ⟨x, hg⟩ : ∃ x, l[i]? = some x := ⟨l[i]'(by omega), List.getElem?_eq_getElem (by omega)⟩
    have hm := List.mem_of_getElem? hg
    have hiI : (i : Int) < (l.length : Int) := by omega
    obtain ⟨q1, q2⟩ := costs_drop hg
    obtain ⟨o1, o2, o3, o4⟩ := own_ok x
    have hax := allT_cost x
    have c3 := encTs_at hg 3 (by omega)
    have c4 := encTs_at hg 4 (by omega)
    have c5 := encTs_at hg 5 (by omega)
    rw [encT_own x] at c3
    rw [(encT_in x).1] at c4
    rw [(encT_in x).2] at c5
    have hlim : lim = 70368744177664 := rfl
    have w2 : IntKind.i64.wrap ((i : Int) + 1) = ((i + 1 : Nat) : Int) := by rw [i64In (by omega) (by omega)]; rfl
    have nx := ih (i + 1) (acc ++ allT x) (by omega) (by rw [List.length_append]; omega)
    rw [List.append_assoc, List.length_append, encEs_append acc, ← o2, ← o3, ← Nat.add_assoc, ← List.append_assoc] at nx
    rw [q2]
    refine good_of_tree names (a1_tree l.length (encTs l) i (ownA x).1 (ownA x).2.1 (ownA x).2.2 (inL x).1 (inL x).2.1 (inL x).2.2 (subA x).length (encEs (subA x)) acc.length (encEs acc)) ?_
    simp only [a1Tree, Tree.ok, Int.toNat_natCast, c3, c4, c5, isPs, psLen, psSz, psCells, inB, w2, o1, allL]
    exact ⟨fun _ => ⟨by simp [hiI], by decide, trivial, by simp [hlim]; omega, by simp [hiI], by decide, trivial, inner x hm, by simp [hlim]; omega, by simp [hiI], by decide, trivial, trivial, nx⟩, fun h => absurd hiI (by simpa using h)⟩

theorem all_first {x : Th} {l : List Th} (hil : (x :: l).length ≤ 1000000) (inner : ∀ y ∈ x :: l, AllOk y) (hac : costs (x :: l) ≤ 1000000000) :
    Am.Good Tryd.prog envM (bodyCfg Tryd.prog envM 16 0 [.p (.ps (x :: l).length 6 (encTs (x :: l))), .os none 0 0 [], sI .i64 (0 : Nat)] [] 0 49) (.ret (.os (some 0) (allL (x :: l)).length 3 (encEs (allL (x :: l)))) [.tok]) := by
  obtain ⟨o1, o2, o3, o4⟩ := own_ok x
  have hax := allT_cost x
  have hg : (x :: l)[0]? = some x := rfl
  have c3 := encTs_at hg 3 (by omega)
  have c4 := encTs_at hg 4 (by omega)
  have c5 := encTs_at hg 5 (by omega)
  rw [encT_own x] at c3
  rw [(encT_in x).1] at c4
  rw [(encT_in x).2] at c5
  have hiI : ((0 : Nat) : Int) < ((x :: l).length : Int) := by simp only [List.length_cons]; omega
  have hlim : lim = 70368744177664 := rfl
  have w2 : IntKind.i64.wrap (((0 : Nat) : Int) + 1) = ((0 + 1 : Nat) : Int) := by decide
  simp only [costs] at hac
  have nx := all_loop hil inner l.length 1 (allT x) (by simp only [List.length_cons]; omega) (by show (allT x).length + costs l ≤ _; omega)
  have e : (x :: l).drop 1 = l := rfl
  rw [e, ← o2, ← o3] at nx
  refine good_of_tree names (a0_tree (x :: l).length (encTs (x :: l)) 0 (ownA x).1 (ownA x).2.1 (ownA x).2.2 (inL x).1 (inL x).2.1 (inL x).2.2 (subA x).length (encEs (subA x))) ?_
  simp only [a0Tree, Tree.ok, Int.toNat_natCast, c3, c4, c5, isPs, psLen, psSz, psCells, inB, w2, o1, Nat.zero_add, List.nil_append, allL]
  exact ⟨fun _ => ⟨by simp, by decide, trivial, by simp [hlim]; omega, by simp, by decide, trivial, inner x (.head _), by simp [hlim]; omega, by simp, by decide, trivial, trivial, nx⟩, fun h => by simp at h⟩

theorem all_does : ∀ (N : Nat) (l : List Th), costs l ≤ N → costs l ≤ 1000000000 → l.length ≤ 1000000 → Does Tryd.prog envM 16 [.p (.ps l.length 6 (encTs l))] [] (.p (.ps (allL l).length 3 (encEs (allL l)))) []
  | N, [], _, _, _ => by
    refine Does.nil (tok := none) (sz := 0) (m' := []) ?_ (by omega)
    refine does_of_tree names (al_tree 0 []) ?_
    refine good_of_tree names (a0_tree 0 [] 0 0 0 [] 0 0 [] 0 []) ?_
    simp [a0Tree, Tree.ok]
  | N, x :: l, hN, hac, hil => by
    refine Does.pure (tok := some 0) (m' := [.tok]) ?_
    refine does_of_tree names (al_tree (x :: l).length (encTs (x :: l))) ?_
    refine all_first hil (fun y hy => ?_) hac
    have hcy := costs_mem hy
    cases y with
    | out k => exact nilA
    | fin => exact nilA
    | loop y =>
      simp only [cost] at hcy
      match N, hN with
      | 0, hN => omega
      | N + 1, hN =>
        have := all_does N [y] (by simp only [costs] at *; omega) (by simp only [costs] at *; omega) (by simp)
        simp only [encTs, List.append_nil, allL, List.length_singleton] at this
        exact this

end Go.Proofs.YtiphaojaolcidaaDoor.N
