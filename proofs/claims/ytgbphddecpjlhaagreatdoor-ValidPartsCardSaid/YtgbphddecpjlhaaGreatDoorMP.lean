/-
  The looker's composed calls, one behind the other: by their trees.
  How many words operations take and tell, on both sides.
-/
import Derived.Test.YtgbphddecpjlhaaGreatDoorMO
import Derived.Test.YtgbphddecpjlhaaGreatDoorMK
import Derived.Test.YtgbphddecpjlhaaGreatDoorML

section
set_option linter.unusedSimpArgs false
namespace Go.Proofs.YtgbphddecpjlhaaGreatDoor.N
open Go Go.Am

section
variable {X : Lx} {R R1 R2 R3 R4 R5 R6 R7 : Rw}

theorem cal_of {P Q q : Int} (h1 : Run X 110 [sI .i64 P, sI .i64 q] R R1) (h2 : Run X 111 [sI .i64 Q, sI .i64 q] R1 R2) : Run X 114 [.agg [sI .i64 P, sI .i64 Q], sI .i64 q] R R2 := by
  refine does_of_tree names (cal_tree X R R1 R2 R R R R R P Q q) ?_
  simp only [calTree, Tree.ok, keep_map]
  exact ⟨h1, h2, trivial⟩

theorem shp_of {op q tk tl : Int} {is : Bool} (h0 : Does Tryz.prog env 157 [sI .i64 op] [] (.tup [sI .i64 tk, sI .i64 tl, sB is]) []) (h1 : Run X 110 [sI .i64 tk, sI .i64 q] R R1) (h2 : Run X 111 [sI .i64 tl, sI .i64 q] R1 R2) :
    Run X 141 [sI .i64 op, sI .i64 q] R R2 := by
  refine does_of_tree names (shp_tree X R R1 R2 R R R R R op q tk tl is) ?_
  simp only [shpTree, Tree.ok, keep_map]
  exact ⟨h0, h1, h2, trivial⟩

variable {op r a b nn q : Int} {tg : List Int} {ll le : List Ins}

theorem ins_dead (h : Run X 107 [sI .i64 q] R R1) : Run X 83 [aggI 0 r a b nn tg ll le, sI .i64 q] R R1 := by
  refine does_of_tree names (ins_tree X R R1 R R R R R R 0 r a b nn tg ll le q 0 0 0 true) ?_
  simp only [insTree, Tree.ok, keep_map, Int.reduceBEq, Bool.not_false, Bool.false_eq_true, Bool.true_eq_false, false_implies, true_implies, true_and, and_true]
  exact h

theorem ins_opens (ho : op = 2 ∨ op = 3 ∨ op = 4) (h : Run X 108 [aggI op r a b nn tg ll le, sI .i64 q] R R1) : Run X 83 [aggI op r a b nn tg ll le, sI .i64 q] R R1 := by
  refine does_of_tree names (ins_tree X R R1 R R R R R R op r a b nn tg ll le q 0 0 0 true) ?_
  rcases ho with rfl | rfl | rfl <;>
  · simp only [insTree, Tree.ok, keep_map, Int.reduceBEq, Bool.not_false, Bool.false_eq_true, Bool.true_eq_false, false_implies, true_implies, true_and, and_true]
    exact h

theorem ins_br {v : Int} (h1 : Ask X 109 [sI .u32 a, sI .i64 q] (sI .i64 v) R R1) (h2 : Run X 110 [sI .i64 v, sI .i64 q] R1 R2) (h3 : Run X 107 [sI .i64 q] R2 R3) : Run X 83 [aggI 12 r a b nn tg ll le, sI .i64 q] R R3 := by
  refine does_of_tree names (ins_tree X R R1 R2 R3 R R R R 12 r a b nn tg ll le q v 0 0 true) ?_
  simp only [insTree, Tree.ok, keep_map, Int.reduceBEq, Bool.not_false, Bool.false_eq_true, Bool.true_eq_false, false_implies, true_implies, true_and, and_true]
  exact ⟨h1, h2, h3⟩

theorem ins_brif {v : Int} (h1 : Ask X 109 [sI .u32 a, sI .i64 q] (sI .i64 v) R R1) (h2 : Run X 110 [sI .i64 1, sI .i64 q] R1 R2) (h3 : Run X 110 [sI .i64 v, sI .i64 q] R2 R3) (h4 : Run X 111 [sI .i64 v, sI .i64 q] R3 R4) : Run X 83 [aggI 13 r a b nn tg ll le, sI .i64 q] R R4 := by
  refine does_of_tree names (ins_tree X R R1 R2 R3 R4 R R R 13 r a b nn tg ll le q v 0 0 true) ?_
  simp only [insTree, Tree.ok, keep_map, Int.reduceBEq, Bool.not_false, Bool.false_eq_true, Bool.true_eq_false, false_implies, true_implies, true_and, and_true]
  exact ⟨h1, h2, h3, h4⟩

theorem ins_table (h : Run X 112 [aggI 14 r a b nn tg ll le, sI .i64 q] R R1) : Run X 83 [aggI 14 r a b nn tg ll le, sI .i64 q] R R1 := by
  refine does_of_tree names (ins_tree X R R1 R R R R R R 14 r a b nn tg ll le q 0 0 0 true) ?_
  simp only [insTree, Tree.ok, keep_map, Int.reduceBEq, Bool.not_false, Bool.false_eq_true, Bool.true_eq_false, false_implies, true_implies, true_and, and_true]
  exact h

theorem ins_ret (h1 : Run X 110 [sI .i64 X.tR, sI .i64 q] R R1) (h2 : Run X 107 [sI .i64 q] R1 R2) : Run X 83 [aggI 15 r a b nn tg ll le, sI .i64 q] R R2 := by
  refine does_of_tree names (ins_tree X R R1 R2 R R R R R 15 r a b nn tg ll le q 0 0 0 true) ?_
  simp only [insTree, Tree.ok, keep_map, Int.reduceBEq, Bool.not_false, Bool.false_eq_true, Bool.true_eq_false, false_implies, true_implies, true_and, and_true]
  exact ⟨h1, h2⟩

theorem ins_call {P Q : Int} {is : Bool} (h0 : Does Tryz.prog env 31 [.agg X.M.cells, sI .u32 a] [] (.tup [.agg [sI .i64 P, sI .i64 Q], sB is]) []) (h1 : Ask X 113 [sB is, sI .i64 6, sI .i64 q] (.tup []) R R1) (h2 : Run X 114 [.agg [sI .i64 P, sI .i64 Q], sI .i64 q] R1 R2) :
    Run X 83 [aggI 16 r a b nn tg ll le, sI .i64 q] R R2 := by
  refine does_of_tree names (ins_tree X R R R1 R2 R R R R 16 r a b nn tg ll le q 0 P Q is) ?_
  simp only [insTree, Tree.ok, keep_map, Int.reduceBEq, Bool.not_false, Bool.false_eq_true, Bool.true_eq_false, false_implies, true_implies, true_and, and_true]
  exact ⟨h0, h1, h2⟩

theorem ins_plain (ho : op ≠ 0 ∧ op ≠ 2 ∧ op ≠ 3 ∧ op ≠ 4 ∧ op ≠ 12 ∧ op ≠ 13 ∧ op ≠ 14 ∧ op ≠ 15 ∧ op ≠ 16 ∧ op ≠ 17) (h : Run X 115 [aggI op r a b nn tg ll le, sI .i64 q] R R1) : Run X 83 [aggI op r a b nn tg ll le, sI .i64 q] R R1 := by
  refine does_of_tree names (ins_tree X R R1 R R R R R R op r a b nn tg ll le q 0 0 0 true) ?_
  obtain ⟨k0, k1, k2, k3, k4, k5, k6, k7, k8, k9⟩ := ho
  have e0 : (op == 0) = false := by simpa using k0
  have e1 : (op == 2) = false := by simpa using k1
  have e2 : (op == 3) = false := by simpa using k2
  have e3 : (op == 4) = false := by simpa using k3
  have e4 : (op == 12) = false := by simpa using k4
  have e5 : (op == 13) = false := by simpa using k5
  have e6 : (op == 14) = false := by simpa using k6
  have e7 : (op == 15) = false := by simpa using k7
  have e8 : (op == 16) = false := by simpa using k8
  have e9 : (op == 17) = false := by simpa using k9
  simp only [insTree, Tree.ok, keep_map, e0, e1, e2, e3, e4, e5, e6, e7, e8, e9, Bool.not_false, Bool.false_eq_true, Bool.true_eq_false, false_implies, true_implies, true_and, and_true]
  exact h

/-- By the table: there is one. -/
theorem ins_indT {P Q : Int} (ht : 0 < X.M.taN) (hn : X.M.tyN ≤ 1000000000) (ha : 0 ≤ a ∧ a < 4294967296) (hc : a < X.M.tyN → X.M.tyC.getD (a.toNat * 2) .bad = .sc (.int .i64 P) ∧ X.M.tyC.getD (a.toNat * 2 + 1) .bad = .sc (.int .i64 Q))
    (h1 : Ask X 113 [sB (decide (a < X.M.tyN)), sI .i64 6, sI .i64 q] (.tup []) R R1) (h2 : Run X 110 [sI .i64 1, sI .i64 q] R1 R2) (h3 : a < X.M.tyN → Run X 114 [.agg [sI .i64 P, sI .i64 Q], sI .i64 q] R2 R3) (h4 : ¬ a < X.M.tyN → R3 = R2) :
    Run X 83 [aggI 17 r a b nn tg ll le, sI .i64 q] R R3 := by
  refine Does.fromW (rows := [(83, 110, sB true), (83, 140, .agg [sI .i64 P, sI .i64 Q])]) ?_
  refine does_of_tree names (iiT_tree X R R1 R2 R3 R R R R 17 r a b nn tg ll le q 0 P Q true) ?_
  have w1 : IntKind.u64.wrap a = a := u64In (by omega) (by omega)
  have w2 : IntKind.u64.wrap (X.M.tyN : Int) = X.M.tyN := u64In (by omega) (by omega)
  have g1 : decide ((X.M.taN : Int) > 0) = true := by simp; omega
  simp only [iiTTree, Tree.ok, keep_map, Int.reduceBEq, Bool.not_false, w1, w2, g1, eqAV_bool, eqBool, Bool.and_true, true_and, and_true]
  refine ⟨Does.toW h1, Does.toW h2, fun h => ?_, fun h => ?_⟩
  · have h := of_decide_eq_true h
    obtain ⟨c0, c1⟩ := hc h
    simp only [c0, c1, isInt, pvInt, ik, eqAV, eqAVs, eqPV, eqV, eqKind, inB, decide_true, Bool.and_true, Bool.and_eq_true, decide_eq_true_eq]
    refine ⟨?_, ?_⟩
    · exact ⟨by omega, by omega⟩
    · exact Does.toW (h3 h)
  · have h := of_decide_eq_false h
    rw [h4 h]

/-- There is none. -/
theorem ins_indF (ht : X.M.taN = 0) (h1 : Ask X 113 [sB false, sI .i64 6, sI .i64 q] (.tup []) R R1) (h2 : Run X 110 [sI .i64 1, sI .i64 q] R1 R2) :
    Run X 83 [aggI 17 r a b nn tg ll le, sI .i64 q] R R2 := by
  refine Does.fromW (rows := [(83, 110, sB false)]) ?_
  refine does_of_tree names (iiF_tree X R R1 R2 R R R R R 17 r a b nn tg ll le q 0 0 0 true) ?_
  have g1 : decide ((X.M.taN : Int) > 0) = false := by simp; omega
  simp only [iiFTree, Tree.ok, keep_map, Int.reduceBEq, Bool.not_false, g1, eqAV_bool, eqBool, Bool.and_true, true_and, and_true]
  exact ⟨Does.toW h1, Does.toW h2⟩

theorem opn_of (ho : op ≠ 4) (h1 : Run X 134 [sI .i64 op, sI .i64 r, sI .i64 q] R R1) (h2 : Run X 33 [aL ll] R1 R2) (h3 : Run X 34 [sI .i64 q] R2 R3) : Run X 108 [aggI op r a b nn tg ll le, sI .i64 q] R R3 := by
  refine does_of_tree names (opn_tree X R R1 R2 R3 R R R R op r a b nn tg ll le q) ?_
  have e0 : (op != 4) = true := by simpa using ho
  simp only [opnTree, Tree.ok, keep_map, e0, true_and, and_true]
  exact ⟨h1, h2, h3⟩

theorem opB_of (hE : R4.e ≠ 0) (h1 : Run X 110 [sI .i64 1, sI .i64 q] R R1) (h2 : Run X 134 [sI .i64 4, sI .i64 r, sI .i64 q] R1 R2) (h3 : Run X 33 [aL ll] R2 R3) (h4 : Run X 34 [sI .i64 q] R3 R4) : Run X 108 [aggI 4 r a b nn tg ll le, sI .i64 q] R R4 := by
  refine does_of_tree names (opB_tree X R R1 R2 R3 R4 R R R r a b nn tg ll le q) ?_
  have e0 : (R4.e != 0) = true := by simpa using hE
  simp only [opBTree, Tree.ok, keep_map, e0, true_and, and_true, true_implies, Bool.true_eq_false, false_implies]
  exact ⟨h1, h2, h3, h4⟩

theorem opG_of (h1 : Run X 110 [sI .i64 1, sI .i64 q] R R1)
    (h2 : Does Tryz.prog env 134 [.mp 0 0, sI .i64 4, sI .i64 r, sI .i64 q] (memIn X R1) (.tup []) [lkB X.M X.tP X.tR X.own R2.h 2 R2.k R2.e R2.p R2.nx, frB R1.cs, frB R2.cs]) (h3 : Run X 33 [aL ll] R2 R3) (h4 : Run X 34 [sI .i64 q] R3 R4)
    (hE : R4.e ≠ 0 → R7 = R4) (h5 : R4.e = 0 → Run X 134 [sI .i64 5, sI .i64 r, sI .i64 q] ⟨R1.h, R1.k, R1.cs, R4.e, R4.p, R4.nx⟩ R5) (h6 : R4.e = 0 → Run X 33 [aL le] R5 R6) (h7 : R4.e = 0 → Run X 34 [sI .i64 q] R6 R7) :
    Run X 108 [aggI 4 r a b nn tg ll le, sI .i64 q] R R7 := by
  refine does_of_tree names (opG_tree X R R1 R2 R3 R4 R5 R6 R7 r a b nn tg ll le q) ?_
  simp only [opGTree, Tree.ok, keep_map]
  refine ⟨h1, h2, h3, h4, fun h => ?_, fun h => ?_⟩
  · rw [hE (by simpa using h)]
  · have h : R4.e = 0 := by simpa using h
    exact ⟨h5 h, h6 h, h7 h, trivial⟩

end
end Go.Proofs.YtgbphddecpjlhaaGreatDoor.N
end

section
set_option linter.unusedSimpArgs false
namespace Go.Proofs.YtgbphddecpjlhaaGreatDoor.N
open Go Go.Am

def noCall' (_ : FuncId) (_ : List AV) (_ : Mem) : Option (AV × Mem) := none
/- shL: 173 steps -/
noncomputable def shLOrc : Orc := orcL noCall' noLed [] [(168, 2, 3), (157, 0, 1), (157, 0, 2), (157, 0, 3), (157, 0, 4), (157, 0, 5), (157, 0, 6), (157, 0, 7), (157, 0, 8), (157, 0, 9), (157, 0, 10), (157, 0, 11), (157, 0, 12), (157, 0, 13), (157, 0, 14), (157, 0, 15), (157, 0, 16), (157, 0, 17), (157, 0, 18), (157, 0, 19)] []
def shLSc : Sc := (.yes (.no (.no (.no (.no (.no (.no (.no (.no (.no (.no (.no (.no (.no (.no (.no (.no (.no (.no (.no .fin))))))))))))))))))))
noncomputable def shLTree (op : Int) : Tree :=
  (.must (decide (op < 0))
   (.must (!(op == 1))
    (.must (!(op == 26))
     (.must (!(op == 33))
      (.must (!(op == 36))
       (.must (!(op == 27))
        (.must (!(op == 32))
         (.must (!(op == 35))
          (.must (!(op == 63))
           (.must (!(op == 65))
            (.must (!(op == 34))
             (.must (!(op == 40))
              (.must (!(op == 44))
               (.must (!(op == 45))
                (.must (!(op == 46))
                 (.must (!(op == 47))
                  (.must (!(op == 64))
                   (.must (!(op == 54))
                    (.must (!(op == 58))
                     (.must (!(op == 59))
                      (.out (Out.ret (AV.tup [AV.p (PV.sc (Value.int IntKind.i64 0)), AV.p (PV.sc (Value.int IntKind.i64 0)), AV.p (PV.sc (Value.bool false))]) []))))))))))))))))))))))
theorem shL_tree (op : Int) : growF Tryz.prog env shLOrc 1000000 157 ([sI IntKind.i64 op]) ([]) shLSc = shLTree op := by kernel_rfl

/- shH: 173 steps -/
noncomputable def shHOrc : Orc := orcL noCall' noLed [] [(168, 2, 3), (168, 0, 0), (157, 0, 1), (157, 0, 2), (157, 0, 3), (157, 0, 4), (157, 0, 5), (157, 0, 6), (157, 0, 7), (157, 0, 8), (157, 0, 9), (157, 0, 10), (157, 0, 11), (157, 0, 12), (157, 0, 13), (157, 0, 14), (157, 0, 15), (157, 0, 16), (157, 0, 17), (157, 0, 18), (157, 0, 19)] []
def shHSc : Sc := (.no (.yes (.no (.no (.no (.no (.no (.no (.no (.no (.no (.no (.no (.no (.no (.no (.no (.no (.no (.no (.no .fin)))))))))))))))))))))
noncomputable def shHTree (op : Int) : Tree :=
  (.must (!(decide (op < 0)))
   (.must (decide (op > 120))
    (.must (!(op == 1))
     (.must (!(op == 26))
      (.must (!(op == 33))
       (.must (!(op == 36))
        (.must (!(op == 27))
         (.must (!(op == 32))
          (.must (!(op == 35))
           (.must (!(op == 63))
            (.must (!(op == 65))
             (.must (!(op == 34))
              (.must (!(op == 40))
               (.must (!(op == 44))
                (.must (!(op == 45))
                 (.must (!(op == 46))
                  (.must (!(op == 47))
                   (.must (!(op == 64))
                    (.must (!(op == 54))
                     (.must (!(op == 58))
                      (.must (!(op == 59))
                       (.out (Out.ret (AV.tup [AV.p (PV.sc (Value.int IntKind.i64 0)), AV.p (PV.sc (Value.int IntKind.i64 0)), AV.p (PV.sc (Value.bool false))]) [])))))))))))))))))))))))
theorem shH_tree (op : Int) : growF Tryz.prog env shHOrc 1000000 157 ([sI IntKind.i64 op]) ([]) shHSc = shHTree op := by kernel_rfl

/- srL: 259 steps -/
noncomputable def srLOrc : Orc := orcL noCall' noLed [] [(147, 2, 3), (147, 2, 6), (147, 4, 3), (147, 4, 10), (146, 0, 0), (146, 0, 1), (146, 0, 2), (146, 0, 3), (146, 0, 4), (146, 0, 5), (146, 0, 6), (146, 0, 7), (125, 0, 1), (125, 8, 3), (125, 8, 7), (125, 0, 2), (125, 0, 3), (125, 12, 3), (125, 12, 7), (125, 12, 11), (125, 0, 4), (125, 14, 3), (125, 14, 7)] []
def srLSc : Sc := (.no (.no (.no (.no (.no (.no (.no (.no (.no (.no (.no (.no (.no (.no (.no (.no (.no (.no (.no (.no (.no (.no (.no .fin)))))))))))))))))))))))
noncomputable def srLTree (op : Int) : Tree :=
  (.must (!(op == 69))
   (.must (!(decide (op ≥ 103)))
    (.must (!(decide (op ≥ 70)))
     (.must (!(decide (op ≥ 106)))
      (.must (!(op == 40))
       (.must (!(op == 54))
        (.must (!(op == 46))
         (.must (!(op == 47))
          (.must (!(op == 59))
           (.must (!(op == 44))
            (.must (!(op == 45))
             (.must (!(op == 58))
              (.must (!(op == 1))
               (.must (!(op == 26))
                (.must (!(op == 33))
                 (.must (!(op == 36))
                  (.must (!(op == 27))
                   (.must (!(op == 32))
                    (.must (!(op == 35))
                     (.must (!(op == 63))
                      (.must (!(op == 65))
                       (.must (!(op == 34))
                        (.must (!(op == 64))
                         (.out (Out.ret (AV.tup [AV.p (PV.sc (Value.int IntKind.i64 0)), AV.p (PV.sc (Value.int IntKind.i64 0)), AV.p (PV.sc (Value.bool false))]) [])))))))))))))))))))))))))
theorem srL_tree (op : Int) : growF Tryz.prog env srLOrc 1000000 125 ([sI IntKind.i64 op]) ([]) srLSc = srLTree op := by kernel_rfl

/- srH: 259 steps -/
noncomputable def srHOrc : Orc := orcL noCall' noLed [] [(147, 2, 3), (147, 2, 6), (147, 0, 0), (147, 4, 3), (147, 4, 7), (147, 4, 10), (147, 0, 1), (146, 0, 0), (146, 0, 1), (146, 0, 2), (146, 0, 3), (146, 0, 4), (146, 0, 5), (146, 0, 6), (146, 0, 7), (125, 0, 1), (125, 8, 3), (125, 8, 7), (125, 0, 2), (125, 0, 3), (125, 12, 3), (125, 12, 7), (125, 12, 11), (125, 0, 4), (125, 14, 3), (125, 14, 7)] []
def srHSc : Sc := (.no (.yes (.no (.yes (.no (.yes (.no (.no (.no (.no (.no (.no (.no (.no (.no (.no (.no (.no (.no (.no (.no (.no (.no (.no (.no (.no .fin))))))))))))))))))))))))))
noncomputable def srHTree (op : Int) : Tree :=
  (.must (!(op == 69))
   (.must (decide (op ≥ 103))
    (.must (!(decide (op ≤ 105)))
     (.must (decide (op ≥ 70))
      (.must (!(decide (op ≤ 79)))
       (.must (decide (op ≥ 106))
        (.must (!(decide (op ≤ 120)))
         (.must (!(op == 40))
          (.must (!(op == 54))
           (.must (!(op == 46))
            (.must (!(op == 47))
             (.must (!(op == 59))
              (.must (!(op == 44))
               (.must (!(op == 45))
                (.must (!(op == 58))
                 (.must (!(op == 1))
                  (.must (!(op == 26))
                   (.must (!(op == 33))
                    (.must (!(op == 36))
                     (.must (!(op == 27))
                      (.must (!(op == 32))
                       (.must (!(op == 35))
                        (.must (!(op == 63))
                         (.must (!(op == 65))
                          (.must (!(op == 34))
                           (.must (!(op == 64))
                            (.out (Out.ret (AV.tup [AV.p (PV.sc (Value.int IntKind.i64 0)), AV.p (PV.sc (Value.int IntKind.i64 0)), AV.p (PV.sc (Value.bool false))]) []))))))))))))))))))))))))))))
theorem srH_tree (op : Int) : growF Tryz.prog env srHOrc 1000000 125 ([sI IntKind.i64 op]) ([]) srHSc = srHTree op := by kernel_rfl


abbrev shV (op : Int) : AV := .tup [sI .i64 (takesF op), sI .i64 (tellsF op), sB (hasShape op)]

theorem shV_out {op : Int} (h : op < 0 ∨ 120 < op) : shV op = .tup [sI .i64 0, sI .i64 0, sB false] := by
  have h1 : takesF op = 0 := by
    unfold takesF
    rw [if_neg (by omega), if_neg (by omega), if_neg (by omega)]
  have h2 : tellsF op = 0 := by
    unfold tellsF
    rw [if_neg (by omega)]
  have h3 : hasShape op = false := by
    unfold hasShape
    rw [h1, h2]
    simp only [decide_eq_false_iff_not]
    omega
  rw [shV, h1, h2, h3]
  rfl

def arN (n : Nat) : Int := if n = 69 ∨ n = 103 ∨ n = 104 ∨ n = 105 then 1 else if (70 ≤ n ∧ n ≤ 79) ∨ (106 ≤ n ∧ n ≤ 120) then 2 else 0
def arC : Call' := ⟨171, [], [], .agg ((List.range 121).map fun n => sI .i64 (arN n)), []⟩
theorem arD : Does Tryz.prog env arC.g arC.args arC.m arC.v arC.m' := does_fast names (K := []) calls_nil (n := 1000000) (by kernel_rfl)
def arK : List Call' := [arC]
theorem arKok : Calls' Tryz.prog env arK := calls_cons arD calls_nil

noncomputable def shpRun (n : Nat) : Bool :=
  match execXF Tryz.prog env arK 100000 157 [sI .i64 n] [] with
  | some (.ret v m) => eqAV v (shV n) && eqMem m []
  | _ => false

theorem shpRun0 : (List.range' 0 31).all shpRun = true := by kernel_rfl
theorem shpRun1 : (List.range' 31 30).all shpRun = true := by kernel_rfl
theorem shpRun2 : (List.range' 61 30).all shpRun = true := by kernel_rfl
theorem shpRun3 : (List.range' 91 30).all shpRun = true := by kernel_rfl

theorem shpRun_all {n : Nat} (h : n < 121) : shpRun n = true := by
  have get : ∀ a k, (List.range' a k).all shpRun = true → a ≤ n → n < a + k → shpRun n = true := fun a k ha h1 h2 => List.all_eq_true.1 ha n (List.mem_range'_1.2 ⟨h1, h2⟩)
  rcases Nat.lt_or_ge n 31 with q | q
  · exact get 0 31 shpRun0 (by omega) (by omega)
  rcases Nat.lt_or_ge n 61 with q | q
  · exact get 31 30 shpRun1 (by omega) (by omega)
  rcases Nat.lt_or_ge n 91 with q | q
  · exact get 61 30 shpRun2 (by omega) (by omega)
  · exact get 91 30 shpRun3 (by omega) (by omega)

theorem shp_does (op : Int) : Does Tryz.prog env 157 [sI .i64 op] [] (shV op) [] := by
  by_cases h0 : op < 0
  · rw [shV_out (.inl h0)]
    refine does_of_tree names (shL_tree op) ?_
    simp only [shLTree, Tree.ok, Bool.not_eq_true', beq_eq_false_iff_ne, decide_eq_true_eq, decide_eq_false_iff_not]
    repeat' first | exact True.intro | exact rfl | apply And.intro
    all_goals omega
  · by_cases h1 : 120 < op
    · rw [shV_out (.inr h1)]
      refine does_of_tree names (shH_tree op) ?_
      simp only [shHTree, Tree.ok, Bool.not_eq_true', beq_eq_false_iff_ne, decide_eq_false_iff_not, decide_eq_true_eq]
      repeat' first | exact True.intro | exact rfl | apply And.intro
      all_goals omega
    · obtain ⟨n, rfl⟩ := Int.eq_ofNat_of_zero_le (by omega : 0 ≤ op)
      have hr := shpRun_all (n := n) (by omega)
      unfold shpRun at hr
      split at hr
      · rename_i v m hx
        rw [Bool.and_eq_true] at hr
        rw [eqAV_eq hr.1, eqMem_eq hr.2] at hx
        exact does_fast names arKok hx
      · cases hr

noncomputable def shrRun (n : Nat) : Bool :=
  match execXF Tryz.prog env arK 100000 125 [sI .i64 n] [] with
  | some (.ret v m) => eqAV v (shV n) && eqMem m []
  | _ => false

theorem shrRun0 : (List.range' 0 31).all shrRun = true := by kernel_rfl
theorem shrRun1 : (List.range' 31 30).all shrRun = true := by kernel_rfl
theorem shrRun2 : (List.range' 61 30).all shrRun = true := by kernel_rfl
theorem shrRun3 : (List.range' 91 30).all shrRun = true := by kernel_rfl

theorem shrRun_all {n : Nat} (h : n < 121) : shrRun n = true := by
  have get : ∀ a k, (List.range' a k).all shrRun = true → a ≤ n → n < a + k → shrRun n = true := fun a k ha h1 h2 => List.all_eq_true.1 ha n (List.mem_range'_1.2 ⟨h1, h2⟩)
  rcases Nat.lt_or_ge n 31 with q | q
  · exact get 0 31 shrRun0 (by omega) (by omega)
  rcases Nat.lt_or_ge n 61 with q | q
  · exact get 31 30 shrRun1 (by omega) (by omega)
  rcases Nat.lt_or_ge n 91 with q | q
  · exact get 61 30 shrRun2 (by omega) (by omega)
  · exact get 91 30 shrRun3 (by omega) (by omega)

theorem shr_does (op : Int) : Does Tryz.prog env 125 [sI .i64 op] [] (shV op) [] := by
  by_cases h0 : op < 0
  · rw [shV_out (.inl h0)]
    refine does_of_tree names (srL_tree op) ?_
    simp only [srLTree, Tree.ok, Bool.not_eq_true', beq_eq_false_iff_ne, decide_eq_true_eq, decide_eq_false_iff_not]
    repeat' first | exact True.intro | exact rfl | apply And.intro
    all_goals omega
  · by_cases h1 : 120 < op
    · rw [shV_out (.inr h1)]
      refine does_of_tree names (srH_tree op) ?_
      simp only [srHTree, Tree.ok, Bool.not_eq_true', beq_eq_false_iff_ne, decide_eq_false_iff_not, decide_eq_true_eq]
      repeat' first | exact True.intro | exact rfl | apply And.intro
      all_goals omega
    · obtain ⟨n, rfl⟩ := Int.eq_ofNat_of_zero_le (by omega : 0 ≤ op)
      have hr := shrRun_all (n := n) (by omega)
      unfold shrRun at hr
      split at hr
      · rename_i v m hx
        rw [Bool.and_eq_true] at hr
        rw [eqAV_eq hr.1, eqMem_eq hr.2] at hx
        exact does_fast names arKok hx
      · cases hr

end Go.Proofs.YtgbphddecpjlhaaGreatDoor.N
end
