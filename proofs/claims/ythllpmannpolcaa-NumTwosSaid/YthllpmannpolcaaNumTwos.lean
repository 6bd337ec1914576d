/-
  NumTwos: the law, for every operation.
-/
import Derived.Test.YthllpmannpolcaaNumTwosA
import Derived.Test.YthllpmannpolcaaNumTwosE
namespace Go.Proofs.Ythllpmannpolcaa.N
open Go Go.Am

theorem lawEq_does {a b : Int} (h : 0 ≤ a ∧ a ≤ 4294967295) (h' : 0 ≤ b ∧ b ≤ 4294967295) : Does Try.prog noGlob 3 [.p (.sc (.int .i64 70)), .p (.sc (.int .u32 a)), .p (.sc (.int .u32 b))] [] (sB true) [] := by
  refine does_of_tree names (lawEq_tree a b) ?_
  simp +contextual [lawEqTree, Tree.ok, awake, sB, wI64]
  omega

theorem lawNe_does {a b : Int} (h : 0 ≤ a ∧ a ≤ 4294967295) (h' : 0 ≤ b ∧ b ≤ 4294967295) : Does Try.prog noGlob 3 [.p (.sc (.int .i64 71)), .p (.sc (.int .u32 a)), .p (.sc (.int .u32 b))] [] (sB true) [] := by
  refine does_of_tree names (lawNe_tree a b) ?_
  simp +contextual [lawNeTree, Tree.ok, awake, sB, wI64]
  omega

theorem lawLtS_does {a b : Int} (h : 0 ≤ a ∧ a ≤ 4294967295) (h' : 0 ≤ b ∧ b ≤ 4294967295) : Does Try.prog noGlob 3 [.p (.sc (.int .i64 72)), .p (.sc (.int .u32 a)), .p (.sc (.int .u32 b))] [] (sB true) [] := by
  refine does_of_tree names (lawLtS_tree a b) ?_
  simp +contextual [lawLtSTree, Tree.ok, awake, sB, wI32, wI64]
  omega

theorem lawLtU_does {a b : Int} (h : 0 ≤ a ∧ a ≤ 4294967295) (h' : 0 ≤ b ∧ b ≤ 4294967295) : Does Try.prog noGlob 3 [.p (.sc (.int .i64 73)), .p (.sc (.int .u32 a)), .p (.sc (.int .u32 b))] [] (sB true) [] := by
  refine does_of_tree names (lawLtU_tree a b) ?_
  simp +contextual [lawLtUTree, Tree.ok, awake, sB, wI64]
  omega

theorem lawGtS_does {a b : Int} (h : 0 ≤ a ∧ a ≤ 4294967295) (h' : 0 ≤ b ∧ b ≤ 4294967295) : Does Try.prog noGlob 3 [.p (.sc (.int .i64 74)), .p (.sc (.int .u32 a)), .p (.sc (.int .u32 b))] [] (sB true) [] := by
  refine does_of_tree names (lawGtS_tree a b) ?_
  simp +contextual [lawGtSTree, Tree.ok, awake, sB, wI32, wI64]
  omega

theorem lawGtU_does {a b : Int} (h : 0 ≤ a ∧ a ≤ 4294967295) (h' : 0 ≤ b ∧ b ≤ 4294967295) : Does Try.prog noGlob 3 [.p (.sc (.int .i64 75)), .p (.sc (.int .u32 a)), .p (.sc (.int .u32 b))] [] (sB true) [] := by
  refine does_of_tree names (lawGtU_tree a b) ?_
  simp +contextual [lawGtUTree, Tree.ok, awake, sB, wI64]
  omega

theorem lawLeS_does {a b : Int} (h : 0 ≤ a ∧ a ≤ 4294967295) (h' : 0 ≤ b ∧ b ≤ 4294967295) : Does Try.prog noGlob 3 [.p (.sc (.int .i64 76)), .p (.sc (.int .u32 a)), .p (.sc (.int .u32 b))] [] (sB true) [] := by
  refine does_of_tree names (lawLeS_tree a b) ?_
  simp +contextual [lawLeSTree, Tree.ok, awake, sB, wI32, wI64]
  omega

theorem lawLeU_does {a b : Int} (h : 0 ≤ a ∧ a ≤ 4294967295) (h' : 0 ≤ b ∧ b ≤ 4294967295) : Does Try.prog noGlob 3 [.p (.sc (.int .i64 77)), .p (.sc (.int .u32 a)), .p (.sc (.int .u32 b))] [] (sB true) [] := by
  refine does_of_tree names (lawLeU_tree a b) ?_
  simp +contextual [lawLeUTree, Tree.ok, awake, sB, wI64]
  omega

theorem lawGeS_does {a b : Int} (h : 0 ≤ a ∧ a ≤ 4294967295) (h' : 0 ≤ b ∧ b ≤ 4294967295) : Does Try.prog noGlob 3 [.p (.sc (.int .i64 78)), .p (.sc (.int .u32 a)), .p (.sc (.int .u32 b))] [] (sB true) [] := by
  refine does_of_tree names (lawGeS_tree a b) ?_
  simp +contextual [lawGeSTree, Tree.ok, awake, sB, wI32, wI64]
  omega

theorem lawGeU_does {a b : Int} (h : 0 ≤ a ∧ a ≤ 4294967295) (h' : 0 ≤ b ∧ b ≤ 4294967295) : Does Try.prog noGlob 3 [.p (.sc (.int .i64 79)), .p (.sc (.int .u32 a)), .p (.sc (.int .u32 b))] [] (sB true) [] := by
  refine does_of_tree names (lawGeU_tree a b) ?_
  simp +contextual [lawGeUTree, Tree.ok, awake, sB, wI64]
  omega

theorem tail {x : Int} :
    (x.tmod 4294967296 < 0 → IntKind.u32.wrap (IntKind.i64.wrap (x.tmod 4294967296 + 4294967296)) = IntKind.u32.wrap x) ∧ (¬ x.tmod 4294967296 < 0 → IntKind.u32.wrap (x.tmod 4294967296) = IntKind.u32.wrap x) := by
  rcases Int.lt_or_le x 0 with h0 | h0
  · have e : x.tmod 4294967296 = -((-x) % 4294967296) := by
      have : x = -(-x) := by omega
      rw [this, Int.neg_tmod, tmodPos (by omega)]; omega
    rw [e]; simp only [wU32, wI64]; constructor <;> intro _ <;> omega
  · rw [tmodPos h0]; simp only [wU32, wI64]; constructor <;> intro _ <;> omega

/-- A tree's last part: the document's word is the code's. -/
theorem tail_ok {w x : Int} (h : IntKind.u32.wrap w = IntKind.u32.wrap x) : (Tree.test (decide (x.tmod 4294967296 < 0))
      (.test (IntKind.u32.wrap w == IntKind.u32.wrap (IntKind.i64.wrap (x.tmod 4294967296 + 4294967296))) (.call ⟨9, [], [], AV.p (PV.sc (Value.bool Bool.true)), []⟩ (.out (Out.ret (AV.p (PV.sc (Value.bool Bool.true))) []))) (.out (Out.ret (AV.p (PV.sc (Value.bool Bool.false))) [])))
      (.test (IntKind.u32.wrap w == IntKind.u32.wrap (x.tmod 4294967296)) (.call ⟨9, [], [], AV.p (PV.sc (Value.bool Bool.true)), []⟩ (.out (Out.ret (AV.p (PV.sc (Value.bool Bool.true))) []))) (.out (Out.ret (AV.p (PV.sc (Value.bool Bool.false))) [])))).ok Try.prog noGlob (.ret (sB true) []) := by
  have ht := tail (x := x)
  by_cases hs : x.tmod 4294967296 < 0
  · simp [Tree.ok, hs, ht.1 hs, h, awake, sB]
  · simp [Tree.ok, hs, ht.2 hs, h, awake, sB]

theorem mulIn {A B : Int} (hA : A.natAbs ≤ 2147483648) (hB : B.natAbs ≤ 2147483648) : IntKind.i64.wrap (A * B) = A * B := by
  have h : (A * B).natAbs ≤ 2147483648 * 2147483648 := by rw [Int.natAbs_mul]; exact Nat.mul_le_mul hA hB
  exact w64 (by omega) (by omega)

theorem lawAdd_does {a b : Int} (h : 0 ≤ a ∧ a ≤ 4294967295) (h' : 0 ≤ b ∧ b ≤ 4294967295) : Does Try.prog noGlob 3 [.p (.sc (.int .i64 106)), .p (.sc (.int .u32 a)), .p (.sc (.int .u32 b))] [] (sB true) [] := by
  refine does_of_tree names (lawAdd_tree a b) ?_
  have e1 : IntKind.i64.wrap a = a := w64 (by omega) (by omega)
  have e2 : IntKind.i64.wrap b = b := w64 (by omega) (by omega)
  have e3 : IntKind.i64.wrap (a + b) = a + b := w64 (by omega) (by omega)
  simp only [lawAddTree, e1, e2, e3]
  exact tail_ok rfl

theorem lawSub_does {a b : Int} (h : 0 ≤ a ∧ a ≤ 4294967295) (h' : 0 ≤ b ∧ b ≤ 4294967295) : Does Try.prog noGlob 3 [.p (.sc (.int .i64 107)), .p (.sc (.int .u32 a)), .p (.sc (.int .u32 b))] [] (sB true) [] := by
  refine does_of_tree names (lawSub_tree a b) ?_
  have e1 : IntKind.i64.wrap a = a := w64 (by omega) (by omega)
  have e2 : IntKind.i64.wrap b = b := w64 (by omega) (by omega)
  have e3 : IntKind.i64.wrap (a - b) = a - b := w64 (by omega) (by omega)
  simp only [lawSubTree, e1, e2, e3]
  exact tail_ok rfl

theorem lawMul_does {a b : Int} (h : 0 ≤ a ∧ a ≤ 4294967295) (h' : 0 ≤ b ∧ b ≤ 4294967295) : Does Try.prog noGlob 3 [.p (.sc (.int .i64 108)), .p (.sc (.int .u32 a)), .p (.sc (.int .u32 b))] [] (sB true) [] := by
  refine does_of_tree names (lawMul_tree a b) ?_
  have e1 : IntKind.i64.wrap a = a := w64 (by omega) (by omega)
  have e2 : IntKind.i64.wrap b = b := w64 (by omega) (by omega)
  have e3 : IntKind.i64.wrap (a - 4294967296) = a - 4294967296 := w64 (by omega) (by omega)
  have e4 : IntKind.i64.wrap (b - 4294967296) = b - 4294967296 := w64 (by omega) (by omega)
  simp only [lawMulTree, e1, e2, e3, e4]
  refine ⟨fun ha => ⟨fun hb => ?_, fun hb => ?_⟩, fun ha => ⟨fun hb => ?_, fun hb => ?_⟩⟩ <;> simp only [decide_eq_true_eq, decide_eq_false_iff_not] at ha hb
  · rw [mulIn (by omega) (by omega)]
    refine tail_ok ?_
    have : (a - 4294967296) * (b - 4294967296) = a * b - 4294967296 * a - 4294967296 * b + 18446744073709551616 := by rw [Int.sub_mul, Int.mul_sub, Int.mul_sub]; omega
    rw [this, wU32, wU32]; omega
  · rw [mulIn (by omega) (by omega)]
    refine tail_ok ?_
    rw [Int.sub_mul, wU32, wU32]; omega
  · rw [mulIn (by omega) (by omega)]
    refine tail_ok ?_
    rw [Int.mul_sub, wU32, wU32]; omega
  · rw [mulIn (by omega) (by omega)]
    exact tail_ok rfl

/-! What takes one word or none, or is no operation. -/
theorem bad_trees0 (a b : Int) : (([0, 1, 2, 3, 4, 5, 6, 7, 8, 9, 10, 11] : List Int).map fun op => growF Try.prog noGlob lawBadOrc 1000000 3 [.p (.sc (.int .i64 op)), .p (.sc (.int .u32 a)), .p (.sc (.int .u32 b))] [] lawBadSc) = ([0, 1, 2, 3, 4, 5, 6, 7, 8, 9, 10, 11] : List Int).map fun _ => lawBadTree a b := by kernel_rfl

theorem bad_trees1 (a b : Int) : (([12, 13, 14, 15, 16, 17, 18, 19, 20, 21, 22, 23] : List Int).map fun op => growF Try.prog noGlob lawBadOrc 1000000 3 [.p (.sc (.int .i64 op)), .p (.sc (.int .u32 a)), .p (.sc (.int .u32 b))] [] lawBadSc) = ([12, 13, 14, 15, 16, 17, 18, 19, 20, 21, 22, 23] : List Int).map fun _ => lawBadTree a b := by kernel_rfl

theorem bad_trees2 (a b : Int) : (([24, 25, 26, 27, 28, 29, 30, 31, 32, 33, 34, 35] : List Int).map fun op => growF Try.prog noGlob lawBadOrc 1000000 3 [.p (.sc (.int .i64 op)), .p (.sc (.int .u32 a)), .p (.sc (.int .u32 b))] [] lawBadSc) = ([24, 25, 26, 27, 28, 29, 30, 31, 32, 33, 34, 35] : List Int).map fun _ => lawBadTree a b := by kernel_rfl

theorem bad_trees3 (a b : Int) : (([36, 37, 38, 39, 40, 41, 42, 43, 44, 45, 46, 47] : List Int).map fun op => growF Try.prog noGlob lawBadOrc 1000000 3 [.p (.sc (.int .i64 op)), .p (.sc (.int .u32 a)), .p (.sc (.int .u32 b))] [] lawBadSc) = ([36, 37, 38, 39, 40, 41, 42, 43, 44, 45, 46, 47] : List Int).map fun _ => lawBadTree a b := by kernel_rfl

theorem bad_trees4 (a b : Int) : (([48, 49, 50, 51, 52, 53, 54, 55, 56, 57, 58, 59] : List Int).map fun op => growF Try.prog noGlob lawBadOrc 1000000 3 [.p (.sc (.int .i64 op)), .p (.sc (.int .u32 a)), .p (.sc (.int .u32 b))] [] lawBadSc) = ([48, 49, 50, 51, 52, 53, 54, 55, 56, 57, 58, 59] : List Int).map fun _ => lawBadTree a b := by kernel_rfl

theorem bad_trees5 (a b : Int) : (([60, 61, 62, 63, 64, 65, 66, 67, 68, 69, 80, 81] : List Int).map fun op => growF Try.prog noGlob lawBadOrc 1000000 3 [.p (.sc (.int .i64 op)), .p (.sc (.int .u32 a)), .p (.sc (.int .u32 b))] [] lawBadSc) = ([60, 61, 62, 63, 64, 65, 66, 67, 68, 69, 80, 81] : List Int).map fun _ => lawBadTree a b := by kernel_rfl

theorem bad_trees6 (a b : Int) : (([82, 83, 84, 85, 86, 87, 88, 89, 90, 91, 92, 93] : List Int).map fun op => growF Try.prog noGlob lawBadOrc 1000000 3 [.p (.sc (.int .i64 op)), .p (.sc (.int .u32 a)), .p (.sc (.int .u32 b))] [] lawBadSc) = ([82, 83, 84, 85, 86, 87, 88, 89, 90, 91, 92, 93] : List Int).map fun _ => lawBadTree a b := by kernel_rfl

theorem bad_trees7 (a b : Int) : (([94, 95, 96, 97, 98, 99, 100, 101, 102, 103, 104, 105] : List Int).map fun op => growF Try.prog noGlob lawBadOrc 1000000 3 [.p (.sc (.int .i64 op)), .p (.sc (.int .u32 a)), .p (.sc (.int .u32 b))] [] lawBadSc) = ([94, 95, 96, 97, 98, 99, 100, 101, 102, 103, 104, 105] : List Int).map fun _ => lawBadTree a b := by kernel_rfl

theorem lawBad_one {op a b : Int} (h : growF Try.prog noGlob lawBadOrc 1000000 3 [.p (.sc (.int .i64 op)), .p (.sc (.int .u32 a)), .p (.sc (.int .u32 b))] [] lawBadSc = lawBadTree a b) : Does Try.prog noGlob 3 [.p (.sc (.int .i64 op)), .p (.sc (.int .u32 a)), .p (.sc (.int .u32 b))] [] (sB true) [] := by
  refine does_of_tree names h ?_
  simp [lawBadTree, Tree.ok, awake, sB]

theorem lawLow_does {op a b : Int} (h : op < 0) : Does Try.prog noGlob 3 [.p (.sc (.int .i64 op)), .p (.sc (.int .u32 a)), .p (.sc (.int .u32 b))] [] (sB true) [] := by
  refine does_of_tree names (lawLow_tree op a b) ?_
  simp [lawLowTree, Tree.ok, awake, sB]; omega

theorem lawHigh_does {op a b : Int} (h : 120 < op) : Does Try.prog noGlob 3 [.p (.sc (.int .i64 op)), .p (.sc (.int .u32 a)), .p (.sc (.int .u32 b))] [] (sB true) [] := by
  refine does_of_tree names (lawHigh_tree op a b) ?_
  simp [lawHighTree, Tree.ok, awake, sB]; omega

theorem twos_does {op a b : Int} (h : 0 ≤ a ∧ a ≤ 4294967295) (h' : 0 ≤ b ∧ b ≤ 4294967295) : Does Try.prog noGlob 3 [.p (.sc (.int .i64 op)), .p (.sc (.int .u32 a)), .p (.sc (.int .u32 b))] [] (sB true) [] := by
  have hc : op < 0 ∨ 120 < op ∨ op ∈ ([0, 1, 2, 3, 4, 5, 6, 7, 8, 9, 10, 11] : List Int) ∨ op ∈ ([12, 13, 14, 15, 16, 17, 18, 19, 20, 21, 22, 23] : List Int) ∨ op ∈ ([24, 25, 26, 27, 28, 29, 30, 31, 32, 33, 34, 35] : List Int) ∨ op ∈ ([36, 37, 38, 39, 40, 41, 42, 43, 44, 45, 46, 47] : List Int) ∨ op ∈ ([48, 49, 50, 51, 52, 53, 54, 55, 56, 57, 58, 59] : List Int) ∨ op ∈ ([60, 61, 62, 63, 64, 65, 66, 67, 68, 69, 80, 81] : List Int) ∨ op ∈ ([82, 83, 84, 85, 86, 87, 88, 89, 90, 91, 92, 93] : List Int) ∨ op ∈ ([94, 95, 96, 97, 98, 99, 100, 101, 102, 103, 104, 105] : List Int) ∨ (109 ≤ op ∧ op ≤ 120) ∨ op = 70 ∨ op = 71 ∨ op = 72 ∨ op = 73 ∨ op = 74 ∨ op = 75 ∨ op = 76 ∨ op = 77 ∨ op = 78 ∨ op = 79 ∨ op = 106 ∨ op = 107 ∨ op = 108 := by
    simp only [List.mem_cons, List.not_mem_nil]; omega
  rcases hc with h0 | h0 | h0 | h0 | h0 | h0 | h0 | h0 | h0 | h0 | h0 | rfl | rfl | rfl | rfl | rfl | rfl | rfl | rfl | rfl | rfl | rfl | rfl | rfl
  · exact lawLow_does h0
  · exact lawHigh_does h0
  · exact lawBad_one (List.map_inj_left.1 (bad_trees0 a b) op h0)
  · exact lawBad_one (List.map_inj_left.1 (bad_trees1 a b) op h0)
  · exact lawBad_one (List.map_inj_left.1 (bad_trees2 a b) op h0)
  · exact lawBad_one (List.map_inj_left.1 (bad_trees3 a b) op h0)
  · exact lawBad_one (List.map_inj_left.1 (bad_trees4 a b) op h0)
  · exact lawBad_one (List.map_inj_left.1 (bad_trees5 a b) op h0)
  · exact lawBad_one (List.map_inj_left.1 (bad_trees6 a b) op h0)
  · exact lawBad_one (List.map_inj_left.1 (bad_trees7 a b) op h0)
  · obtain ⟨A, rfl⟩ := Int.eq_ofNat_of_zero_le h.1
    obtain ⟨B, rfl⟩ := Int.eq_ofNat_of_zero_le h'.1
    exact lawBoth_does h0.1 h0.2 (by omega) (by omega)
  · exact lawEq_does h h'
  · exact lawNe_does h h'
  · exact lawLtS_does h h'
  · exact lawLtU_does h h'
  · exact lawGtS_does h h'
  · exact lawGtU_does h h'
  · exact lawLeS_does h h'
  · exact lawLeU_does h h'
  · exact lawGeS_does h h'
  · exact lawGeU_does h h'
  · exact lawAdd_does h h'
  · exact lawSub_does h h'
  · exact lawMul_does h h'

end Go.Proofs.Ythllpmannpolcaa.N
