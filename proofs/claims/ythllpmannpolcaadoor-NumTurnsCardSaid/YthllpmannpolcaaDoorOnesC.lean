/-
  NumOnes: what one side makes of a word, and what the other: contracts.
-/
import Derived.Test.YthllpmannpolcaaDoorOnesB
namespace Go.Proofs.YthllpmannpolcaaDoor.N
open Go Go.Am

def pairI (w e : Int) : AV := .tup [.p (.sc (.int .u32 w)), .p (.sc (.int .i64 e))]
def oneI (op a : Int) : Int := if op = 103 then clzN a.toNat else if op = 104 then ctzN a.toNat else popN a.toNat 32
def tzCall (f : FuncId) (args : List AV) (_ : Mem) : Option (AV × Mem) := if f = 16 then (match args with
  | [.p (.sc (.int _ a))] => some (.p (.sc (.int .i64 (ctzN a.toNat))), [])
  | _ => none) else none
def oneCall (f : FuncId) (args : List AV) (_ : Mem) : Option (AV × Mem) := if f = 10 then some (sB true, []) else if f = 6 ∨ f = 7 then (match args with
  | [.p (.sc (.int _ op)), .p (.sc (.int _ a))] => some (pairI (oneI op a) 0, [])
  | _ => none) else none
def c10 (f : FuncId) (_ : List AV) (_ : Mem) : Option (AV × Mem) := if f = 10 then some (sB true, []) else none

theorem awake : Does Tryd.prog tabEnv 10 [] [] (sB true) [] := does_of_exec names (n := 1000000) (by kernel_rfl)


theorem tz_tree {n : Nat} (hn : n < 32) (a : Int) : growF Tryd.prog tabEnv (tzOrc n) 1000000 16 [.p (.sc (.int .u32 a))] [] .fin = tzTree n a := by
  have h : n = 0 ∨ n = 1 ∨ n = 2 ∨ n = 3 ∨ n = 4 ∨ n = 5 ∨ n = 6 ∨ n = 7 ∨ n = 8 ∨ n = 9 ∨ n = 10 ∨ n = 11 ∨ n = 12 ∨ n = 13 ∨ n = 14 ∨ n = 15 ∨ n = 16 ∨ n = 17 ∨ n = 18 ∨ n = 19 ∨ n = 20 ∨ n = 21 ∨ n = 22 ∨ n = 23 ∨ n = 24 ∨ n = 25 ∨ n = 26 ∨ n = 27 ∨ n = 28 ∨ n = 29 ∨ n = 30 ∨ n = 31 := by omega
  rcases h with rfl | rfl | rfl | rfl | rfl | rfl | rfl | rfl | rfl | rfl | rfl | rfl | rfl | rfl | rfl | rfl | rfl | rfl | rfl | rfl | rfl | rfl | rfl | rfl | rfl | rfl | rfl | rfl | rfl | rfl | rfl | rfl
  · exact tz_tree0 a
  · exact tz_tree1 a
  · exact tz_tree2 a
  · exact tz_tree3 a
  · exact tz_tree4 a
  · exact tz_tree5 a
  · exact tz_tree6 a
  · exact tz_tree7 a
  · exact tz_tree8 a
  · exact tz_tree9 a
  · exact tz_tree10 a
  · exact tz_tree11 a
  · exact tz_tree12 a
  · exact tz_tree13 a
  · exact tz_tree14 a
  · exact tz_tree15 a
  · exact tz_tree16 a
  · exact tz_tree17 a
  · exact tz_tree18 a
  · exact tz_tree19 a
  · exact tz_tree20 a
  · exact tz_tree21 a
  · exact tz_tree22 a
  · exact tz_tree23 a
  · exact tz_tree24 a
  · exact tz_tree25 a
  · exact tz_tree26 a
  · exact tz_tree27 a
  · exact tz_tree28 a
  · exact tz_tree29 a
  · exact tz_tree30 a
  · exact tz_tree31 a

theorem tz_does {A : Nat} (hA : A < 4294967296) : Does Tryd.prog tabEnv 16 [.p (.sc (.int .u32 A))] [] (.p (.sc (.int .i64 (ctzN A)))) [] := by
  rcases ctzN_spec hA with ⟨h1, rfl⟩ | ⟨h1, h2⟩
  · refine does_of_tree names (tz_tree (n := 0) (by omega) _) ?_
    rw [h1]
    simp [tzTree, Tree.ok]
  · refine does_of_tree names (tz_tree h1 _) ?_
    have hA0 : A ≠ 0 := by
      intro e
      rw [e, Nat.zero_mod] at h2
      have : 0 < 2 ^ ctzN A := Nat.pow_pos (by omega)
      rw [e] at this; omega
    have hl := low_bit h1 hA h2
    have hp : 2 ^ ctzN A < 4294967296 := Nat.lt_of_lt_of_le (Nat.pow_lt_pow_right (by omega) h1) (by decide : 2 ^ 32 ≤ 4294967296)
    have hb : IntKind.u32.bits = 32 := rfl
    have hneg : IntKind.u32.wrap (0 - (A : Int)) = ((4294967296 - A : Nat) : Int) := by rw [wU32]; omega
    have hv : (IntKind.u32.wrap ((BitVec.ofInt IntKind.u32.bits (A : Int) &&& BitVec.ofInt IntKind.u32.bits (IntKind.u32.wrap (0 - (A : Int)))).toNat : Int)) = 2 ^ ctzN A := by
      rw [hneg, hb, BitVec.toNat_and, BitVec.toNat_ofInt, BitVec.toNat_ofInt]
      have e1 : ((A : Int) % ((2 ^ 32 : Nat) : Int)).toNat = A := by omega
      have e2 : (((4294967296 - A : Nat) : Int) % ((2 ^ 32 : Nat) : Int)).toNat = 4294967296 - A := by omega
      rw [e1, e2, hl, u32N hp]; simp
    refine ⟨fun h => absurd (by simpa using h : (A : Int) = 0) (by omega), fun _ => ⟨?_, rfl⟩⟩
    rw [hv]

theorem tb0 {A j : Nat} (h : (bitI (A : Int) (j : Int) == 0) = true) : A.testBit j = false := by
  rw [bitI_tb] at h
  cases hb : A.testBit j with
  | true => rw [hb] at h; cases h
  | false => rfl

theorem tb1 {A j : Nat} (h : (bitI (A : Int) (j : Int) == 0) = false) : A.testBit j = true := by
  rw [bitI_tb] at h
  cases hb : A.testBit j with
  | true => rfl
  | false => rw [hb] at h; cases h

/- numCtz: 39 steps -/
def numCtzOrc : Orc := orc tzCall [] [] []
def numCtzSc : Sc := .fin
def numCtzTree (a : Int) : Tree :=
  (.call ⟨16, [AV.p (PV.sc (Value.int IntKind.u32 a))], [], AV.p (PV.sc (Value.int IntKind.i64 ↑(ctzN a.toNat))), []⟩
   (.out (Out.ret (AV.tup [AV.p (PV.sc (Value.int IntKind.u32 (IntKind.u32.wrap ↑(ctzN a.toNat)))), AV.p (PV.sc (Value.int IntKind.i64 0))]) [])))
theorem numCtz_tree (a : Int) : growF Tryd.prog tabEnv numCtzOrc 1000000 6 ([AV.p (PV.sc (Value.int IntKind.i64 104)), AV.p (PV.sc (Value.int IntKind.u32 a))]) [] numCtzSc = numCtzTree a := by kernel_rfl

/- lawClz: 154 steps -/
def lawClzOrc : Orc := orc oneCall [] [(3, 4, 4)] []
def lawClzSc : Sc := .fin
def lawClzTree (a : Int) : Tree :=
  (.call ⟨6, [AV.p (PV.sc (Value.int IntKind.i64 103)), AV.p (PV.sc (Value.int IntKind.u32 a))], [], AV.tup [AV.p (PV.sc (Value.int IntKind.u32 (oneI 103 a))), AV.p (PV.sc (Value.int IntKind.i64 0))], []⟩
   (.call ⟨7, [AV.p (PV.sc (Value.int IntKind.i64 103)), AV.p (PV.sc (Value.int IntKind.u32 a))], [], AV.tup [AV.p (PV.sc (Value.int IntKind.u32 (oneI 103 a))), AV.p (PV.sc (Value.int IntKind.i64 0))], []⟩
    (.test (oneI 103 a == oneI 103 a)
     (.call ⟨10, [], [], AV.p (PV.sc (Value.bool Bool.true)), []⟩
      (.out (Out.ret (AV.p (PV.sc (Value.bool Bool.true))) [])))
     (.out (Out.ret (AV.p (PV.sc (Value.bool Bool.false))) [])))))
theorem lawClz_tree (a : Int) : growF Tryd.prog tabEnv lawClzOrc 1000000 3 ([AV.p (PV.sc (Value.int IntKind.i64 103)), AV.p (PV.sc (Value.int IntKind.u32 a))]) [] lawClzSc = lawClzTree a := by kernel_rfl

/- lawCtz: 154 steps -/
def lawCtzOrc : Orc := orc oneCall [] [(3, 4, 4)] []
def lawCtzSc : Sc := .fin
def lawCtzTree (a : Int) : Tree :=
  (.call ⟨6, [AV.p (PV.sc (Value.int IntKind.i64 104)), AV.p (PV.sc (Value.int IntKind.u32 a))], [], AV.tup [AV.p (PV.sc (Value.int IntKind.u32 (oneI 104 a))), AV.p (PV.sc (Value.int IntKind.i64 0))], []⟩
   (.call ⟨7, [AV.p (PV.sc (Value.int IntKind.i64 104)), AV.p (PV.sc (Value.int IntKind.u32 a))], [], AV.tup [AV.p (PV.sc (Value.int IntKind.u32 (oneI 104 a))), AV.p (PV.sc (Value.int IntKind.i64 0))], []⟩
    (.test (oneI 104 a == oneI 104 a)
     (.call ⟨10, [], [], AV.p (PV.sc (Value.bool Bool.true)), []⟩
      (.out (Out.ret (AV.p (PV.sc (Value.bool Bool.true))) [])))
     (.out (Out.ret (AV.p (PV.sc (Value.bool Bool.false))) [])))))
theorem lawCtz_tree (a : Int) : growF Tryd.prog tabEnv lawCtzOrc 1000000 3 ([AV.p (PV.sc (Value.int IntKind.i64 104)), AV.p (PV.sc (Value.int IntKind.u32 a))]) [] lawCtzSc = lawCtzTree a := by kernel_rfl

/- lawPop: 154 steps -/
def lawPopOrc : Orc := orc oneCall [] [(3, 4, 4)] []
def lawPopSc : Sc := .fin
def lawPopTree (a : Int) : Tree :=
  (.call ⟨6, [AV.p (PV.sc (Value.int IntKind.i64 105)), AV.p (PV.sc (Value.int IntKind.u32 a))], [], AV.tup [AV.p (PV.sc (Value.int IntKind.u32 (oneI 105 a))), AV.p (PV.sc (Value.int IntKind.i64 0))], []⟩
   (.call ⟨7, [AV.p (PV.sc (Value.int IntKind.i64 105)), AV.p (PV.sc (Value.int IntKind.u32 a))], [], AV.tup [AV.p (PV.sc (Value.int IntKind.u32 (oneI 105 a))), AV.p (PV.sc (Value.int IntKind.i64 0))], []⟩
    (.test (oneI 105 a == oneI 105 a)
     (.call ⟨10, [], [], AV.p (PV.sc (Value.bool Bool.true)), []⟩
      (.out (Out.ret (AV.p (PV.sc (Value.bool Bool.true))) [])))
     (.out (Out.ret (AV.p (PV.sc (Value.bool Bool.false))) [])))))
theorem lawPop_tree (a : Int) : growF Tryd.prog tabEnv lawPopOrc 1000000 3 ([AV.p (PV.sc (Value.int IntKind.i64 105)), AV.p (PV.sc (Value.int IntKind.u32 a))]) [] lawPopSc = lawPopTree a := by kernel_rfl

/- lawLow: 266 steps -/
def lawLowOrc : Orc := orc c10 [] [(6, 0, 0), (6, 0, 1), (6, 0, 2), (6, 0, 3), (9, 2, 3), (9, 2, 6), (9, 4, 3), (9, 4, 10), (8, 2, 3)] []
def lawLowSc : Sc := (.no (.no (.no (.no (.no (.no (.no (.no (.yes (.no (.no (.no (.no .fin)))))))))))))
def lawLowTree (op : Int) (_ : Int) : Tree :=
  (.must (!(op == 69))
   (.must (!(op == 103))
    (.must (!(op == 104))
     (.must (!(op == 105))
      (.must (!(op == 69))
       (.must (!(Decidable.decide (op ≥ 103)))
        (.must (!(Decidable.decide (op ≥ 70)))
         (.must (!(Decidable.decide (op ≥ 106)))
          (.must (Decidable.decide (op < 0))
           (.must (!(op == 69))
            (.must (!(Decidable.decide (op ≥ 103)))
             (.must (!(Decidable.decide (op ≥ 70)))
              (.must (!(Decidable.decide (op ≥ 106)))
               (.call ⟨10, [], [], AV.p (PV.sc (Value.bool Bool.true)), []⟩
                (.out (Out.ret (AV.p (PV.sc (Value.bool Bool.true))) []))))))))))))))))
theorem lawLow_tree (op : Int) (a : Int) : growF Tryd.prog tabEnv lawLowOrc 1000000 3 ([AV.p (PV.sc (Value.int IntKind.i64 op)), AV.p (PV.sc (Value.int IntKind.u32 a))]) [] lawLowSc = lawLowTree op a := by kernel_rfl

/- lawHigh: 266 steps -/
def lawHighOrc : Orc := orc c10 [] [(6, 0, 0), (6, 0, 1), (6, 0, 2), (6, 0, 3), (9, 2, 3), (9, 2, 6), (9, 0, 0), (9, 4, 3), (9, 4, 7), (9, 4, 10), (9, 0, 1), (8, 2, 3), (8, 0, 0)] []
def lawHighSc : Sc := (.no (.no (.no (.no (.no (.yes (.no (.yes (.no (.yes (.no (.no (.yes (.no (.yes (.no (.yes (.no (.yes (.no .fin))))))))))))))))))))
def lawHighTree (op : Int) (_ : Int) : Tree :=
  (.must (!(op == 69))
   (.must (!(op == 103))
    (.must (!(op == 104))
     (.must (!(op == 105))
      (.must (!(op == 69))
       (.must (Decidable.decide (op ≥ 103))
        (.must (!(Decidable.decide (op ≤ 105)))
         (.must (Decidable.decide (op ≥ 70))
          (.must (!(Decidable.decide (op ≤ 79)))
           (.must (Decidable.decide (op ≥ 106))
            (.must (!(Decidable.decide (op ≤ 120)))
             (.must (!(Decidable.decide (op < 0)))
              (.must (Decidable.decide (op > 120))
               (.must (!(op == 69))
                (.must (Decidable.decide (op ≥ 103))
                 (.must (!(Decidable.decide (op ≤ 105)))
                  (.must (Decidable.decide (op ≥ 70))
                   (.must (!(Decidable.decide (op ≤ 79)))
                    (.must (Decidable.decide (op ≥ 106))
                     (.must (!(Decidable.decide (op ≤ 120)))
                      (.call ⟨10, [], [], AV.p (PV.sc (Value.bool Bool.true)), []⟩
                       (.out (Out.ret (AV.p (PV.sc (Value.bool Bool.true))) [])))))))))))))))))))))))
theorem lawHigh_tree (op : Int) (a : Int) : growF Tryd.prog tabEnv lawHighOrc 1000000 3 ([AV.p (PV.sc (Value.int IntKind.i64 op)), AV.p (PV.sc (Value.int IntKind.u32 a))]) [] lawHighSc = lawHighTree op a := by kernel_rfl

/- lawBad: 281 steps -/
def lawBadOrc : Orc := orc c10 [] [] []
def lawBadSc : Sc := .fin
def lawBadTree (_ : Int) : Tree :=
  (.call ⟨10, [], [], AV.p (PV.sc (Value.bool Bool.true)), []⟩
   (.out (Out.ret (AV.p (PV.sc (Value.bool Bool.true))) [])))
theorem lawBad_tree (a : Int) : growF Tryd.prog tabEnv lawBadOrc 1000000 3 ([AV.p (PV.sc (Value.int IntKind.i64 5)), AV.p (PV.sc (Value.int IntKind.u32 a))]) [] lawBadSc = lawBadTree a := by kernel_rfl

/- lawEqz: 469 steps -/
def lawEqzOrc : Orc := orc c10 [] [(14, 0, 0), (18, 0, 0)] []
def lawEqzSc : Sc := (.fork (.yes .fin) (.no .fin))
def lawEqzTree (a : Int) : Tree :=
  (.test (a == 0)
   (.must (a == 0)
    (.call ⟨10, [], [], AV.p (PV.sc (Value.bool Bool.true)), []⟩
     (.out (Out.ret (AV.p (PV.sc (Value.bool Bool.true))) []))))
   (.must (!(a == 0))
    (.call ⟨10, [], [], AV.p (PV.sc (Value.bool Bool.true)), []⟩
     (.out (Out.ret (AV.p (PV.sc (Value.bool Bool.true))) [])))))
theorem lawEqz_tree (a : Int) : growF Tryd.prog tabEnv lawEqzOrc 1000000 3 ([AV.p (PV.sc (Value.int IntKind.i64 69)), AV.p (PV.sc (Value.int IntKind.u32 a))]) [] lawEqzSc = lawEqzTree a := by kernel_rfl

theorem refClz_does {A : Nat} (hA : A < 4294967296) : Does Tryd.prog tabEnv 7 [.p (.sc (.int .i64 103)), .p (.sc (.int .u32 A))] [] (pairI (clzN A) 0) [] := by
  refine does_of_tree names (refClz_tree A) ?_
  simp only [refClzTree, Tree.ok]
  refine ⟨bit_does (j := 31) hA (by omega), fun h0 => ?_, fun h0 => (by rw [(by simp [clzN, clzGo, tb1 (j := 31) h0] : clzN A = 0)]; rfl)⟩
  refine ⟨bit_does (j := 30) hA (by omega), fun h1 => ?_, fun h1 => (by rw [(by simp [clzN, clzGo, tb0 (j := 31) h0, tb1 (j := 30) h1] : clzN A = 1)]; rfl)⟩
  refine ⟨bit_does (j := 29) hA (by omega), fun h2 => ?_, fun h2 => (by rw [(by simp [clzN, clzGo, tb0 (j := 31) h0, tb0 (j := 30) h1, tb1 (j := 29) h2] : clzN A = 2)]; rfl)⟩
  refine ⟨bit_does (j := 28) hA (by omega), fun h3 => ?_, fun h3 => (by rw [(by simp [clzN, clzGo, tb0 (j := 31) h0, tb0 (j := 30) h1, tb0 (j := 29) h2, tb1 (j := 28) h3] : clzN A = 3)]; rfl)⟩
  refine ⟨bit_does (j := 27) hA (by omega), fun h4 => ?_, fun h4 => (by rw [(by simp [clzN, clzGo, tb0 (j := 31) h0, tb0 (j := 30) h1, tb0 (j := 29) h2, tb0 (j := 28) h3, tb1 (j := 27) h4] : clzN A = 4)]; rfl)⟩
  refine ⟨bit_does (j := 26) hA (by omega), fun h5 => ?_, fun h5 => (by rw [(by simp [clzN, clzGo, tb0 (j := 31) h0, tb0 (j := 30) h1, tb0 (j := 29) h2, tb0 (j := 28) h3, tb0 (j := 27) h4, tb1 (j := 26) h5] : clzN A = 5)]; rfl)⟩
  refine ⟨bit_does (j := 25) hA (by omega), fun h6 => ?_, fun h6 => (by rw [(by simp [clzN, clzGo, tb0 (j := 31) h0, tb0 (j := 30) h1, tb0 (j := 29) h2, tb0 (j := 28) h3, tb0 (j := 27) h4, tb0 (j := 26) h5, tb1 (j := 25) h6] : clzN A = 6)]; rfl)⟩
  refine ⟨bit_does (j := 24) hA (by omega), fun h7 => ?_, fun h7 => (by rw [(by simp [clzN, clzGo, tb0 (j := 31) h0, tb0 (j := 30) h1, tb0 (j := 29) h2, tb0 (j := 28) h3, tb0 (j := 27) h4, tb0 (j := 26) h5, tb0 (j := 25) h6, tb1 (j := 24) h7] : clzN A = 7)]; rfl)⟩
  refine ⟨bit_does (j := 23) hA (by omega), fun h8 => ?_, fun h8 => (by rw [(by simp [clzN, clzGo, tb0 (j := 31) h0, tb0 (j := 30) h1, tb0 (j := 29) h2, tb0 (j := 28) h3, tb0 (j := 27) h4, tb0 (j := 26) h5, tb0 (j := 25) h6, tb0 (j := 24) h7, tb1 (j := 23) h8] : clzN A = 8)]; rfl)⟩
  refine ⟨bit_does (j := 22) hA (by omega), fun h9 => ?_, fun h9 => (by rw [(by simp [clzN, clzGo, tb0 (j := 31) h0, tb0 (j := 30) h1, tb0 (j := 29) h2, tb0 (j := 28) h3, tb0 (j := 27) h4, tb0 (j := 26) h5, tb0 (j := 25) h6, tb0 (j := 24) h7, tb0 (j := 23) h8, tb1 (j := 22) h9] : clzN A = 9)]; rfl)⟩
  refine ⟨bit_does (j := 21) hA (by omega), fun h10 => ?_, fun h10 => (by rw [(by simp [clzN, clzGo, tb0 (j := 31) h0, tb0 (j := 30) h1, tb0 (j := 29) h2, tb0 (j := 28) h3, tb0 (j := 27) h4, tb0 (j := 26) h5, tb0 (j := 25) h6, tb0 (j := 24) h7, tb0 (j := 23) h8, tb0 (j := 22) h9, tb1 (j := 21) h10] : clzN A = 10)]; rfl)⟩
  refine ⟨bit_does (j := 20) hA (by omega), fun h11 => ?_, fun h11 => (by rw [(by simp [clzN, clzGo, tb0 (j := 31) h0, tb0 (j := 30) h1, tb0 (j := 29) h2, tb0 (j := 28) h3, tb0 (j := 27) h4, tb0 (j := 26) h5, tb0 (j := 25) h6, tb0 (j := 24) h7, tb0 (j := 23) h8, tb0 (j := 22) h9, tb0 (j := 21) h10, tb1 (j := 20) h11] : clzN A = 11)]; rfl)⟩
  refine ⟨bit_does (j := 19) hA (by omega), fun h12 => ?_, fun h12 => (by rw [(by simp [clzN, clzGo, tb0 (j := 31) h0, tb0 (j := 30) h1, tb0 (j := 29) h2, tb0 (j := 28) h3, tb0 (j := 27) h4, tb0 (j := 26) h5, tb0 (j := 25) h6, tb0 (j := 24) h7, tb0 (j := 23) h8, tb0 (j := 22) h9, tb0 (j := 21) h10, tb0 (j := 20) h11, tb1 (j := 19) h12] : clzN A = 12)]; rfl)⟩
  refine ⟨bit_does (j := 18) hA (by omega), fun h13 => ?_, fun h13 => (by rw [(by simp [clzN, clzGo, tb0 (j := 31) h0, tb0 (j := 30) h1, tb0 (j := 29) h2, tb0 (j := 28) h3, tb0 (j := 27) h4, tb0 (j := 26) h5, tb0 (j := 25) h6, tb0 (j := 24) h7, tb0 (j := 23) h8, tb0 (j := 22) h9, tb0 (j := 21) h10, tb0 (j := 20) h11, tb0 (j := 19) h12, tb1 (j := 18) h13] : clzN A = 13)]; rfl)⟩
  refine ⟨bit_does (j := 17) hA (by omega), fun h14 => ?_, fun h14 => (by rw [(by simp [clzN, clzGo, tb0 (j := 31) h0, tb0 (j := 30) h1, tb0 (j := 29) h2, tb0 (j := 28) h3, tb0 (j := 27) h4, tb0 (j := 26) h5, tb0 (j := 25) h6, tb0 (j := 24) h7, tb0 (j := 23) h8, tb0 (j := 22) h9, tb0 (j := 21) h10, tb0 (j := 20) h11, tb0 (j := 19) h12, tb0 (j := 18) h13, tb1 (j := 17) h14] : clzN A = 14)]; rfl)⟩
  refine ⟨bit_does (j := 16) hA (by omega), fun h15 => ?_, fun h15 => (by rw [(by simp [clzN, clzGo, tb0 (j := 31) h0, tb0 (j := 30) h1, tb0 (j := 29) h2, tb0 (j := 28) h3, tb0 (j := 27) h4, tb0 (j := 26) h5, tb0 (j := 25) h6, tb0 (j := 24) h7, tb0 (j := 23) h8, tb0 (j := 22) h9, tb0 (j := 21) h10, tb0 (j := 20) h11, tb0 (j := 19) h12, tb0 (j := 18) h13, tb0 (j := 17) h14, tb1 (j := 16) h15] : clzN A = 15)]; rfl)⟩
  refine ⟨bit_does (j := 15) hA (by omega), fun h16 => ?_, fun h16 => (by rw [(by simp [clzN, clzGo, tb0 (j := 31) h0, tb0 (j := 30) h1, tb0 (j := 29) h2, tb0 (j := 28) h3, tb0 (j := 27) h4, tb0 (j := 26) h5, tb0 (j := 25) h6, tb0 (j := 24) h7, tb0 (j := 23) h8, tb0 (j := 22) h9, tb0 (j := 21) h10, tb0 (j := 20) h11, tb0 (j := 19) h12, tb0 (j := 18) h13, tb0 (j := 17) h14, tb0 (j := 16) h15, tb1 (j := 15) h16] : clzN A = 16)]; rfl)⟩
  refine ⟨bit_does (j := 14) hA (by omega), fun h17 => ?_, fun h17 => (by rw [(by simp [clzN, clzGo, tb0 (j := 31) h0, tb0 (j := 30) h1, tb0 (j := 29) h2, tb0 (j := 28) h3, tb0 (j := 27) h4, tb0 (j := 26) h5, tb0 (j := 25) h6, tb0 (j := 24) h7, tb0 (j := 23) h8, tb0 (j := 22) h9, tb0 (j := 21) h10, tb0 (j := 20) h11, tb0 (j := 19) h12, tb0 (j := 18) h13, tb0 (j := 17) h14, tb0 (j := 16) h15, tb0 (j := 15) h16, tb1 (j := 14) h17] : clzN A = 17)]; rfl)⟩
  refine ⟨bit_does (j := 13) hA (by omega), fun h18 => ?_, fun h18 => (by rw [(by simp [clzN, clzGo, tb0 (j := 31) h0, tb0 (j := 30) h1, tb0 (j := 29) h2, tb0 (j := 28) h3, tb0 (j := 27) h4, tb0 (j := 26) h5, tb0 (j := 25) h6, tb0 (j := 24) h7, tb0 (j := 23) h8, tb0 (j := 22) h9, tb0 (j := 21) h10, tb0 (j := 20) h11, tb0 (j := 19) h12, tb0 (j := 18) h13, tb0 (j := 17) h14, tb0 (j := 16) h15, tb0 (j := 15) h16, tb0 (j := 14) h17, tb1 (j := 13) h18] : clzN A = 18)]; rfl)⟩
  refine ⟨bit_does (j := 12) hA (by omega), fun h19 => ?_, fun h19 => (by rw [(by simp [clzN, clzGo, tb0 (j := 31) h0, tb0 (j := 30) h1, tb0 (j := 29) h2, tb0 (j := 28) h3, tb0 (j := 27) h4, tb0 (j := 26) h5, tb0 (j := 25) h6, tb0 (j := 24) h7, tb0 (j := 23) h8, tb0 (j := 22) h9, tb0 (j := 21) h10, tb0 (j := 20) h11, tb0 (j := 19) h12, tb0 (j := 18) h13, tb0 (j := 17) h14, tb0 (j := 16) h15, tb0 (j := 15) h16, tb0 (j := 14) h17, tb0 (j := 13) h18, tb1 (j := 12) h19] : clzN A = 19)]; rfl)⟩
  refine ⟨bit_does (j := 11) hA (by omega), fun h20 => ?_, fun h20 => (by rw [(by simp [clzN, clzGo, tb0 (j := 31) h0, tb0 (j := 30) h1, tb0 (j := 29) h2, tb0 (j := 28) h3, tb0 (j := 27) h4, tb0 (j := 26) h5, tb0 (j := 25) h6, tb0 (j := 24) h7, tb0 (j := 23) h8, tb0 (j := 22) h9, tb0 (j := 21) h10, tb0 (j := 20) h11, tb0 (j := 19) h12, tb0 (j := 18) h13, tb0 (j := 17) h14, tb0 (j := 16) h15, tb0 (j := 15) h16, tb0 (j := 14) h17, tb0 (j := 13) h18, tb0 (j := 12) h19, tb1 (j := 11) h20] : clzN A = 20)]; rfl)⟩
  refine ⟨bit_does (j := 10) hA (by omega), fun h21 => ?_, fun h21 => (by rw [(by simp [clzN, clzGo, tb0 (j := 31) h0, tb0 (j := 30) h1, tb0 (j := 29) h2, tb0 (j := 28) h3, tb0 (j := 27) h4, tb0 (j := 26) h5, tb0 (j := 25) h6, tb0 (j := 24) h7, tb0 (j := 23) h8, tb0 (j := 22) h9, tb0 (j := 21) h10, tb0 (j := 20) h11, tb0 (j := 19) h12, tb0 (j := 18) h13, tb0 (j := 17) h14, tb0 (j := 16) h15, tb0 (j := 15) h16, tb0 (j := 14) h17, tb0 (j := 13) h18, tb0 (j := 12) h19, tb0 (j := 11) h20, tb1 (j := 10) h21] : clzN A = 21)]; rfl)⟩
  refine ⟨bit_does (j := 9) hA (by omega), fun h22 => ?_, fun h22 => (by rw [(by simp [clzN, clzGo, tb0 (j := 31) h0, tb0 (j := 30) h1, tb0 (j := 29) h2, tb0 (j := 28) h3, tb0 (j := 27) h4, tb0 (j := 26) h5, tb0 (j := 25) h6, tb0 (j := 24) h7, tb0 (j := 23) h8, tb0 (j := 22) h9, tb0 (j := 21) h10, tb0 (j := 20) h11, tb0 (j := 19) h12, tb0 (j := 18) h13, tb0 (j := 17) h14, tb0 (j := 16) h15, tb0 (j := 15) h16, tb0 (j := 14) h17, tb0 (j := 13) h18, tb0 (j := 12) h19, tb0 (j := 11) h20, tb0 (j := 10) h21, tb1 (j := 9) h22] : clzN A = 22)]; rfl)⟩
  refine ⟨bit_does (j := 8) hA (by omega), fun h23 => ?_, fun h23 => (by rw [(by simp [clzN, clzGo, tb0 (j := 31) h0, tb0 (j := 30) h1, tb0 (j := 29) h2, tb0 (j := 28) h3, tb0 (j := 27) h4, tb0 (j := 26) h5, tb0 (j := 25) h6, tb0 (j := 24) h7, tb0 (j := 23) h8, tb0 (j := 22) h9, tb0 (j := 21) h10, tb0 (j := 20) h11, tb0 (j := 19) h12, tb0 (j := 18) h13, tb0 (j := 17) h14, tb0 (j := 16) h15, tb0 (j := 15) h16, tb0 (j := 14) h17, tb0 (j := 13) h18, tb0 (j := 12) h19, tb0 (j := 11) h20, tb0 (j := 10) h21, tb0 (j := 9) h22, tb1 (j := 8) h23] : clzN A = 23)]; rfl)⟩
  refine ⟨bit_does (j := 7) hA (by omega), fun h24 => ?_, fun h24 => (by rw [(by simp [clzN, clzGo, tb0 (j := 31) h0, tb0 (j := 30) h1, tb0 (j := 29) h2, tb0 (j := 28) h3, tb0 (j := 27) h4, tb0 (j := 26) h5, tb0 (j := 25) h6, tb0 (j := 24) h7, tb0 (j := 23) h8, tb0 (j := 22) h9, tb0 (j := 21) h10, tb0 (j := 20) h11, tb0 (j := 19) h12, tb0 (j := 18) h13, tb0 (j := 17) h14, tb0 (j := 16) h15, tb0 (j := 15) h16, tb0 (j := 14) h17, tb0 (j := 13) h18, tb0 (j := 12) h19, tb0 (j := 11) h20, tb0 (j := 10) h21, tb0 (j := 9) h22, tb0 (j := 8) h23, tb1 (j := 7) h24] : clzN A = 24)]; rfl)⟩
  refine ⟨bit_does (j := 6) hA (by omega), fun h25 => ?_, fun h25 => (by rw [(by simp [clzN, clzGo, tb0 (j := 31) h0, tb0 (j := 30) h1, tb0 (j := 29) h2, tb0 (j := 28) h3, tb0 (j := 27) h4, tb0 (j := 26) h5, tb0 (j := 25) h6, tb0 (j := 24) h7, tb0 (j := 23) h8, tb0 (j := 22) h9, tb0 (j := 21) h10, tb0 (j := 20) h11, tb0 (j := 19) h12, tb0 (j := 18) h13, tb0 (j := 17) h14, tb0 (j := 16) h15, tb0 (j := 15) h16, tb0 (j := 14) h17, tb0 (j := 13) h18, tb0 (j := 12) h19, tb0 (j := 11) h20, tb0 (j := 10) h21, tb0 (j := 9) h22, tb0 (j := 8) h23, tb0 (j := 7) h24, tb1 (j := 6) h25] : clzN A = 25)]; rfl)⟩
  refine ⟨bit_does (j := 5) hA (by omega), fun h26 => ?_, fun h26 => (by rw [(by simp [clzN, clzGo, tb0 (j := 31) h0, tb0 (j := 30) h1, tb0 (j := 29) h2, tb0 (j := 28) h3, tb0 (j := 27) h4, tb0 (j := 26) h5, tb0 (j := 25) h6, tb0 (j := 24) h7, tb0 (j := 23) h8, tb0 (j := 22) h9, tb0 (j := 21) h10, tb0 (j := 20) h11, tb0 (j := 19) h12, tb0 (j := 18) h13, tb0 (j := 17) h14, tb0 (j := 16) h15, tb0 (j := 15) h16, tb0 (j := 14) h17, tb0 (j := 13) h18, tb0 (j := 12) h19, tb0 (j := 11) h20, tb0 (j := 10) h21, tb0 (j := 9) h22, tb0 (j := 8) h23, tb0 (j := 7) h24, tb0 (j := 6) h25, tb1 (j := 5) h26] : clzN A = 26)]; rfl)⟩
  refine ⟨bit_does (j := 4) hA (by omega), fun h27 => ?_, fun h27 => (by rw [(by simp [clzN, clzGo, tb0 (j := 31) h0, tb0 (j := 30) h1, tb0 (j := 29) h2, tb0 (j := 28) h3, tb0 (j := 27) h4, tb0 (j := 26) h5, tb0 (j := 25) h6, tb0 (j := 24) h7, tb0 (j := 23) h8, tb0 (j := 22) h9, tb0 (j := 21) h10, tb0 (j := 20) h11, tb0 (j := 19) h12, tb0 (j := 18) h13, tb0 (j := 17) h14, tb0 (j := 16) h15, tb0 (j := 15) h16, tb0 (j := 14) h17, tb0 (j := 13) h18, tb0 (j := 12) h19, tb0 (j := 11) h20, tb0 (j := 10) h21, tb0 (j := 9) h22, tb0 (j := 8) h23, tb0 (j := 7) h24, tb0 (j := 6) h25, tb0 (j := 5) h26, tb1 (j := 4) h27] : clzN A = 27)]; rfl)⟩
  refine ⟨bit_does (j := 3) hA (by omega), fun h28 => ?_, fun h28 => (by rw [(by simp [clzN, clzGo, tb0 (j := 31) h0, tb0 (j := 30) h1, tb0 (j := 29) h2, tb0 (j := 28) h3, tb0 (j := 27) h4, tb0 (j := 26) h5, tb0 (j := 25) h6, tb0 (j := 24) h7, tb0 (j := 23) h8, tb0 (j := 22) h9, tb0 (j := 21) h10, tb0 (j := 20) h11, tb0 (j := 19) h12, tb0 (j := 18) h13, tb0 (j := 17) h14, tb0 (j := 16) h15, tb0 (j := 15) h16, tb0 (j := 14) h17, tb0 (j := 13) h18, tb0 (j := 12) h19, tb0 (j := 11) h20, tb0 (j := 10) h21, tb0 (j := 9) h22, tb0 (j := 8) h23, tb0 (j := 7) h24, tb0 (j := 6) h25, tb0 (j := 5) h26, tb0 (j := 4) h27, tb1 (j := 3) h28] : clzN A = 28)]; rfl)⟩
  refine ⟨bit_does (j := 2) hA (by omega), fun h29 => ?_, fun h29 => (by rw [(by simp [clzN, clzGo, tb0 (j := 31) h0, tb0 (j := 30) h1, tb0 (j := 29) h2, tb0 (j := 28) h3, tb0 (j := 27) h4, tb0 (j := 26) h5, tb0 (j := 25) h6, tb0 (j := 24) h7, tb0 (j := 23) h8, tb0 (j := 22) h9, tb0 (j := 21) h10, tb0 (j := 20) h11, tb0 (j := 19) h12, tb0 (j := 18) h13, tb0 (j := 17) h14, tb0 (j := 16) h15, tb0 (j := 15) h16, tb0 (j := 14) h17, tb0 (j := 13) h18, tb0 (j := 12) h19, tb0 (j := 11) h20, tb0 (j := 10) h21, tb0 (j := 9) h22, tb0 (j := 8) h23, tb0 (j := 7) h24, tb0 (j := 6) h25, tb0 (j := 5) h26, tb0 (j := 4) h27, tb0 (j := 3) h28, tb1 (j := 2) h29] : clzN A = 29)]; rfl)⟩
  refine ⟨bit_does (j := 1) hA (by omega), fun h30 => ?_, fun h30 => (by rw [(by simp [clzN, clzGo, tb0 (j := 31) h0, tb0 (j := 30) h1, tb0 (j := 29) h2, tb0 (j := 28) h3, tb0 (j := 27) h4, tb0 (j := 26) h5, tb0 (j := 25) h6, tb0 (j := 24) h7, tb0 (j := 23) h8, tb0 (j := 22) h9, tb0 (j := 21) h10, tb0 (j := 20) h11, tb0 (j := 19) h12, tb0 (j := 18) h13, tb0 (j := 17) h14, tb0 (j := 16) h15, tb0 (j := 15) h16, tb0 (j := 14) h17, tb0 (j := 13) h18, tb0 (j := 12) h19, tb0 (j := 11) h20, tb0 (j := 10) h21, tb0 (j := 9) h22, tb0 (j := 8) h23, tb0 (j := 7) h24, tb0 (j := 6) h25, tb0 (j := 5) h26, tb0 (j := 4) h27, tb0 (j := 3) h28, tb0 (j := 2) h29, tb1 (j := 1) h30] : clzN A = 30)]; rfl)⟩
  refine ⟨bit_does (j := 0) hA (by omega), fun h31 => ?_, fun h31 => (by rw [(by simp [clzN, clzGo, tb0 (j := 31) h0, tb0 (j := 30) h1, tb0 (j := 29) h2, tb0 (j := 28) h3, tb0 (j := 27) h4, tb0 (j := 26) h5, tb0 (j := 25) h6, tb0 (j := 24) h7, tb0 (j := 23) h8, tb0 (j := 22) h9, tb0 (j := 21) h10, tb0 (j := 20) h11, tb0 (j := 19) h12, tb0 (j := 18) h13, tb0 (j := 17) h14, tb0 (j := 16) h15, tb0 (j := 15) h16, tb0 (j := 14) h17, tb0 (j := 13) h18, tb0 (j := 12) h19, tb0 (j := 11) h20, tb0 (j := 10) h21, tb0 (j := 9) h22, tb0 (j := 8) h23, tb0 (j := 7) h24, tb0 (j := 6) h25, tb0 (j := 5) h26, tb0 (j := 4) h27, tb0 (j := 3) h28, tb0 (j := 2) h29, tb0 (j := 1) h30, tb1 (j := 0) h31] : clzN A = 31)]; rfl)⟩
  exact (by rw [(by simp [clzN, clzGo, tb0 (j := 31) h0, tb0 (j := 30) h1, tb0 (j := 29) h2, tb0 (j := 28) h3, tb0 (j := 27) h4, tb0 (j := 26) h5, tb0 (j := 25) h6, tb0 (j := 24) h7, tb0 (j := 23) h8, tb0 (j := 22) h9, tb0 (j := 21) h10, tb0 (j := 20) h11, tb0 (j := 19) h12, tb0 (j := 18) h13, tb0 (j := 17) h14, tb0 (j := 16) h15, tb0 (j := 15) h16, tb0 (j := 14) h17, tb0 (j := 13) h18, tb0 (j := 12) h19, tb0 (j := 11) h20, tb0 (j := 10) h21, tb0 (j := 9) h22, tb0 (j := 8) h23, tb0 (j := 7) h24, tb0 (j := 6) h25, tb0 (j := 5) h26, tb0 (j := 4) h27, tb0 (j := 3) h28, tb0 (j := 2) h29, tb0 (j := 1) h30, tb0 (j := 0) h31] : clzN A = 32)]; rfl)

theorem refCtz_does {A : Nat} (hA : A < 4294967296) : Does Tryd.prog tabEnv 7 [.p (.sc (.int .i64 104)), .p (.sc (.int .u32 A))] [] (pairI (ctzN A) 0) [] := by
  refine does_of_tree names (refCtz_tree A) ?_
  simp only [refCtzTree, Tree.ok]
  refine ⟨bit_does (j := 0) hA (by omega), fun h0 => ?_, fun h0 => (by rw [(by simp [ctzN, ctzGo, tb1 (j := 0) h0] : ctzN A = 0)]; rfl)⟩
  refine ⟨bit_does (j := 1) hA (by omega), fun h1 => ?_, fun h1 => (by rw [(by simp [ctzN, ctzGo, tb0 (j := 0) h0, tb1 (j := 1) h1] : ctzN A = 1)]; rfl)⟩
  refine ⟨bit_does (j := 2) hA (by omega), fun h2 => ?_, fun h2 => (by rw [(by simp [ctzN, ctzGo, tb0 (j := 0) h0, tb0 (j := 1) h1, tb1 (j := 2) h2] : ctzN A = 2)]; rfl)⟩
  refine ⟨bit_does (j := 3) hA (by omega), fun h3 => ?_, fun h3 => (by rw [(by simp [ctzN, ctzGo, tb0 (j := 0) h0, tb0 (j := 1) h1, tb0 (j := 2) h2, tb1 (j := 3) h3] : ctzN A = 3)]; rfl)⟩
  refine ⟨bit_does (j := 4) hA (by omega), fun h4 => ?_, fun h4 => (by rw [(by simp [ctzN, ctzGo, tb0 (j := 0) h0, tb0 (j := 1) h1, tb0 (j := 2) h2, tb0 (j := 3) h3, tb1 (j := 4) h4] : ctzN A = 4)]; rfl)⟩
  refine ⟨bit_does (j := 5) hA (by omega), fun h5 => ?_, fun h5 => (by rw [(by simp [ctzN, ctzGo, tb0 (j := 0) h0, tb0 (j := 1) h1, tb0 (j := 2) h2, tb0 (j := 3) h3, tb0 (j := 4) h4, tb1 (j := 5) h5] : ctzN A = 5)]; rfl)⟩
  refine ⟨bit_does (j := 6) hA (by omega), fun h6 => ?_, fun h6 => (by rw [(by simp [ctzN, ctzGo, tb0 (j := 0) h0, tb0 (j := 1) h1, tb0 (j := 2) h2, tb0 (j := 3) h3, tb0 (j := 4) h4, tb0 (j := 5) h5, tb1 (j := 6) h6] : ctzN A = 6)]; rfl)⟩
  refine ⟨bit_does (j := 7) hA (by omega), fun h7 => ?_, fun h7 => (by rw [(by simp [ctzN, ctzGo, tb0 (j := 0) h0, tb0 (j := 1) h1, tb0 (j := 2) h2, tb0 (j := 3) h3, tb0 (j := 4) h4, tb0 (j := 5) h5, tb0 (j := 6) h6, tb1 (j := 7) h7] : ctzN A = 7)]; rfl)⟩
  refine ⟨bit_does (j := 8) hA (by omega), fun h8 => ?_, fun h8 => (by rw [(by simp [ctzN, ctzGo, tb0 (j := 0) h0, tb0 (j := 1) h1, tb0 (j := 2) h2, tb0 (j := 3) h3, tb0 (j := 4) h4, tb0 (j := 5) h5, tb0 (j := 6) h6, tb0 (j := 7) h7, tb1 (j := 8) h8] : ctzN A = 8)]; rfl)⟩
  refine ⟨bit_does (j := 9) hA (by omega), fun h9 => ?_, fun h9 => (by rw [(by simp [ctzN, ctzGo, tb0 (j := 0) h0, tb0 (j := 1) h1, tb0 (j := 2) h2, tb0 (j := 3) h3, tb0 (j := 4) h4, tb0 (j := 5) h5, tb0 (j := 6) h6, tb0 (j := 7) h7, tb0 (j := 8) h8, tb1 (j := 9) h9] : ctzN A = 9)]; rfl)⟩
  refine ⟨bit_does (j := 10) hA (by omega), fun h10 => ?_, fun h10 => (by rw [(by simp [ctzN, ctzGo, tb0 (j := 0) h0, tb0 (j := 1) h1, tb0 (j := 2) h2, tb0 (j := 3) h3, tb0 (j := 4) h4, tb0 (j := 5) h5, tb0 (j := 6) h6, tb0 (j := 7) h7, tb0 (j := 8) h8, tb0 (j := 9) h9, tb1 (j := 10) h10] : ctzN A = 10)]; rfl)⟩
  refine ⟨bit_does (j := 11) hA (by omega), fun h11 => ?_, fun h11 => (by rw [(by simp [ctzN, ctzGo, tb0 (j := 0) h0, tb0 (j := 1) h1, tb0 (j := 2) h2, tb0 (j := 3) h3, tb0 (j := 4) h4, tb0 (j := 5) h5, tb0 (j := 6) h6, tb0 (j := 7) h7, tb0 (j := 8) h8, tb0 (j := 9) h9, tb0 (j := 10) h10, tb1 (j := 11) h11] : ctzN A = 11)]; rfl)⟩
  refine ⟨bit_does (j := 12) hA (by omega), fun h12 => ?_, fun h12 => (by rw [(by simp [ctzN, ctzGo, tb0 (j := 0) h0, tb0 (j := 1) h1, tb0 (j := 2) h2, tb0 (j := 3) h3, tb0 (j := 4) h4, tb0 (j := 5) h5, tb0 (j := 6) h6, tb0 (j := 7) h7, tb0 (j := 8) h8, tb0 (j := 9) h9, tb0 (j := 10) h10, tb0 (j := 11) h11, tb1 (j := 12) h12] : ctzN A = 12)]; rfl)⟩
  refine ⟨bit_does (j := 13) hA (by omega), fun h13 => ?_, fun h13 => (by rw [(by simp [ctzN, ctzGo, tb0 (j := 0) h0, tb0 (j := 1) h1, tb0 (j := 2) h2, tb0 (j := 3) h3, tb0 (j := 4) h4, tb0 (j := 5) h5, tb0 (j := 6) h6, tb0 (j := 7) h7, tb0 (j := 8) h8, tb0 (j := 9) h9, tb0 (j := 10) h10, tb0 (j := 11) h11, tb0 (j := 12) h12, tb1 (j := 13) h13] : ctzN A = 13)]; rfl)⟩
  refine ⟨bit_does (j := 14) hA (by omega), fun h14 => ?_, fun h14 => (by rw [(by simp [ctzN, ctzGo, tb0 (j := 0) h0, tb0 (j := 1) h1, tb0 (j := 2) h2, tb0 (j := 3) h3, tb0 (j := 4) h4, tb0 (j := 5) h5, tb0 (j := 6) h6, tb0 (j := 7) h7, tb0 (j := 8) h8, tb0 (j := 9) h9, tb0 (j := 10) h10, tb0 (j := 11) h11, tb0 (j := 12) h12, tb0 (j := 13) h13, tb1 (j := 14) h14] : ctzN A = 14)]; rfl)⟩
  refine ⟨bit_does (j := 15) hA (by omega), fun h15 => ?_, fun h15 => (by rw [(by simp [ctzN, ctzGo, tb0 (j := 0) h0, tb0 (j := 1) h1, tb0 (j := 2) h2, tb0 (j := 3) h3, tb0 (j := 4) h4, tb0 (j := 5) h5, tb0 (j := 6) h6, tb0 (j := 7) h7, tb0 (j := 8) h8, tb0 (j := 9) h9, tb0 (j := 10) h10, tb0 (j := 11) h11, tb0 (j := 12) h12, tb0 (j := 13) h13, tb0 (j := 14) h14, tb1 (j := 15) h15] : ctzN A = 15)]; rfl)⟩
  refine ⟨bit_does (j := 16) hA (by omega), fun h16 => ?_, fun h16 => (by rw [(by simp [ctzN, ctzGo, tb0 (j := 0) h0, tb0 (j := 1) h1, tb0 (j := 2) h2, tb0 (j := 3) h3, tb0 (j := 4) h4, tb0 (j := 5) h5, tb0 (j := 6) h6, tb0 (j := 7) h7, tb0 (j := 8) h8, tb0 (j := 9) h9, tb0 (j := 10) h10, tb0 (j := 11) h11, tb0 (j := 12) h12, tb0 (j := 13) h13, tb0 (j := 14) h14, tb0 (j := 15) h15, tb1 (j := 16) h16] : ctzN A = 16)]; rfl)⟩
  refine ⟨bit_does (j := 17) hA (by omega), fun h17 => ?_, fun h17 => (by rw [(by simp [ctzN, ctzGo, tb0 (j := 0) h0, tb0 (j := 1) h1, tb0 (j := 2) h2, tb0 (j := 3) h3, tb0 (j := 4) h4, tb0 (j := 5) h5, tb0 (j := 6) h6, tb0 (j := 7) h7, tb0 (j := 8) h8, tb0 (j := 9) h9, tb0 (j := 10) h10, tb0 (j := 11) h11, tb0 (j := 12) h12, tb0 (j := 13) h13, tb0 (j := 14) h14, tb0 (j := 15) h15, tb0 (j := 16) h16, tb1 (j := 17) h17] : ctzN A = 17)]; rfl)⟩
  refine ⟨bit_does (j := 18) hA (by omega), fun h18 => ?_, fun h18 => (by rw [(by simp [ctzN, ctzGo, tb0 (j := 0) h0, tb0 (j := 1) h1, tb0 (j := 2) h2, tb0 (j := 3) h3, tb0 (j := 4) h4, tb0 (j := 5) h5, tb0 (j := 6) h6, tb0 (j := 7) h7, tb0 (j := 8) h8, tb0 (j := 9) h9, tb0 (j := 10) h10, tb0 (j := 11) h11, tb0 (j := 12) h12, tb0 (j := 13) h13, tb0 (j := 14) h14, tb0 (j := 15) h15, tb0 (j := 16) h16, tb0 (j := 17) h17, tb1 (j := 18) h18] : ctzN A = 18)]; rfl)⟩
  refine ⟨bit_does (j := 19) hA (by omega), fun h19 => ?_, fun h19 => (by rw [(by simp [ctzN, ctzGo, tb0 (j := 0) h0, tb0 (j := 1) h1, tb0 (j := 2) h2, tb0 (j := 3) h3, tb0 (j := 4) h4, tb0 (j := 5) h5, tb0 (j := 6) h6, tb0 (j := 7) h7, tb0 (j := 8) h8, tb0 (j := 9) h9, tb0 (j := 10) h10, tb0 (j := 11) h11, tb0 (j := 12) h12, tb0 (j := 13) h13, tb0 (j := 14) h14, tb0 (j := 15) h15, tb0 (j := 16) h16, tb0 (j := 17) h17, tb0 (j := 18) h18, tb1 (j := 19) h19] : ctzN A = 19)]; rfl)⟩
  refine ⟨bit_does (j := 20) hA (by omega), fun h20 => ?_, fun h20 => (by rw [(by simp [ctzN, ctzGo, tb0 (j := 0) h0, tb0 (j := 1) h1, tb0 (j := 2) h2, tb0 (j := 3) h3, tb0 (j := 4) h4, tb0 (j := 5) h5, tb0 (j := 6) h6, tb0 (j := 7) h7, tb0 (j := 8) h8, tb0 (j := 9) h9, tb0 (j := 10) h10, tb0 (j := 11) h11, tb0 (j := 12) h12, tb0 (j := 13) h13, tb0 (j := 14) h14, tb0 (j := 15) h15, tb0 (j := 16) h16, tb0 (j := 17) h17, tb0 (j := 18) h18, tb0 (j := 19) h19, tb1 (j := 20) h20] : ctzN A = 20)]; rfl)⟩
  refine ⟨bit_does (j := 21) hA (by omega), fun h21 => ?_, fun h21 => (by rw [(by simp [ctzN, ctzGo, tb0 (j := 0) h0, tb0 (j := 1) h1, tb0 (j := 2) h2, tb0 (j := 3) h3, tb0 (j := 4) h4, tb0 (j := 5) h5, tb0 (j := 6) h6, tb0 (j := 7) h7, tb0 (j := 8) h8, tb0 (j := 9) h9, tb0 (j := 10) h10, tb0 (j := 11) h11, tb0 (j := 12) h12, tb0 (j := 13) h13, tb0 (j := 14) h14, tb0 (j := 15) h15, tb0 (j := 16) h16, tb0 (j := 17) h17, tb0 (j := 18) h18, tb0 (j := 19) h19, tb0 (j := 20) h20, tb1 (j := 21) h21] : ctzN A = 21)]; rfl)⟩
  refine ⟨bit_does (j := 22) hA (by omega), fun h22 => ?_, fun h22 => (by rw [(by simp [ctzN, ctzGo, tb0 (j := 0) h0, tb0 (j := 1) h1, tb0 (j := 2) h2, tb0 (j := 3) h3, tb0 (j := 4) h4, tb0 (j := 5) h5, tb0 (j := 6) h6, tb0 (j := 7) h7, tb0 (j := 8) h8, tb0 (j := 9) h9, tb0 (j := 10) h10, tb0 (j := 11) h11, tb0 (j := 12) h12, tb0 (j := 13) h13, tb0 (j := 14) h14, tb0 (j := 15) h15, tb0 (j := 16) h16, tb0 (j := 17) h17, tb0 (j := 18) h18, tb0 (j := 19) h19, tb0 (j := 20) h20, tb0 (j := 21) h21, tb1 (j := 22) h22] : ctzN A = 22)]; rfl)⟩
  refine ⟨bit_does (j := 23) hA (by omega), fun h23 => ?_, fun h23 => (by rw [(by simp [ctzN, ctzGo, tb0 (j := 0) h0, tb0 (j := 1) h1, tb0 (j := 2) h2, tb0 (j := 3) h3, tb0 (j := 4) h4, tb0 (j := 5) h5, tb0 (j := 6) h6, tb0 (j := 7) h7, tb0 (j := 8) h8, tb0 (j := 9) h9, tb0 (j := 10) h10, tb0 (j := 11) h11, tb0 (j := 12) h12, tb0 (j := 13) h13, tb0 (j := 14) h14, tb0 (j := 15) h15, tb0 (j := 16) h16, tb0 (j := 17) h17, tb0 (j := 18) h18, tb0 (j := 19) h19, tb0 (j := 20) h20, tb0 (j := 21) h21, tb0 (j := 22) h22, tb1 (j := 23) h23] : ctzN A = 23)]; rfl)⟩
  refine ⟨bit_does (j := 24) hA (by omega), fun h24 => ?_, fun h24 => (by rw [(by simp [ctzN, ctzGo, tb0 (j := 0) h0, tb0 (j := 1) h1, tb0 (j := 2) h2, tb0 (j := 3) h3, tb0 (j := 4) h4, tb0 (j := 5) h5, tb0 (j := 6) h6, tb0 (j := 7) h7, tb0 (j := 8) h8, tb0 (j := 9) h9, tb0 (j := 10) h10, tb0 (j := 11) h11, tb0 (j := 12) h12, tb0 (j := 13) h13, tb0 (j := 14) h14, tb0 (j := 15) h15, tb0 (j := 16) h16, tb0 (j := 17) h17, tb0 (j := 18) h18, tb0 (j := 19) h19, tb0 (j := 20) h20, tb0 (j := 21) h21, tb0 (j := 22) h22, tb0 (j := 23) h23, tb1 (j := 24) h24] : ctzN A = 24)]; rfl)⟩
  refine ⟨bit_does (j := 25) hA (by omega), fun h25 => ?_, fun h25 => (by rw [(by simp [ctzN, ctzGo, tb0 (j := 0) h0, tb0 (j := 1) h1, tb0 (j := 2) h2, tb0 (j := 3) h3, tb0 (j := 4) h4, tb0 (j := 5) h5, tb0 (j := 6) h6, tb0 (j := 7) h7, tb0 (j := 8) h8, tb0 (j := 9) h9, tb0 (j := 10) h10, tb0 (j := 11) h11, tb0 (j := 12) h12, tb0 (j := 13) h13, tb0 (j := 14) h14, tb0 (j := 15) h15, tb0 (j := 16) h16, tb0 (j := 17) h17, tb0 (j := 18) h18, tb0 (j := 19) h19, tb0 (j := 20) h20, tb0 (j := 21) h21, tb0 (j := 22) h22, tb0 (j := 23) h23, tb0 (j := 24) h24, tb1 (j := 25) h25] : ctzN A = 25)]; rfl)⟩
  refine ⟨bit_does (j := 26) hA (by omega), fun h26 => ?_, fun h26 => (by rw [(by simp [ctzN, ctzGo, tb0 (j := 0) h0, tb0 (j := 1) h1, tb0 (j := 2) h2, tb0 (j := 3) h3, tb0 (j := 4) h4, tb0 (j := 5) h5, tb0 (j := 6) h6, tb0 (j := 7) h7, tb0 (j := 8) h8, tb0 (j := 9) h9, tb0 (j := 10) h10, tb0 (j := 11) h11, tb0 (j := 12) h12, tb0 (j := 13) h13, tb0 (j := 14) h14, tb0 (j := 15) h15, tb0 (j := 16) h16, tb0 (j := 17) h17, tb0 (j := 18) h18, tb0 (j := 19) h19, tb0 (j := 20) h20, tb0 (j := 21) h21, tb0 (j := 22) h22, tb0 (j := 23) h23, tb0 (j := 24) h24, tb0 (j := 25) h25, tb1 (j := 26) h26] : ctzN A = 26)]; rfl)⟩
  refine ⟨bit_does (j := 27) hA (by omega), fun h27 => ?_, fun h27 => (by rw [(by simp [ctzN, ctzGo, tb0 (j := 0) h0, tb0 (j := 1) h1, tb0 (j := 2) h2, tb0 (j := 3) h3, tb0 (j := 4) h4, tb0 (j := 5) h5, tb0 (j := 6) h6, tb0 (j := 7) h7, tb0 (j := 8) h8, tb0 (j := 9) h9, tb0 (j := 10) h10, tb0 (j := 11) h11, tb0 (j := 12) h12, tb0 (j := 13) h13, tb0 (j := 14) h14, tb0 (j := 15) h15, tb0 (j := 16) h16, tb0 (j := 17) h17, tb0 (j := 18) h18, tb0 (j := 19) h19, tb0 (j := 20) h20, tb0 (j := 21) h21, tb0 (j := 22) h22, tb0 (j := 23) h23, tb0 (j := 24) h24, tb0 (j := 25) h25, tb0 (j := 26) h26, tb1 (j := 27) h27] : ctzN A = 27)]; rfl)⟩
  refine ⟨bit_does (j := 28) hA (by omega), fun h28 => ?_, fun h28 => (by rw [(by simp [ctzN, ctzGo, tb0 (j := 0) h0, tb0 (j := 1) h1, tb0 (j := 2) h2, tb0 (j := 3) h3, tb0 (j := 4) h4, tb0 (j := 5) h5, tb0 (j := 6) h6, tb0 (j := 7) h7, tb0 (j := 8) h8, tb0 (j := 9) h9, tb0 (j := 10) h10, tb0 (j := 11) h11, tb0 (j := 12) h12, tb0 (j := 13) h13, tb0 (j := 14) h14, tb0 (j := 15) h15, tb0 (j := 16) h16, tb0 (j := 17) h17, tb0 (j := 18) h18, tb0 (j := 19) h19, tb0 (j := 20) h20, tb0 (j := 21) h21, tb0 (j := 22) h22, tb0 (j := 23) h23, tb0 (j := 24) h24, tb0 (j := 25) h25, tb0 (j := 26) h26, tb0 (j := 27) h27, tb1 (j := 28) h28] : ctzN A = 28)]; rfl)⟩
  refine ⟨bit_does (j := 29) hA (by omega), fun h29 => ?_, fun h29 => (by rw [(by simp [ctzN, ctzGo, tb0 (j := 0) h0, tb0 (j := 1) h1, tb0 (j := 2) h2, tb0 (j := 3) h3, tb0 (j := 4) h4, tb0 (j := 5) h5, tb0 (j := 6) h6, tb0 (j := 7) h7, tb0 (j := 8) h8, tb0 (j := 9) h9, tb0 (j := 10) h10, tb0 (j := 11) h11, tb0 (j := 12) h12, tb0 (j := 13) h13, tb0 (j := 14) h14, tb0 (j := 15) h15, tb0 (j := 16) h16, tb0 (j := 17) h17, tb0 (j := 18) h18, tb0 (j := 19) h19, tb0 (j := 20) h20, tb0 (j := 21) h21, tb0 (j := 22) h22, tb0 (j := 23) h23, tb0 (j := 24) h24, tb0 (j := 25) h25, tb0 (j := 26) h26, tb0 (j := 27) h27, tb0 (j := 28) h28, tb1 (j := 29) h29] : ctzN A = 29)]; rfl)⟩
  refine ⟨bit_does (j := 30) hA (by omega), fun h30 => ?_, fun h30 => (by rw [(by simp [ctzN, ctzGo, tb0 (j := 0) h0, tb0 (j := 1) h1, tb0 (j := 2) h2, tb0 (j := 3) h3, tb0 (j := 4) h4, tb0 (j := 5) h5, tb0 (j := 6) h6, tb0 (j := 7) h7, tb0 (j := 8) h8, tb0 (j := 9) h9, tb0 (j := 10) h10, tb0 (j := 11) h11, tb0 (j := 12) h12, tb0 (j := 13) h13, tb0 (j := 14) h14, tb0 (j := 15) h15, tb0 (j := 16) h16, tb0 (j := 17) h17, tb0 (j := 18) h18, tb0 (j := 19) h19, tb0 (j := 20) h20, tb0 (j := 21) h21, tb0 (j := 22) h22, tb0 (j := 23) h23, tb0 (j := 24) h24, tb0 (j := 25) h25, tb0 (j := 26) h26, tb0 (j := 27) h27, tb0 (j := 28) h28, tb0 (j := 29) h29, tb1 (j := 30) h30] : ctzN A = 30)]; rfl)⟩
  refine ⟨bit_does (j := 31) hA (by omega), fun h31 => ?_, fun h31 => (by rw [(by simp [ctzN, ctzGo, tb0 (j := 0) h0, tb0 (j := 1) h1, tb0 (j := 2) h2, tb0 (j := 3) h3, tb0 (j := 4) h4, tb0 (j := 5) h5, tb0 (j := 6) h6, tb0 (j := 7) h7, tb0 (j := 8) h8, tb0 (j := 9) h9, tb0 (j := 10) h10, tb0 (j := 11) h11, tb0 (j := 12) h12, tb0 (j := 13) h13, tb0 (j := 14) h14, tb0 (j := 15) h15, tb0 (j := 16) h16, tb0 (j := 17) h17, tb0 (j := 18) h18, tb0 (j := 19) h19, tb0 (j := 20) h20, tb0 (j := 21) h21, tb0 (j := 22) h22, tb0 (j := 23) h23, tb0 (j := 24) h24, tb0 (j := 25) h25, tb0 (j := 26) h26, tb0 (j := 27) h27, tb0 (j := 28) h28, tb0 (j := 29) h29, tb0 (j := 30) h30, tb1 (j := 31) h31] : ctzN A = 31)]; rfl)⟩
  exact (by rw [(by simp [ctzN, ctzGo, tb0 (j := 0) h0, tb0 (j := 1) h1, tb0 (j := 2) h2, tb0 (j := 3) h3, tb0 (j := 4) h4, tb0 (j := 5) h5, tb0 (j := 6) h6, tb0 (j := 7) h7, tb0 (j := 8) h8, tb0 (j := 9) h9, tb0 (j := 10) h10, tb0 (j := 11) h11, tb0 (j := 12) h12, tb0 (j := 13) h13, tb0 (j := 14) h14, tb0 (j := 15) h15, tb0 (j := 16) h16, tb0 (j := 17) h17, tb0 (j := 18) h18, tb0 (j := 19) h19, tb0 (j := 20) h20, tb0 (j := 21) h21, tb0 (j := 22) h22, tb0 (j := 23) h23, tb0 (j := 24) h24, tb0 (j := 25) h25, tb0 (j := 26) h26, tb0 (j := 27) h27, tb0 (j := 28) h28, tb0 (j := 29) h29, tb0 (j := 30) h30, tb0 (j := 31) h31] : ctzN A = 32)]; rfl)

theorem popStep {A k : Nat} (hk : k < 32) : IntKind.i64.wrap ((popN A k : Int) + bitI (A : Int) (k : Int)) = (popN A (k + 1) : Int) := by
  have h := popN_le A (k + 1)
  rw [bitI_tb]
  simp only [popN] at h ⊢
  rw [w64 (by omega) (by omega)]; omega

theorem refPop_does {A : Nat} (hA : A < 4294967296) : Does Tryd.prog tabEnv 7 [.p (.sc (.int .i64 105)), .p (.sc (.int .u32 A))] [] (pairI (popN A 32) 0) [] := by
  refine does_of_tree names (refPop_tree A) ?_
  simp only [refPopTree, Tree.ok]
  refine ⟨bit_does (j := 0) hA (by omega), ?_⟩
  refine ⟨bit_does (j := 1) hA (by omega), ?_⟩
  refine ⟨bit_does (j := 2) hA (by omega), ?_⟩
  refine ⟨bit_does (j := 3) hA (by omega), ?_⟩
  refine ⟨bit_does (j := 4) hA (by omega), ?_⟩
  refine ⟨bit_does (j := 5) hA (by omega), ?_⟩
  refine ⟨bit_does (j := 6) hA (by omega), ?_⟩
  refine ⟨bit_does (j := 7) hA (by omega), ?_⟩
  refine ⟨bit_does (j := 8) hA (by omega), ?_⟩
  refine ⟨bit_does (j := 9) hA (by omega), ?_⟩
  refine ⟨bit_does (j := 10) hA (by omega), ?_⟩
  refine ⟨bit_does (j := 11) hA (by omega), ?_⟩
  refine ⟨bit_does (j := 12) hA (by omega), ?_⟩
  refine ⟨bit_does (j := 13) hA (by omega), ?_⟩
  refine ⟨bit_does (j := 14) hA (by omega), ?_⟩
  refine ⟨bit_does (j := 15) hA (by omega), ?_⟩
  refine ⟨bit_does (j := 16) hA (by omega), ?_⟩
  refine ⟨bit_does (j := 17) hA (by omega), ?_⟩
  refine ⟨bit_does (j := 18) hA (by omega), ?_⟩
  refine ⟨bit_does (j := 19) hA (by omega), ?_⟩
  refine ⟨bit_does (j := 20) hA (by omega), ?_⟩
  refine ⟨bit_does (j := 21) hA (by omega), ?_⟩
  refine ⟨bit_does (j := 22) hA (by omega), ?_⟩
  refine ⟨bit_does (j := 23) hA (by omega), ?_⟩
  refine ⟨bit_does (j := 24) hA (by omega), ?_⟩
  refine ⟨bit_does (j := 25) hA (by omega), ?_⟩
  refine ⟨bit_does (j := 26) hA (by omega), ?_⟩
  refine ⟨bit_does (j := 27) hA (by omega), ?_⟩
  refine ⟨bit_does (j := 28) hA (by omega), ?_⟩
  refine ⟨bit_does (j := 29) hA (by omega), ?_⟩
  refine ⟨bit_does (j := 30) hA (by omega), ?_⟩
  refine ⟨bit_does (j := 31) hA (by omega), ?_⟩
  have p0 : IntKind.i64.wrap (0 + bitI (A : Int) 0) = (popN A 1 : Int) := popStep (k := 0) (by omega)
  have p1 : IntKind.i64.wrap ((popN A 1 : Int) + bitI (A : Int) 1) = (popN A 2 : Int) := popStep (k := 1) (by omega)
  have p2 : IntKind.i64.wrap ((popN A 2 : Int) + bitI (A : Int) 2) = (popN A 3 : Int) := popStep (k := 2) (by omega)
  have p3 : IntKind.i64.wrap ((popN A 3 : Int) + bitI (A : Int) 3) = (popN A 4 : Int) := popStep (k := 3) (by omega)
  have p4 : IntKind.i64.wrap ((popN A 4 : Int) + bitI (A : Int) 4) = (popN A 5 : Int) := popStep (k := 4) (by omega)
  have p5 : IntKind.i64.wrap ((popN A 5 : Int) + bitI (A : Int) 5) = (popN A 6 : Int) := popStep (k := 5) (by omega)
  have p6 : IntKind.i64.wrap ((popN A 6 : Int) + bitI (A : Int) 6) = (popN A 7 : Int) := popStep (k := 6) (by omega)
  have p7 : IntKind.i64.wrap ((popN A 7 : Int) + bitI (A : Int) 7) = (popN A 8 : Int) := popStep (k := 7) (by omega)
  have p8 : IntKind.i64.wrap ((popN A 8 : Int) + bitI (A : Int) 8) = (popN A 9 : Int) := popStep (k := 8) (by omega)
  have p9 : IntKind.i64.wrap ((popN A 9 : Int) + bitI (A : Int) 9) = (popN A 10 : Int) := popStep (k := 9) (by omega)
  have p10 : IntKind.i64.wrap ((popN A 10 : Int) + bitI (A : Int) 10) = (popN A 11 : Int) := popStep (k := 10) (by omega)
  have p11 : IntKind.i64.wrap ((popN A 11 : Int) + bitI (A : Int) 11) = (popN A 12 : Int) := popStep (k := 11) (by omega)
  have p12 : IntKind.i64.wrap ((popN A 12 : Int) + bitI (A : Int) 12) = (popN A 13 : Int) := popStep (k := 12) (by omega)
  have p13 : IntKind.i64.wrap ((popN A 13 : Int) + bitI (A : Int) 13) = (popN A 14 : Int) := popStep (k := 13) (by omega)
  have p14 : IntKind.i64.wrap ((popN A 14 : Int) + bitI (A : Int) 14) = (popN A 15 : Int) := popStep (k := 14) (by omega)
  have p15 : IntKind.i64.wrap ((popN A 15 : Int) + bitI (A : Int) 15) = (popN A 16 : Int) := popStep (k := 15) (by omega)
  have p16 : IntKind.i64.wrap ((popN A 16 : Int) + bitI (A : Int) 16) = (popN A 17 : Int) := popStep (k := 16) (by omega)
  have p17 : IntKind.i64.wrap ((popN A 17 : Int) + bitI (A : Int) 17) = (popN A 18 : Int) := popStep (k := 17) (by omega)
  have p18 : IntKind.i64.wrap ((popN A 18 : Int) + bitI (A : Int) 18) = (popN A 19 : Int) := popStep (k := 18) (by omega)
  have p19 : IntKind.i64.wrap ((popN A 19 : Int) + bitI (A : Int) 19) = (popN A 20 : Int) := popStep (k := 19) (by omega)
  have p20 : IntKind.i64.wrap ((popN A 20 : Int) + bitI (A : Int) 20) = (popN A 21 : Int) := popStep (k := 20) (by omega)
  have p21 : IntKind.i64.wrap ((popN A 21 : Int) + bitI (A : Int) 21) = (popN A 22 : Int) := popStep (k := 21) (by omega)
  have p22 : IntKind.i64.wrap ((popN A 22 : Int) + bitI (A : Int) 22) = (popN A 23 : Int) := popStep (k := 22) (by omega)
  have p23 : IntKind.i64.wrap ((popN A 23 : Int) + bitI (A : Int) 23) = (popN A 24 : Int) := popStep (k := 23) (by omega)
  have p24 : IntKind.i64.wrap ((popN A 24 : Int) + bitI (A : Int) 24) = (popN A 25 : Int) := popStep (k := 24) (by omega)
  have p25 : IntKind.i64.wrap ((popN A 25 : Int) + bitI (A : Int) 25) = (popN A 26 : Int) := popStep (k := 25) (by omega)
  have p26 : IntKind.i64.wrap ((popN A 26 : Int) + bitI (A : Int) 26) = (popN A 27 : Int) := popStep (k := 26) (by omega)
  have p27 : IntKind.i64.wrap ((popN A 27 : Int) + bitI (A : Int) 27) = (popN A 28 : Int) := popStep (k := 27) (by omega)
  have p28 : IntKind.i64.wrap ((popN A 28 : Int) + bitI (A : Int) 28) = (popN A 29 : Int) := popStep (k := 28) (by omega)
  have p29 : IntKind.i64.wrap ((popN A 29 : Int) + bitI (A : Int) 29) = (popN A 30 : Int) := popStep (k := 29) (by omega)
  have p30 : IntKind.i64.wrap ((popN A 30 : Int) + bitI (A : Int) 30) = (popN A 31 : Int) := popStep (k := 30) (by omega)
  have p31 : IntKind.i64.wrap ((popN A 31 : Int) + bitI (A : Int) 31) = (popN A 32 : Int) := popStep (k := 31) (by omega)
  rw [p0, p1, p2, p3, p4, p5, p6, p7, p8, p9, p10, p11, p12, p13, p14, p15, p16, p17, p18, p19, p20, p21, p22, p23, p24, p25, p26, p27, p28, p29, p30, p31, u32N (by have := popN_le A 32; omega)]
  rfl

theorem popN_add (A k : Nat) : ∀ m, popN A (k + m) = popN A k + popN (A / 2 ^ k) m
  | 0 => rfl
  | m + 1 => by
    rw [← Nat.add_assoc]
    simp only [popN]
    rw [popN_add A k m, ← Nat.shiftRight_eq_div_pow A k, Nat.testBit_shiftRight]
    omega

theorem popN_byte (A : Nat) : ∀ m, m ≤ 8 → popN (A % 256) m = popN A m
  | 0, _ => rfl
  | m + 1, h => by
    have e : (256 : Nat) = 2 ^ 8 := by decide
    simp only [popN]
    rw [popN_byte A m (by omega), e, Nat.testBit_mod_two_pow]
    have : m < 8 := by omega
    simp [this]

theorem popN_bytes (A : Nat) : popN A 32 = popN (A / 2 ^ 24) 8 + popN (A / 2 ^ 16 % 256) 8 + popN (A / 2 ^ 8 % 256) 8 + popN (A % 256) 8 := by
  have h1 : popN A 32 = _ := popN_add A 8 24
  have h2 : popN (A / 2 ^ 8) 24 = _ := popN_add (A / 2 ^ 8) 8 16
  have h3 : popN (A / 2 ^ 8 / 2 ^ 8) 16 = _ := popN_add (A / 2 ^ 8 / 2 ^ 8) 8 8
  rw [Nat.div_div_eq_div_mul, Nat.div_div_eq_div_mul] at h3
  rw [Nat.div_div_eq_div_mul] at h2
  rw [popN_byte _ 8 (by omega), popN_byte _ 8 (by omega), popN_byte _ 8 (by omega)]
  have e1 : 2 ^ 8 * 2 ^ 8 = 2 ^ 16 := by decide
  have e2 : 2 ^ 16 * 2 ^ 8 = 2 ^ 24 := by decide
  rw [e1, e2] at h3
  rw [e1] at h2
  omega

theorem and255 (x : Int) : ((BitVec.ofInt IntKind.u32.bits x &&& BitVec.ofInt IntKind.u32.bits 255).toNat : Int) = x % 256 := by
  have : IntKind.u32.bits = 32 := rfl
  simp only [this, BitVec.toNat_and, BitVec.toNat_ofInt]
  have e : ((255 : Int) % ((2 ^ 32 : Nat) : Int)).toNat = 2 ^ 8 - 1 := by decide
  rw [e, Nat.and_two_pow_sub_one_eq_mod]
  omega

theorem fdivLit (A k : Nat) (hk : k ≤ 32) : (A : Int).fdiv (2 ^ Min.min (Int.toNat (k : Int)) IntKind.u32.bits) = ((A / 2 ^ k : Nat) : Int) := by
  have hm : Min.min (Int.toNat (k : Int)) IntKind.u32.bits = k := by
    have : IntKind.u32.bits = 32 := rfl
    rw [this, Int.toNat_natCast]; omega
  have e : ((2 : Int) ^ k) = ((2 ^ k : Nat) : Int) := by simp
  rw [hm, e, Int.fdiv_eq_ediv_of_nonneg _ (Int.natCast_nonneg _)]
  rfl

theorem popVal {x : Nat} (hx : x < 256) : ((popTab.getD (x : Int).toNat 0).toNat : Int) = (popN x 8 : Int) := by
  have h : popTab.getD x 0 = UInt8.ofNat (popN x 8) := pop_tab x hx
  have hle := popN_le x 8
  show ((popTab.getD (x : Int).toNat 0).toNat : Int) = _
  rw [Int.toNat_natCast, h, UInt8.toNat_ofNat']
  omega

theorem lenVal {x : Nat} (hx : x < 256) : ((lenTab.getD (x : Int).toNat 0).toNat : Int) = ((32 - clzN x : Nat) : Int) := by
  have h : lenTab.getD x 0 = UInt8.ofNat (32 - clzN x) := len_tab x hx
  show ((lenTab.getD (x : Int).toNat 0).toNat : Int) = _
  rw [Int.toNat_natCast, h, UInt8.toNat_ofNat']
  omega

theorem inTab {x : Nat} (hx : x < 256) (n : Nat) (hn : n = 256) : inB (x : Int) n = true := by
  subst hn
  simp [inB]; omega

theorem inPop {x : Nat} (hx : x < 256) : inB (x : Int) popTab.length = true := inTab hx _ (by decide +kernel)
theorem inLen {x : Nat} (hx : x < 256) : inB (x : Int) lenTab.length = true := inTab hx _ (by decide +kernel)

theorem byteMod (A k : Nat) (hk : k ≤ 32) : IntKind.u32.wrap ((BitVec.ofInt IntKind.u32.bits ((A : Int).fdiv (2 ^ Min.min (Int.toNat (k : Int)) IntKind.u32.bits)) &&& BitVec.ofInt IntKind.u32.bits 255).toNat : Int) = ((A / 2 ^ k % 256 : Nat) : Int) := by
  rw [fdivLit A k hk, and255, wU32]; omega

theorem u8In {n : Int} (h0 : 0 ≤ n) (h1 : n < 256) : IntKind.u8.wrap n = n := by rw [wU8]; omega

theorem numPop_does {A : Nat} (hA : A < 4294967296) : Does Tryd.prog tabEnv 6 [.p (.sc (.int .i64 105)), .p (.sc (.int .u32 A))] [] (pairI (popN A 32) 0) [] := by
  refine does_of_tree names (numPop_tree A) ?_
  have q3 : (A : Int).fdiv (2 ^ Min.min (Int.toNat 24) IntKind.u32.bits) = ((A / 2 ^ 24 : Nat) : Int) := fdivLit A 24 (by omega)
  have q2 : IntKind.u32.wrap ((BitVec.ofInt IntKind.u32.bits ((A : Int).fdiv (2 ^ Min.min (Int.toNat 16) IntKind.u32.bits)) &&& BitVec.ofInt IntKind.u32.bits 255).toNat : Int) = ((A / 2 ^ 16 % 256 : Nat) : Int) := byteMod A 16 (by omega)
  have q1 : IntKind.u32.wrap ((BitVec.ofInt IntKind.u32.bits ((A : Int).fdiv (2 ^ Min.min (Int.toNat 8) IntKind.u32.bits)) &&& BitVec.ofInt IntKind.u32.bits 255).toNat : Int) = ((A / 2 ^ 8 % 256 : Nat) : Int) := byteMod A 8 (by omega)
  have q0 : IntKind.u32.wrap ((BitVec.ofInt IntKind.u32.bits (A : Int) &&& BitVec.ofInt IntKind.u32.bits 255).toNat : Int) = ((A % 256 : Nat) : Int) := by rw [and255, wU32]; omega
  have b3 : A / 2 ^ 24 < 256 := by omega
  have b2 : A / 2 ^ 16 % 256 < 256 := Nat.mod_lt _ (by omega)
  have b1 : A / 2 ^ 8 % 256 < 256 := Nat.mod_lt _ (by omega)
  have b0 : A % 256 < 256 := Nat.mod_lt _ (by omega)
  have hs := popN_bytes A
  have l3 := popN_le (A / 2 ^ 24) 8
  have l2 := popN_le (A / 2 ^ 16 % 256) 8
  have l1 := popN_le (A / 2 ^ 8 % 256) 8
  have l0 := popN_le (A % 256) 8
  simp only [numPopTree, Tree.ok, q3, q2, q1, q0, popVal b3, popVal b2, popVal b1, popVal b0, inPop b3, inPop b2, inPop b1, inPop b0]
  rw [hs]
  generalize popN (A / 2 ^ 24) 8 = y3 at *
  generalize popN (A / 2 ^ 16 % 256) 8 = y2 at *
  generalize popN (A / 2 ^ 8 % 256) 8 = y1 at *
  generalize popN (A % 256) 8 = y0 at *
  rw [u8In (n := (y3 : Int) + y2) (by omega) (by omega), u8In (n := (y3 : Int) + y2 + y1) (by omega) (by omega), u8In (by omega) (by omega), w64 (by omega) (by omega), wU32, Int.emod_eq_of_lt (by omega) (by omega)]
  have hcast : ((y3 + y2 + y1 + y0 : Nat) : Int) = (y3 : Int) + y2 + y1 + y0 := by omega
  rw [hcast]
  exact ⟨rfl, trivial, rfl⟩

theorem clz_shift {A k : Nat} (hA : A < 4294967296) (h : 2 ^ k ≤ A) : clzN (A / 2 ^ k) = clzN A + k ∧ clzN A + k < 32 := by
  have hpos : 0 < 2 ^ k := Nat.pow_pos (by omega)
  rcases clzN_spec hA with ⟨_, h0⟩ | ⟨h1, h2, h3⟩
  · omega
  · have hc : clzN A + k < 32 := by
      rcases Nat.lt_or_ge (clzN A + k) 32 with q | q
      · exact q
      · have : 2 ^ (32 - clzN A) ≤ 2 ^ k := Nat.pow_le_pow_right (by omega) (by omega)
        omega
    refine ⟨clzN_eq hc ?_ ?_, hc⟩
    · rw [Nat.le_div_iff_mul_le hpos, ← Nat.pow_add]
      have : 31 - (clzN A + k) + k = 31 - clzN A := by omega
      rw [this]; exact h2
    · rw [Nat.div_lt_iff_lt_mul hpos, ← Nat.pow_add]
      have : 32 - (clzN A + k) + k = 32 - clzN A := by omega
      rw [this]; exact h3

/-- A leaf: a word moved down by k bits, below 256, looked up. -/
theorem clzLeaf {A k : Nat} (hA : A < 4294967296) (hk : k ≤ 24) (h : k = 0 ∨ 2 ^ k ≤ A) (hx : A / 2 ^ k < 256) :
    IntKind.u32.wrap (IntKind.i64.wrap (32 - IntKind.i64.wrap ((k : Int) + IntKind.i64.wrap ((lenTab.getD (((A / 2 ^ k : Nat) : Int)).toNat 0).toNat : Int)))) = (clzN A : Int) := by
  rw [lenVal hx]
  have hc : clzN A ≤ 32 := by rcases clzN_spec hA with ⟨q, _⟩ | ⟨q, _⟩ <;> omega
  have e : (32 - clzN (A / 2 ^ k) : Nat) + k = 32 - clzN A := by
    rcases h with rfl | h
    · simp
    · have := clz_shift hA h
      omega
  generalize 32 - clzN (A / 2 ^ k) = y at *
  rw [w64 (n := (y : Int)) (by omega) (by omega), w64 (n := (k : Int) + y) (by omega) (by omega), w64 (by omega) (by omega), wU32, Int.emod_eq_of_lt (by omega) (by omega)]
  omega

theorem numClz_does {A : Nat} (hA : A < 4294967296) : Does Tryd.prog tabEnv 6 [.p (.sc (.int .i64 103)), .p (.sc (.int .u32 A))] [] (pairI (clzN A) 0) [] := by
  refine does_of_tree names (numClz_tree A) ?_
  have q16 : (A : Int).fdiv (2 ^ Min.min (Int.toNat 16) IntKind.u32.bits) = ((A / 2 ^ 16 : Nat) : Int) := fdivLit A 16 (by omega)
  have q8 : (A : Int).fdiv (2 ^ Min.min (Int.toNat 8) IntKind.u32.bits) = ((A / 2 ^ 8 : Nat) : Int) := fdivLit A 8 (by omega)
  have q24 : ((A / 2 ^ 16 : Nat) : Int).fdiv (2 ^ Min.min (Int.toNat 8) IntKind.u32.bits) = ((A / 2 ^ 24 : Nat) : Int) := by
    rw [show ((A / 2 ^ 16 : Nat) : Int).fdiv (2 ^ Min.min (Int.toNat 8) IntKind.u32.bits) = ((A / 2 ^ 16 / 2 ^ 8 : Nat) : Int) from fdivLit _ 8 (by omega), Nat.div_div_eq_div_mul]
  simp only [numClzTree, Tree.ok, q16, q8, q24, decide_eq_true_eq, decide_eq_false_iff_not]
  refine ⟨fun h => ⟨fun h' => ?_, fun h' => ?_⟩, fun h => ⟨fun h' => ?_, fun h' => ?_⟩⟩
  · have hx : A / 2 ^ 24 < 256 := by omega
    rw [u8In (n := ((A / 2 ^ 24 : Nat) : Int)) (by omega) (by omega)]
    have := clzLeaf hA (k := 24) (by omega) (.inr (by omega)) hx
    rw [show ((24 : Nat) : Int) = 24 from rfl] at this
    exact ⟨by rw [inLen hx]; rfl, by rw [this]; rfl⟩
  · have hx : A / 2 ^ 16 < 256 := by omega
    rw [u8In (n := ((A / 2 ^ 16 : Nat) : Int)) (by omega) (by omega)]
    have := clzLeaf hA (k := 16) (by omega) (.inr (by omega)) hx
    rw [show ((16 : Nat) : Int) = 16 from rfl] at this
    exact ⟨by rw [inLen hx]; rfl, by rw [this]; rfl⟩
  · have hx : A / 2 ^ 8 < 256 := by omega
    rw [u8In (n := ((A / 2 ^ 8 : Nat) : Int)) (by omega) (by omega)]
    have := clzLeaf hA (k := 8) (by omega) (.inr (by omega)) hx
    rw [show ((8 : Nat) : Int) = 8 from rfl] at this
    exact ⟨by rw [inLen hx]; rfl, by rw [this]; rfl⟩
  · have hx : A < 256 := by omega
    rw [u8In (n := (A : Int)) (by omega) (by omega)]
    have := clzLeaf hA (k := 0) (by omega) (.inl rfl) (by simpa using hx)
    rw [Nat.pow_zero, Nat.div_one, show ((0 : Nat) : Int) = 0 from rfl] at this
    exact ⟨by rw [inLen hx]; rfl, by rw [this]; rfl⟩

theorem numCtz_does {A : Nat} (hA : A < 4294967296) : Does Tryd.prog tabEnv 6 [.p (.sc (.int .i64 104)), .p (.sc (.int .u32 A))] [] (pairI (ctzN A) 0) [] := by
  refine does_of_tree names (numCtz_tree A) ?_
  have hc : ctzN A ≤ 32 := by rcases ctzN_spec hA with ⟨q, _⟩ | ⟨q, _⟩ <;> omega
  simp only [numCtzTree, Tree.ok, Int.toNat_natCast]
  exact ⟨tz_does hA, by rw [u32N (by omega)]; rfl⟩

theorem one_does {A op : Nat} (ho : op = 103 ∨ op = 104 ∨ op = 105) (hA : A < 4294967296) :
    Does Tryd.prog tabEnv 6 [.p (.sc (.int .i64 op)), .p (.sc (.int .u32 A))] [] (pairI (oneI op A) 0) [] ∧ Does Tryd.prog tabEnv 7 [.p (.sc (.int .i64 op)), .p (.sc (.int .u32 A))] [] (pairI (oneI op A) 0) [] := by
  rcases ho with rfl | rfl | rfl
  · exact ⟨numClz_does hA, refClz_does hA⟩
  · exact ⟨numCtz_does hA, refCtz_does hA⟩
  · exact ⟨numPop_does hA, refPop_does hA⟩

end Go.Proofs.YthllpmannpolcaaDoor.N
