/-
  NumTwos: the document's side, bit by bit; and the law, case by case.
-/
import Derived.Test.YthllpmannpolcaaNumTwosD
namespace Go.Proofs.Ythllpmannpolcaa.N
open Go Go.Am

def bothCall (f : FuncId) (args : List AV) (_ : Mem) : Option (AV × Mem) := if f = 9 then some (sB true, []) else if f = 7 ∨ f = 8 then (match args with
  | [.p (.sc (.int _ op)), .p (.sc (.int _ a)), .p (.sc (.int _ b))] => some (pairI (twoW op a b) (twoE op a b), [])
  | _ => none) else none

/- lawBoth: 69 steps -/
def lawBothOrc : Orc := orc bothCall [] [(3, 4, 4), (3, 4, 9)] []
def lawBothSc : Sc := (.fork .fin (.lit .fin))
def lawBothTree (op : Int) (a : Int) (b : Int) : Tree :=
  (.call ⟨7, [AV.p (PV.sc (Value.int IntKind.i64 op)), AV.p (PV.sc (Value.int IntKind.u32 a)), AV.p (PV.sc (Value.int IntKind.u32 b))], [], AV.tup [AV.p (PV.sc (Value.int IntKind.u32 (twoW op a b))), AV.p (PV.sc (Value.int IntKind.i64 (twoE op a b)))], []⟩
   (.call ⟨8, [AV.p (PV.sc (Value.int IntKind.i64 op)), AV.p (PV.sc (Value.int IntKind.u32 a)), AV.p (PV.sc (Value.int IntKind.u32 b))], [], AV.tup [AV.p (PV.sc (Value.int IntKind.u32 (twoW op a b))), AV.p (PV.sc (Value.int IntKind.i64 (twoE op a b)))], []⟩
    (.test (twoW op a b == twoW op a b)
     (.test (twoE op a b == twoE op a b)
      (.call ⟨9, [], [], AV.p (PV.sc (Value.bool Bool.true)), []⟩
       (.out (Out.ret (AV.p (PV.sc (Value.bool Bool.true))) [])))
      (.out (Out.ret (AV.p (PV.sc (Value.bool Bool.false))) [])))
     (.out (Out.ret (AV.p (PV.sc (Value.bool Bool.false))) [])))))
theorem lawBoth_tree (op : Int) (a : Int) (b : Int) : growF Try.prog noGlob lawBothOrc 1000000 3 ([AV.p (PV.sc (Value.int IntKind.i64 op)), AV.p (PV.sc (Value.int IntKind.u32 a)), AV.p (PV.sc (Value.int IntKind.u32 b))]) [] lawBothSc = lawBothTree op a b := by kernel_rfl


theorem bits_does {op a b i : Int} (ho : 113 ≤ op) (ho' : op ≤ 120) (ha0 : 0 ≤ a) (ha : a < 4294967296) (hb0 : 0 ≤ b) (hb : b < 4294967296) (hi0 : 0 ≤ i) (hi : i < 32) :
    Does Try.prog noGlob 24 [.p (.sc (.int .i64 op)), .p (.sc (.int .u32 a)), .p (.sc (.int .u32 b)), .p (.sc (.int .i64 i))] [] (.p (.sc (.int .i64 (bitsN op a b i)))) [] := by
  have h : op = 113 ∨ op = 114 ∨ op = 115 ∨ op = 116 ∨ op = 117 ∨ op = 118 ∨ op = 119 ∨ op = 120 := by omega
  rcases h with rfl | rfl | rfl | rfl | rfl | rfl | rfl | rfl
  · exact bitsAnd_does ha0 ha hb0 hb hi0 hi
  · exact bitsOr_does ha0 ha hb0 hb hi0 hi
  · exact bitsXor_does ha0 ha hb0 hb hi0 hi
  · exact bitsShl_does ha0 ha hb0 hb hi0 hi
  · exact bitsShrS_does ha0 ha hb0 hb hi0 hi
  · exact bitsShrU_does ha0 ha hb0 hb hi0 hi
  · exact bitsRotl_does ha0 ha hb0 hb hi0 hi
  · exact bitsRotr_does ha0 ha hb0 hb hi0 hi

theorem twoW_bits {op a b : Int} (ho : 113 ≤ op) : twoW op a b = IntKind.u32.wrap (foldI (bitsN op a b) 32) := by
  have n1 : ¬ (op = 109 ∨ op = 111) := by omega
  have n2 : ¬ (op = 110 ∨ op = 112) := by omega
  simp only [twoW, if_neg n1, if_neg n2]

theorem foldOut (f : Int → Int) : foldI f 32 = IntKind.i64.wrap (IntKind.i64.wrap (2 * IntKind.i64.wrap (IntKind.i64.wrap (2 * IntKind.i64.wrap (IntKind.i64.wrap (2 * IntKind.i64.wrap (IntKind.i64.wrap (2 * IntKind.i64.wrap (IntKind.i64.wrap (2 * IntKind.i64.wrap (IntKind.i64.wrap (2 * IntKind.i64.wrap (IntKind.i64.wrap (2 * IntKind.i64.wrap (IntKind.i64.wrap (2 * IntKind.i64.wrap (IntKind.i64.wrap (2 * IntKind.i64.wrap (IntKind.i64.wrap (2 * IntKind.i64.wrap (IntKind.i64.wrap (2 * IntKind.i64.wrap (IntKind.i64.wrap (2 * IntKind.i64.wrap (IntKind.i64.wrap (2 * IntKind.i64.wrap (IntKind.i64.wrap (2 * IntKind.i64.wrap (IntKind.i64.wrap (2 * IntKind.i64.wrap (IntKind.i64.wrap (2 * IntKind.i64.wrap (IntKind.i64.wrap (2 * IntKind.i64.wrap (IntKind.i64.wrap (2 * IntKind.i64.wrap (IntKind.i64.wrap (2 * IntKind.i64.wrap (IntKind.i64.wrap (2 * IntKind.i64.wrap (IntKind.i64.wrap (2 * IntKind.i64.wrap (IntKind.i64.wrap (2 * IntKind.i64.wrap (IntKind.i64.wrap (2 * IntKind.i64.wrap (IntKind.i64.wrap (2 * IntKind.i64.wrap (IntKind.i64.wrap (2 * IntKind.i64.wrap (IntKind.i64.wrap (2 * IntKind.i64.wrap (IntKind.i64.wrap (2 * IntKind.i64.wrap (IntKind.i64.wrap (2 * IntKind.i64.wrap (IntKind.i64.wrap (2 * IntKind.i64.wrap (IntKind.i64.wrap (2 * IntKind.i64.wrap (IntKind.i64.wrap (2 * IntKind.i64.wrap (IntKind.i64.wrap (2 * 0) + f 31)) + f 30)) + f 29)) + f 28)) + f 27)) + f 26)) + f 25)) + f 24)) + f 23)) + f 22)) + f 21)) + f 20)) + f 19)) + f 18)) + f 17)) + f 16)) + f 15)) + f 14)) + f 13)) + f 12)) + f 11)) + f 10)) + f 9)) + f 8)) + f 7)) + f 6)) + f 5)) + f 4)) + f 3)) + f 2)) + f 1)) + f 0) := by kernel_rfl

theorem refBits_does {op a b : Int} (ho : 113 ≤ op) (ho' : op ≤ 120) (ha0 : 0 ≤ a) (ha : a < 4294967296) (hb0 : 0 ≤ b) (hb : b < 4294967296) :
    Does Try.prog noGlob 8 [.p (.sc (.int .i64 op)), .p (.sc (.int .u32 a)), .p (.sc (.int .u32 b))] [] (pairI (twoW op a b) (twoE op a b)) [] := by
  refine does_of_tree names (refBits_tree op a b) ?_
  simp only [refBitsTree, Tree.ok]
  rw [twoW_bits ho, twoE_eq ho, foldOut]
  iterate 24 refine ⟨by simp; omega, ?_⟩
  iterate 32 refine ⟨bits_does ho ho' ha0 ha hb0 hb (by omega) (by omega), ?_⟩
  rfl

theorem num_does {op : Int} {A B : Nat} (ho : 109 ≤ op) (ho' : op ≤ 120) (ha : A < 4294967296) (hb : B < 4294967296) :
    Does Try.prog noGlob 7 [.p (.sc (.int .i64 op)), .p (.sc (.int .u32 A)), .p (.sc (.int .u32 B))] [] (pairI (twoW op A B) (twoE op A B)) [] := by
  have h : op = 109 ∨ op = 110 ∨ op = 111 ∨ op = 112 ∨ op = 113 ∨ op = 114 ∨ op = 115 ∨ op = 116 ∨ op = 117 ∨ op = 118 ∨ op = 119 ∨ op = 120 := by omega
  rcases h with rfl | rfl | rfl | rfl | rfl | rfl | rfl | rfl | rfl | rfl | rfl | rfl
  · exact numDivS_does (by omega) (by omega) (by omega) (by omega)
  · exact numDivU_does (by omega) (by omega) (by omega) (by omega)
  · exact numRemS_does (by omega) (by omega) (by omega) (by omega)
  · exact numRemU_does (by omega) (by omega) (by omega) (by omega)
  · exact numAnd_does ha hb
  · exact numOr_does ha hb
  · exact numXor_does ha hb
  · exact numShl_does ha hb
  · exact numShrS_does ha hb
  · exact numShrU_does ha hb
  · exact numRotl_does ha hb
  · exact numRotr_does ha hb

theorem ref_does {op a b : Int} (ho : 109 ≤ op) (ho' : op ≤ 120) (ha0 : 0 ≤ a) (ha : a < 4294967296) (hb0 : 0 ≤ b) (hb : b < 4294967296) :
    Does Try.prog noGlob 8 [.p (.sc (.int .i64 op)), .p (.sc (.int .u32 a)), .p (.sc (.int .u32 b))] [] (pairI (twoW op a b) (twoE op a b)) [] := by
  have h : op = 109 ∨ op = 110 ∨ op = 111 ∨ op = 112 ∨ 113 ≤ op := by omega
  rcases h with rfl | rfl | rfl | rfl | h
  · exact refDivS_does ha0 ha hb0 hb
  · exact refDivU_does ha0 ha hb0 hb
  · exact refRemS_does ha0 ha hb0 hb
  · exact refRemU_does ha0 ha hb0 hb
  · exact refBits_does h ho' ha0 ha hb0 hb

/-- The law, for an operation that the two sides' contracts tell. -/
theorem lawBoth_does {op : Int} {A B : Nat} (ho : 109 ≤ op) (ho' : op ≤ 120) (ha : A < 4294967296) (hb : B < 4294967296) :
    Does Try.prog noGlob 3 [.p (.sc (.int .i64 op)), .p (.sc (.int .u32 A)), .p (.sc (.int .u32 B))] [] (sB true) [] := by
  refine does_of_tree names (lawBoth_tree op A B) ?_
  simp only [lawBothTree, Tree.ok]
  refine ⟨num_does ho ho' ha hb, ref_does ho ho' (by omega) (by omega) (by omega) (by omega), ?_⟩
  simp [awake, sB]

end Go.Proofs.Ythllpmannpolcaa.N
