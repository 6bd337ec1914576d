/-
  NumWide: its trees (printed by a program of mine), and that they are right.
-/
import Derived.Test.YthllpmannpolcaaNumA
namespace Go.Proofs.Ythllpmannpolcaa.N
open Go Go.Am

/- wide8: 739 steps -/
def wide8Orc : Orc := orc numCall [] [(13, 0, 1), (22, 0, 0), (6, 4, 4), (14, 0, 0), (6, 4, 16)] []
def wide8Sc : Sc := (.fork (.fork (.fork .fin (.lit .fin)) (.fork .fin (.lit .fin))) (.fork (.fork .fin (.lit .fin)) (.fork .fin (.lit .fin))))
def wide8Tree (a : Int) : Tree :=
  (.test (Decidable.decide ((IntKind.i64.wrap a).tmod 256 ≥ 128))
   (.test (Decidable.decide ((IntKind.i64.wrap ((IntKind.i64.wrap a).tmod 256 - 256)).tmod 4294967296 < 0))
    (.test (IntKind.u32.wrap (IntKind.i32.wrap (IntKind.i8.wrap a)) == IntKind.u32.wrap (IntKind.i64.wrap ((IntKind.i64.wrap ((IntKind.i64.wrap a).tmod 256 - 256)).tmod 4294967296 + 4294967296)))
     (.test (Decidable.decide (IntKind.i64.wrap a ≥ 2147483648))
      (.test (IntKind.i64.wrap (IntKind.i32.wrap a) == IntKind.i64.wrap (IntKind.i64.wrap a - 4294967296))
       (.call ⟨9, [], [], AV.p (PV.sc (Value.bool Bool.true)), []⟩
        (.out (Out.ret (AV.p (PV.sc (Value.bool Bool.true))) [])))
       (.out (Out.ret (AV.p (PV.sc (Value.bool Bool.false))) [])))
      (.test (IntKind.i64.wrap (IntKind.i32.wrap a) == IntKind.i64.wrap a)
       (.call ⟨9, [], [], AV.p (PV.sc (Value.bool Bool.true)), []⟩
        (.out (Out.ret (AV.p (PV.sc (Value.bool Bool.true))) [])))
       (.out (Out.ret (AV.p (PV.sc (Value.bool Bool.false))) []))))
     (.out (Out.ret (AV.p (PV.sc (Value.bool Bool.false))) [])))
    (.test (IntKind.u32.wrap (IntKind.i32.wrap (IntKind.i8.wrap a)) == IntKind.u32.wrap ((IntKind.i64.wrap ((IntKind.i64.wrap a).tmod 256 - 256)).tmod 4294967296))
     (.test (Decidable.decide (IntKind.i64.wrap a ≥ 2147483648))
      (.test (IntKind.i64.wrap (IntKind.i32.wrap a) == IntKind.i64.wrap (IntKind.i64.wrap a - 4294967296))
       (.call ⟨9, [], [], AV.p (PV.sc (Value.bool Bool.true)), []⟩
        (.out (Out.ret (AV.p (PV.sc (Value.bool Bool.true))) [])))
       (.out (Out.ret (AV.p (PV.sc (Value.bool Bool.false))) [])))
      (.test (IntKind.i64.wrap (IntKind.i32.wrap a) == IntKind.i64.wrap a)
       (.call ⟨9, [], [], AV.p (PV.sc (Value.bool Bool.true)), []⟩
        (.out (Out.ret (AV.p (PV.sc (Value.bool Bool.true))) [])))
       (.out (Out.ret (AV.p (PV.sc (Value.bool Bool.false))) []))))
     (.out (Out.ret (AV.p (PV.sc (Value.bool Bool.false))) []))))
   (.test (Decidable.decide (((IntKind.i64.wrap a).tmod 256).tmod 4294967296 < 0))
    (.test (IntKind.u32.wrap (IntKind.i32.wrap (IntKind.i8.wrap a)) == IntKind.u32.wrap (IntKind.i64.wrap (((IntKind.i64.wrap a).tmod 256).tmod 4294967296 + 4294967296)))
     (.test (Decidable.decide (IntKind.i64.wrap a ≥ 2147483648))
      (.test (IntKind.i64.wrap (IntKind.i32.wrap a) == IntKind.i64.wrap (IntKind.i64.wrap a - 4294967296))
       (.call ⟨9, [], [], AV.p (PV.sc (Value.bool Bool.true)), []⟩
        (.out (Out.ret (AV.p (PV.sc (Value.bool Bool.true))) [])))
       (.out (Out.ret (AV.p (PV.sc (Value.bool Bool.false))) [])))
      (.test (IntKind.i64.wrap (IntKind.i32.wrap a) == IntKind.i64.wrap a)
       (.call ⟨9, [], [], AV.p (PV.sc (Value.bool Bool.true)), []⟩
        (.out (Out.ret (AV.p (PV.sc (Value.bool Bool.true))) [])))
       (.out (Out.ret (AV.p (PV.sc (Value.bool Bool.false))) []))))
     (.out (Out.ret (AV.p (PV.sc (Value.bool Bool.false))) [])))
    (.test (IntKind.u32.wrap (IntKind.i32.wrap (IntKind.i8.wrap a)) == IntKind.u32.wrap (((IntKind.i64.wrap a).tmod 256).tmod 4294967296))
     (.test (Decidable.decide (IntKind.i64.wrap a ≥ 2147483648))
      (.test (IntKind.i64.wrap (IntKind.i32.wrap a) == IntKind.i64.wrap (IntKind.i64.wrap a - 4294967296))
       (.call ⟨9, [], [], AV.p (PV.sc (Value.bool Bool.true)), []⟩
        (.out (Out.ret (AV.p (PV.sc (Value.bool Bool.true))) [])))
       (.out (Out.ret (AV.p (PV.sc (Value.bool Bool.false))) [])))
      (.test (IntKind.i64.wrap (IntKind.i32.wrap a) == IntKind.i64.wrap a)
       (.call ⟨9, [], [], AV.p (PV.sc (Value.bool Bool.true)), []⟩
        (.out (Out.ret (AV.p (PV.sc (Value.bool Bool.true))) [])))
       (.out (Out.ret (AV.p (PV.sc (Value.bool Bool.false))) []))))
     (.out (Out.ret (AV.p (PV.sc (Value.bool Bool.false))) [])))))
theorem wide8_tree (a : Int) : growF Try.prog noGlob wide8Orc 1000000 6 ([AV.p (PV.sc (Value.int IntKind.u32 a)), AV.p (PV.sc (Value.int IntKind.i64 8))]) [] wide8Sc = wide8Tree a := by kernel_rfl

/- wide16: 745 steps -/
def wide16Orc : Orc := orc numCall [] [(13, 0, 1), (22, 0, 0), (6, 4, 4), (14, 0, 0), (6, 4, 16)] []
def wide16Sc : Sc := (.fork (.fork (.fork .fin (.lit .fin)) (.fork .fin (.lit .fin))) (.fork (.fork .fin (.lit .fin)) (.fork .fin (.lit .fin))))
def wide16Tree (a : Int) : Tree :=
  (.test (Decidable.decide ((IntKind.i64.wrap a).tmod 65536 ≥ 32768))
   (.test (Decidable.decide ((IntKind.i64.wrap ((IntKind.i64.wrap a).tmod 65536 - 65536)).tmod 4294967296 < 0))
    (.test (IntKind.u32.wrap (IntKind.i32.wrap (IntKind.i16.wrap a)) == IntKind.u32.wrap (IntKind.i64.wrap ((IntKind.i64.wrap ((IntKind.i64.wrap a).tmod 65536 - 65536)).tmod 4294967296 + 4294967296)))
     (.test (Decidable.decide (IntKind.i64.wrap a ≥ 2147483648))
      (.test (IntKind.i64.wrap (IntKind.i32.wrap a) == IntKind.i64.wrap (IntKind.i64.wrap a - 4294967296))
       (.call ⟨9, [], [], AV.p (PV.sc (Value.bool Bool.true)), []⟩
        (.out (Out.ret (AV.p (PV.sc (Value.bool Bool.true))) [])))
       (.out (Out.ret (AV.p (PV.sc (Value.bool Bool.false))) [])))
      (.test (IntKind.i64.wrap (IntKind.i32.wrap a) == IntKind.i64.wrap a)
       (.call ⟨9, [], [], AV.p (PV.sc (Value.bool Bool.true)), []⟩
        (.out (Out.ret (AV.p (PV.sc (Value.bool Bool.true))) [])))
       (.out (Out.ret (AV.p (PV.sc (Value.bool Bool.false))) []))))
     (.out (Out.ret (AV.p (PV.sc (Value.bool Bool.false))) [])))
    (.test (IntKind.u32.wrap (IntKind.i32.wrap (IntKind.i16.wrap a)) == IntKind.u32.wrap ((IntKind.i64.wrap ((IntKind.i64.wrap a).tmod 65536 - 65536)).tmod 4294967296))
     (.test (Decidable.decide (IntKind.i64.wrap a ≥ 2147483648))
      (.test (IntKind.i64.wrap (IntKind.i32.wrap a) == IntKind.i64.wrap (IntKind.i64.wrap a - 4294967296))
       (.call ⟨9, [], [], AV.p (PV.sc (Value.bool Bool.true)), []⟩
        (.out (Out.ret (AV.p (PV.sc (Value.bool Bool.true))) [])))
       (.out (Out.ret (AV.p (PV.sc (Value.bool Bool.false))) [])))
      (.test (IntKind.i64.wrap (IntKind.i32.wrap a) == IntKind.i64.wrap a)
       (.call ⟨9, [], [], AV.p (PV.sc (Value.bool Bool.true)), []⟩
        (.out (Out.ret (AV.p (PV.sc (Value.bool Bool.true))) [])))
       (.out (Out.ret (AV.p (PV.sc (Value.bool Bool.false))) []))))
     (.out (Out.ret (AV.p (PV.sc (Value.bool Bool.false))) []))))
   (.test (Decidable.decide (((IntKind.i64.wrap a).tmod 65536).tmod 4294967296 < 0))
    (.test (IntKind.u32.wrap (IntKind.i32.wrap (IntKind.i16.wrap a)) == IntKind.u32.wrap (IntKind.i64.wrap (((IntKind.i64.wrap a).tmod 65536).tmod 4294967296 + 4294967296)))
     (.test (Decidable.decide (IntKind.i64.wrap a ≥ 2147483648))
      (.test (IntKind.i64.wrap (IntKind.i32.wrap a) == IntKind.i64.wrap (IntKind.i64.wrap a - 4294967296))
       (.call ⟨9, [], [], AV.p (PV.sc (Value.bool Bool.true)), []⟩
        (.out (Out.ret (AV.p (PV.sc (Value.bool Bool.true))) [])))
       (.out (Out.ret (AV.p (PV.sc (Value.bool Bool.false))) [])))
      (.test (IntKind.i64.wrap (IntKind.i32.wrap a) == IntKind.i64.wrap a)
       (.call ⟨9, [], [], AV.p (PV.sc (Value.bool Bool.true)), []⟩
        (.out (Out.ret (AV.p (PV.sc (Value.bool Bool.true))) [])))
       (.out (Out.ret (AV.p (PV.sc (Value.bool Bool.false))) []))))
     (.out (Out.ret (AV.p (PV.sc (Value.bool Bool.false))) [])))
    (.test (IntKind.u32.wrap (IntKind.i32.wrap (IntKind.i16.wrap a)) == IntKind.u32.wrap (((IntKind.i64.wrap a).tmod 65536).tmod 4294967296))
     (.test (Decidable.decide (IntKind.i64.wrap a ≥ 2147483648))
      (.test (IntKind.i64.wrap (IntKind.i32.wrap a) == IntKind.i64.wrap (IntKind.i64.wrap a - 4294967296))
       (.call ⟨9, [], [], AV.p (PV.sc (Value.bool Bool.true)), []⟩
        (.out (Out.ret (AV.p (PV.sc (Value.bool Bool.true))) [])))
       (.out (Out.ret (AV.p (PV.sc (Value.bool Bool.false))) [])))
      (.test (IntKind.i64.wrap (IntKind.i32.wrap a) == IntKind.i64.wrap a)
       (.call ⟨9, [], [], AV.p (PV.sc (Value.bool Bool.true)), []⟩
        (.out (Out.ret (AV.p (PV.sc (Value.bool Bool.true))) [])))
       (.out (Out.ret (AV.p (PV.sc (Value.bool Bool.false))) []))))
     (.out (Out.ret (AV.p (PV.sc (Value.bool Bool.false))) [])))))
theorem wide16_tree (a : Int) : growF Try.prog noGlob wide16Orc 1000000 6 ([AV.p (PV.sc (Value.int IntKind.u32 a)), AV.p (PV.sc (Value.int IntKind.i64 16))]) [] wide16Sc = wide16Tree a := by kernel_rfl

/- wide: 185 steps -/
def wideOrc : Orc := orc numCall [] [(12, 0, 0), (12, 0, 1), (13, 2, 3), (13, 0, 0), (14, 0, 0), (6, 4, 16)] []
def wideSc : Sc := (.no (.no (.yes (.yes .fin))))
def wideTree (a : Int) (bits : Int) : Tree :=
  (.must (!(bits == 8))
   (.must (!(bits == 16))
    (.must (bits != 8)
     (.must (bits != 16)
      (.test (Decidable.decide (IntKind.i64.wrap a ≥ 2147483648))
       (.test (IntKind.i64.wrap (IntKind.i32.wrap a) == IntKind.i64.wrap (IntKind.i64.wrap a - 4294967296))
        (.call ⟨9, [], [], AV.p (PV.sc (Value.bool Bool.true)), []⟩
         (.out (Out.ret (AV.p (PV.sc (Value.bool Bool.true))) [])))
        (.out (Out.ret (AV.p (PV.sc (Value.bool Bool.false))) [])))
       (.test (IntKind.i64.wrap (IntKind.i32.wrap a) == IntKind.i64.wrap a)
        (.call ⟨9, [], [], AV.p (PV.sc (Value.bool Bool.true)), []⟩
         (.out (Out.ret (AV.p (PV.sc (Value.bool Bool.true))) [])))
        (.out (Out.ret (AV.p (PV.sc (Value.bool Bool.false))) []))))))))
theorem wide_tree (a : Int) (bits : Int) : growF Try.prog noGlob wideOrc 1000000 6 ([AV.p (PV.sc (Value.int IntKind.u32 a)), AV.p (PV.sc (Value.int IntKind.i64 bits))]) [] wideSc = wideTree a bits := by kernel_rfl


theorem wide8_ok {a : Int} (h : 0 ≤ a ∧ a ≤ 4294967295) : (wide8Tree a).ok Try.prog noGlob (.ret (sB true) []) := by
  have e : IntKind.i64.wrap a = a := i64In (by omega) (by omega)
  have e1 : a.tmod 256 = a % 256 := tmodPos h.1
  have e2 : (a % 256).tmod 4294967296 = a % 256 := tmodSmall (by omega) (by omega)
  have e3 : IntKind.i64.wrap (a % 256 - 256) = a % 256 - 256 := i64In (by omega) (by omega)
  have e4 : (a % 256 - 256).tmod 4294967296 = a % 256 - 256 := tmodSmall (by omega) (by omega)
  simp [wide8Tree, Tree.ok, awake, sB, e, e1, e2, e3, e4, wI8, wI32, wI64, wU32]
  omega

theorem wide16_ok {a : Int} (h : 0 ≤ a ∧ a ≤ 4294967295) : (wide16Tree a).ok Try.prog noGlob (.ret (sB true) []) := by
  have e : IntKind.i64.wrap a = a := i64In (by omega) (by omega)
  have e1 : a.tmod 65536 = a % 65536 := tmodPos h.1
  have e2 : (a % 65536).tmod 4294967296 = a % 65536 := tmodSmall (by omega) (by omega)
  have e3 : IntKind.i64.wrap (a % 65536 - 65536) = a % 65536 - 65536 := i64In (by omega) (by omega)
  have e4 : (a % 65536 - 65536).tmod 4294967296 = a % 65536 - 65536 := tmodSmall (by omega) (by omega)
  simp [wide16Tree, Tree.ok, awake, sB, e, e1, e2, e3, e4, wI16, wI32, wI64, wU32]
  omega

theorem wide_ok {a n : Int} (h : 0 ≤ a ∧ a ≤ 4294967295) (h8 : n ≠ 8) (h16 : n ≠ 16) : (wideTree a n).ok Try.prog noGlob (.ret (sB true) []) := by
  simp [wideTree, Tree.ok, awake, sB, h8, h16, wI32, wI64]
  omega

theorem wide_does {a n : Int} (h : 0 ≤ a ∧ a ≤ 4294967295) : Does Try.prog noGlob 6 [.p (.sc (.int .u32 a)), .p (.sc (.int .i64 n))] [] (sB true) [] := by
  by_cases h8 : n = 8
  · subst h8; exact does_of_tree names (wide8_tree a) (wide8_ok h)
  by_cases h16 : n = 16
  · subst h16; exact does_of_tree names (wide16_tree a) (wide16_ok h)
  exact does_of_tree names (wide_tree a n) (wide_ok h h8 h16)

end Go.Proofs.Ythllpmannpolcaa.N
