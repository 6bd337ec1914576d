/-
  NumDivides: its trees (printed by a program of mine), and that they are right.
-/
import Derived.Test.YthllpmannpolcaaNumA
namespace Go.Proofs.Ythllpmannpolcaa.N
open Go Go.Am

/- divides0: 1174 steps -/
def divides0Orc : Orc := orc numCall [] [(16, 3, 3)] []
def divides0Sc : Sc := (.fork (.yes (.yes (.yes .fin))) (.no (.no (.no .fin))))
def divides0Tree (a : Int) : Tree :=
  (.call ⟨9, [], [], AV.p (PV.sc (Value.bool Bool.true)), []⟩
   (.test (a == 2147483648)
    (.must (a == 2147483648)
     (.must (a == 2147483648)
      (.must (a == 2147483648)
       (.out (Out.ret (AV.p (PV.sc (Value.bool Bool.true))) [])))))
    (.must (!(a == 2147483648))
     (.must (!(a == 2147483648))
      (.must (!(a == 2147483648))
       (.out (Out.ret (AV.p (PV.sc (Value.bool Bool.true))) [])))))))
theorem divides0_tree (a : Int) : growF Try.prog noGlob divides0Orc 1000000 4 ([AV.p (PV.sc (Value.int IntKind.u32 a)), AV.p (PV.sc (Value.int IntKind.u32 0))]) [] divides0Sc = divides0Tree a := by kernel_rfl

/- divides: 1924 steps -/
def dividesOrc : Orc := orc numCall [] [(16, 3, 3), (16, 0, 0), (16, 10, 2), (16, 0, 4), (4, 0, 0), (4, 9, 20), (4, 0, 1), (4, 11, 3), (4, 0, 2)] [(16, 7, 2), (16, 9, 2), (16, 15, 2), (16, 16, 2)]
def dividesSc : Sc := (.fork (.no (.yes (.no (.yes (.no (.fork (.yes (.no (.yes (.yes (.no (.fork (.lit .fin) (.fork .fin (.yes .fin)))))))) (.no (.yes (.no (.no (.no (.no (.fork (.lit .fin) (.fork .fin (.yes .fin))))))))))))))) (.no (.no (.no (.no (.no (.lit (.lit (.no (.no (.lit (.lit (.no (.fork (.lit .fin) (.fork .fin (.no (.lit .fin)))))))))))))))))
def dividesTree (a : Int) (b : Int) : Tree :=
  (.call ⟨9, [], [], AV.p (PV.sc (Value.bool Bool.true)), []⟩
   (.test (a == 2147483648)
    (.must (!(b == 0))
     (.must (Bool.true && !b == 0 && Bool.true)
      (.must (a == 2147483648)
       (.must (!(b == 0))
        (.must (Bool.true && !b == 0 && Bool.true)
         (.must (a == 2147483648)
          (.must (!(b == 0))
           (.test (IntKind.i32.wrap b == -1)
            (.must (a == 2147483648)
             (.must (!(b == 0))
              (.must (IntKind.i32.wrap b == -1)
               (.must (IntKind.i32.wrap b == -1)
                (.must (!(b == 0))
                 (.test (IntKind.u32.wrap (IntKind.u32.wrap (IntKind.u32.wrap (a.tdiv b) * b) + a.tmod b) != a)
                  (.out (Out.ret (AV.p (PV.sc (Value.bool Bool.false))) []))
                  (.test (Decidable.decide (a.tmod b ≥ b))
                   (.out (Out.ret (AV.p (PV.sc (Value.bool Bool.false))) []))
                   (.must (a == 2147483648)
                    (.test (b == 4294967295)
                     (.out (Out.ret (AV.p (PV.sc (Value.bool Bool.true))) []))
                     (.out (Out.ret (AV.p (PV.sc (Value.bool Bool.false))) [])))))))))))
            (.must (!(IntKind.i32.wrap b == -1))
             (.must (Bool.true && !IntKind.i32.wrap b == 0 && Bool.true)
              (.must (a == 2147483648)
               (.must (!(b == 0))
                (.must (!(IntKind.i32.wrap b == -1))
                 (.must (!(IntKind.i32.wrap b == -1))
                  (.must (Bool.true && !IntKind.i32.wrap b == 0 && Bool.true)
                   (.must (!(b == 0))
                    (.test (IntKind.u32.wrap (IntKind.u32.wrap (IntKind.u32.wrap (a.tdiv b) * b) + a.tmod b) != a)
                     (.out (Out.ret (AV.p (PV.sc (Value.bool Bool.false))) []))
                     (.test (Decidable.decide (a.tmod b ≥ b))
                      (.out (Out.ret (AV.p (PV.sc (Value.bool Bool.false))) []))
                      (.must (a == 2147483648)
                       (.test (b == 4294967295)
                        (.out (Out.ret (AV.p (PV.sc (Value.bool Bool.false))) []))
                        (.out (Out.ret (AV.p (PV.sc (Value.bool (IntKind.u32.wrap (IntKind.u32.wrap (IntKind.u32.wrap (IntKind.i32.wrap ((IntKind.i32.wrap a).tdiv (IntKind.i32.wrap b))) * b) + IntKind.u32.wrap ((IntKind.i32.wrap a).tmod (IntKind.i32.wrap b))) == a)))) []))))))))))))))))))))))
    (.must (!(b == 0))
     (.must (Bool.true && !b == 0 && Bool.true)
      (.must (!(a == 2147483648))
       (.must (!(b == 0))
        (.must (Bool.true && !b == 0 && Bool.true)
         (.must (!(a == 2147483648))
          (.must (!(b == 0))
           (.must (Bool.true && !IntKind.i32.wrap b == 0 && Bool.true)
            (.must (!(a == 2147483648))
             (.must (!(b == 0))
              (.must (Bool.true && !IntKind.i32.wrap b == 0 && Bool.true)
               (.must (!(b == 0))
                (.test (IntKind.u32.wrap (IntKind.u32.wrap (IntKind.u32.wrap (a.tdiv b) * b) + a.tmod b) != a)
                 (.out (Out.ret (AV.p (PV.sc (Value.bool Bool.false))) []))
                 (.test (Decidable.decide (a.tmod b ≥ b))
                  (.out (Out.ret (AV.p (PV.sc (Value.bool Bool.false))) []))
                  (.must (!(a == 2147483648))
                   (.out (Out.ret (AV.p (PV.sc (Value.bool (IntKind.u32.wrap (IntKind.u32.wrap (IntKind.u32.wrap (IntKind.i32.wrap ((IntKind.i32.wrap a).tdiv (IntKind.i32.wrap b))) * b) + IntKind.u32.wrap ((IntKind.i32.wrap a).tmod (IntKind.i32.wrap b))) == a)))) [])))))))))))))))))))
theorem divides_tree (a : Int) (b : Int) : growF Try.prog noGlob dividesOrc 1000000 4 ([AV.p (PV.sc (Value.int IntKind.u32 a)), AV.p (PV.sc (Value.int IntKind.u32 b))]) [] dividesSc = dividesTree a b := by kernel_rfl


theorem uDiv {a b : Int} (h : 0 ≤ a ∧ a ≤ 4294967295) (hb : 0 < b) : IntKind.u32.wrap (IntKind.u32.wrap (IntKind.u32.wrap (a.tdiv b) * b) + a.tmod b) = a := by
  rw [tdivPos h.1, tmodPos h.1]
  have h1 := Int.mul_ediv_add_emod a b
  have h2 : 0 ≤ a / b := Int.ediv_nonneg h.1 (by omega)
  have h3 : a / b ≤ a := Int.ediv_le_self b h.1
  have h4 : 0 ≤ a % b := Int.emod_nonneg a (by omega)
  have h5 : 0 ≤ b * (a / b) := Int.mul_nonneg (by omega) h2
  rw [u32In (n := a / b) h2 (by omega), Int.mul_comm (a / b) b]
  generalize b * (a / b) = p at *
  rw [u32In (n := p) h5 (by omega), h1, u32In h.1 h.2]

theorem sDiv {a b : Int} (h : 0 ≤ a ∧ a ≤ 4294967295) :
    IntKind.u32.wrap (IntKind.u32.wrap (IntKind.u32.wrap (IntKind.i32.wrap ((IntKind.i32.wrap a).tdiv (IntKind.i32.wrap b))) * b) + IntKind.u32.wrap ((IntKind.i32.wrap a).tmod (IntKind.i32.wrap b))) = a := by
  have h1 := Int.mul_tdiv_add_tmod (IntKind.i32.wrap a) (IntKind.i32.wrap b)
  generalize hq : (IntKind.i32.wrap a).tdiv (IntKind.i32.wrap b) = q at *
  generalize (IntKind.i32.wrap a).tmod (IntKind.i32.wrap b) = r at *
  have h2 : (IntKind.u32.wrap (IntKind.i32.wrap q) * b) % 4294967296 = (IntKind.i32.wrap b * q) % 4294967296 := by
    rw [Int.mul_emod, Int.mul_emod (IntKind.i32.wrap b) q, Int.mul_comm]
    have e1 : b % 4294967296 = IntKind.i32.wrap b % 4294967296 := by rw [wI32]; omega
    have e2 : IntKind.u32.wrap (IntKind.i32.wrap q) % 4294967296 = q % 4294967296 := by rw [wI32, wU32]; omega
    rw [e1, e2]
  rw [wU32 (_ * b), h2]
  generalize IntKind.i32.wrap b * q = p at *
  rw [wI32] at h1
  rw [wU32, wU32]
  omega

theorem divides0_ok {a : Int} : (divides0Tree a).ok Try.prog noGlob (.ret (sB true) []) := by
  simp [divides0Tree, Tree.ok, awake, sB]

theorem divides_ok {a b : Int} (h : 0 ≤ a ∧ a ≤ 4294967295) (h' : 0 ≤ b ∧ b ≤ 4294967295) (hb : b ≠ 0) : (dividesTree a b).ok Try.prog noGlob (.ret (sB true) []) := by
  have e1 := uDiv h (show 0 < b by omega)
  have e2 := sDiv (b := b) h
  have e3 : ¬ (b ≤ a.tmod b) := by
    rw [tmodPos h.1]
    have := Int.emod_lt_of_pos a (show 0 < b by omega)
    omega
  have e4 : IntKind.i32.wrap b ≠ 0 := by rw [wI32]; omega
  have e5 : IntKind.i32.wrap b = -1 ↔ b = 4294967295 := by rw [wI32]; omega
  simp [dividesTree, Tree.ok, awake, sB, hb, e1, e2, e3, e4, e5]
  omega

theorem divides_does {a b : Int} (h : 0 ≤ a ∧ a ≤ 4294967295) (h' : 0 ≤ b ∧ b ≤ 4294967295) : Does Try.prog noGlob 4 [.p (.sc (.int .u32 a)), .p (.sc (.int .u32 b))] [] (sB true) [] := by
  by_cases hb : b = 0
  · subst hb; exact does_of_tree names (divides0_tree a) divides0_ok
  exact does_of_tree names (divides_tree a b) (divides_ok h h' hb)

end Go.Proofs.Ythllpmannpolcaa.N
