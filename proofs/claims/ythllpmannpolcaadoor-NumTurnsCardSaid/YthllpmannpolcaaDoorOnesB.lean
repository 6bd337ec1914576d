/-
  NumOnes: the bits ahead of the first, those behind, and their number: what the code's tables tell.
-/
import Derived.Test.YthllpmannpolcaaDoorOnesA
namespace Go.Proofs.YthllpmannpolcaaDoor.N
open Go Go.Am

theorem w64 {n : Int} (h0 : -9223372036854775808 ≤ n) (h1 : n < 9223372036854775808) : IntKind.i64.wrap n = n := by rw [wI64]; omega
theorem u32N {N : Nat} (h : N < 4294967296) : IntKind.u32.wrap (N : Int) = (N : Int) := by rw [wU32]; omega

theorem bitI_tb (A j : Nat) : bitI (A : Int) (j : Int) = ((A.testBit j).toNat : Int) := by
  simp only [bitI, Int.toNat_natCast, Nat.toNat_testBit]

theorem bit_does {A j : Nat} (hA : A < 4294967296) (hj : j < 32) : Does Tryd.prog tabEnv 19 [.p (.sc (.int .u32 A)), .p (.sc (.int .i64 j))] [] (.p (.sc (.int .i64 (bitI A j)))) [] := by
  refine does_of_tree names (refBit_tree A j) ?_
  have hm : Min.min j IntKind.i64.bits = j := by
    have : IntKind.i64.bits = 64 := rfl
    rw [this]; omega
  have e : ((2 : Int) ^ j) = ((2 ^ j : Nat) : Int) := by simp
  simp only [refBitTree, Tree.ok, w64 (n := (A : Int)) (by omega) (by omega), Int.toNat_natCast, hm, e]
  rw [Int.fdiv_eq_ediv_of_nonneg _ (Int.natCast_nonneg _), Int.tmod_eq_emod_of_nonneg (Int.ediv_nonneg (Int.natCast_nonneg _) (Int.natCast_nonneg _))]
  refine ⟨by simp, ?_⟩
  simp only [bitI, Int.toNat_natCast]
  rfl

/-! The bits ahead of the first. -/
def clzGo (A : Nat) : Nat → Nat → Nat
  | 0, i => i
  | f + 1, i => cond (A.testBit (31 - i)) i (clzGo A f (i + 1))
def clzN (A : Nat) : Nat := clzGo A 32 0

theorem clzGo_spec {A : Nat} : ∀ (f i : Nat), f + i = 32 → A < 2 ^ (32 - i) → (clzGo A f i = 32 ∧ A = 0) ∨ (clzGo A f i < 32 ∧ 2 ^ (31 - clzGo A f i) ≤ A ∧ A < 2 ^ (32 - clzGo A f i))
  | 0, i, hi, hA => by
    obtain rfl : i = 32 := by omega
    simp only [Nat.sub_self, Nat.pow_zero] at hA
    exact .inl ⟨rfl, by omega⟩
  | f + 1, i, hi, hA => by
    have hp : 32 - i = (31 - i) + 1 := by omega
    have hd := Nat.toNat_testBit A (31 - i)
    have hpos : 0 < 2 ^ (31 - i) := Nat.pow_pos (by omega)
    rw [hp, Nat.pow_succ] at hA
    simp only [clzGo]
    cases hb : A.testBit (31 - i) with
    | true =>
      rw [hb] at hd
      have : 1 ≤ A / 2 ^ (31 - i) := by
        rcases Nat.eq_zero_or_pos (A / 2 ^ (31 - i)) with h | h
        · rw [h] at hd; simp at hd
        · exact h
      refine .inr ⟨by simp only [cond_true]; omega, ?_, ?_⟩
      · simp only [cond_true]
        have := (Nat.le_div_iff_mul_le hpos).1 this
        omega
      · simp only [cond_true, hp, Nat.pow_succ]; omega
    | false =>
      rw [hb] at hd
      simp only [cond_false]
      refine clzGo_spec f (i + 1) (by omega) ?_
      have hlt : A / 2 ^ (31 - i) < 2 := Nat.div_lt_of_lt_mul (by omega)
      have h0 : A / 2 ^ (31 - i) = 0 := by
        generalize A / 2 ^ (31 - i) = q at *
        simp at hd; omega
      have := (Nat.div_eq_zero_iff).1 h0
      have e : 32 - (i + 1) = 31 - i := by omega
      rw [e]; omega

theorem clzN_spec {A : Nat} (h : A < 4294967296) : (clzN A = 32 ∧ A = 0) ∨ (clzN A < 32 ∧ 2 ^ (31 - clzN A) ≤ A ∧ A < 2 ^ (32 - clzN A)) := clzGo_spec 32 0 rfl h

/-- Its place is told by bounds. -/
theorem clzN_eq {A n : Nat} (hn : n < 32) (h : 2 ^ (31 - n) ≤ A) (h' : A < 2 ^ (32 - n)) : clzN A = n := by
  have hA : A < 2 ^ 32 := Nat.lt_of_lt_of_le h' (Nat.pow_le_pow_right (by omega) (by omega))
  rcases clzN_spec (A := A) hA with ⟨_, h0⟩ | ⟨h1, h2, h3⟩
  · have : 0 < 2 ^ (31 - n) := Nat.pow_pos (by omega)
    omega
  · rcases Nat.lt_trichotomy (clzN A) n with q | q | q
    · have : 2 ^ (32 - n) ≤ 2 ^ (31 - clzN A) := Nat.pow_le_pow_right (by omega) (by omega)
      omega
    · exact q
    · have : 2 ^ (32 - clzN A) ≤ 2 ^ (31 - n) := Nat.pow_le_pow_right (by omega) (by omega)
      omega

/-! The bits behind the last. -/
def ctzGo (A : Nat) : Nat → Nat → Nat
  | 0, i => i
  | f + 1, i => cond (A.testBit i) i (ctzGo A f (i + 1))
def ctzN (A : Nat) : Nat := ctzGo A 32 0

theorem ctzGo_spec {A : Nat} : ∀ (f i : Nat), f + i = 32 → A % 2 ^ i = 0 → (ctzGo A f i = 32 ∧ A % 2 ^ 32 = 0) ∨ (ctzGo A f i < 32 ∧ A % 2 ^ (ctzGo A f i + 1) = 2 ^ ctzGo A f i)
  | 0, i, hi, hA => by
    obtain rfl : i = 32 := by omega
    exact .inl ⟨rfl, hA⟩
  | f + 1, i, hi, hA => by
    have hd := Nat.toNat_testBit A i
    have hm : A % 2 ^ (i + 1) = 2 ^ i * (A / 2 ^ i % 2) + A % 2 ^ i := by rw [Nat.pow_succ, Nat.mod_mul, Nat.add_comm]
    simp only [ctzGo]
    cases hb : A.testBit i with
    | true =>
      rw [hb] at hd
      simp only [cond_true]
      refine .inr ⟨by omega, ?_⟩
      rw [hm, ← hd, hA]; simp
    | false =>
      rw [hb] at hd
      simp only [cond_false]
      refine ctzGo_spec f (i + 1) (by omega) ?_
      rw [hm, ← hd, hA]; simp

theorem ctzN_spec {A : Nat} (h : A < 4294967296) : (ctzN A = 32 ∧ A = 0) ∨ (ctzN A < 32 ∧ A % 2 ^ (ctzN A + 1) = 2 ^ ctzN A) := by
  rcases ctzGo_spec (A := A) 32 0 rfl (by rw [Nat.pow_zero, Nat.mod_one]) with ⟨h1, h2⟩ | h1
  · refine .inl ⟨h1, ?_⟩
    have : (2 : Nat) ^ 32 = 4294967296 := by decide
    rw [this] at h2; omega
  · exact .inr h1

/-- A word and what is left of it to a power: the lowest bit alone. -/
theorem low_bit {A n : Nat} (hn : n < 32) (hA : A < 4294967296) (h : A % 2 ^ (n + 1) = 2 ^ n) : A &&& (4294967296 - A) = 2 ^ n := by
  have hpos : 0 < 2 ^ n := Nat.pow_pos (by omega)
  have hA0 : 0 < A := by
    rcases Nat.eq_zero_or_pos A with q | q
    · rw [q] at h; simp at h; omega
    · exact q
  obtain ⟨q, hq⟩ : ∃ q, A = 2 ^ (n + 1) * q + 2 ^ n := ⟨A / 2 ^ (n + 1), by rw [← h]; exact (Nat.div_add_mod _ _).symm⟩
  have e1 : 4294967296 - A = 2 ^ 32 - ((A - 1) + 1) := by omega
  have e2 : A - 1 = 2 ^ (n + 1) * q + (2 ^ n - 1) := by omega
  have hlt1 : 2 ^ n < 2 ^ (n + 1) := Nat.pow_lt_pow_right (by omega) (by omega)
  apply Nat.eq_of_testBit_eq
  intro i
  rw [Nat.testBit_and, e1, Nat.testBit_two_pow_sub_succ (by omega), e2]
  have hb1 : A.testBit i = if i < n + 1 then (2 ^ n).testBit i else q.testBit (i - (n + 1)) := by rw [hq, Nat.testBit_two_pow_mul_add _ hlt1]
  rw [hb1, Nat.testBit_two_pow_mul_add _ (by omega), Nat.testBit_two_pow, Nat.testBit_two_pow_sub_one]
  by_cases hi : i < n + 1
  · rw [if_pos hi, if_pos hi]
    by_cases hin : n = i
    · subst hin; simp; omega
    · have : i < n := by omega
      simp [hin, this]
  · rw [if_neg hi, if_neg hi]
    have : n ≠ i := by omega
    simp [this]
    intro h _; exact h

/-! Their number. -/
def popN (A : Nat) : Nat → Nat
  | 0 => 0
  | k + 1 => popN A k + (A.testBit k).toNat

theorem popN_le (A : Nat) : ∀ k, popN A k ≤ k
  | 0 => Nat.le_refl _
  | k + 1 => by
    have := popN_le A k
    have : (A.testBit k).toNat ≤ 1 := Bool.toNat_le _
    simp only [popN]; omega

theorem len_tab : ∀ x, x < 256 → lenTab.getD x 0 = UInt8.ofNat (32 - clzN x) := by decide +kernel
theorem pop_tab : ∀ x, x < 256 → popTab.getD x 0 = UInt8.ofNat (popN x 8) := by decide +kernel

end Go.Proofs.YthllpmannpolcaaDoor.N
