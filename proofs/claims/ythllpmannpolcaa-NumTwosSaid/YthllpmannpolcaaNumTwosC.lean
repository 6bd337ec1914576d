/-
  NumTwos: bit by bit, moved, turned: the document's fold of bits is the number.
-/
import Derived.Test.YthllpmannpolcaaNumTwosB
namespace Go.Proofs.Ythllpmannpolcaa.N
open Go Go.Am

theorem foldI_eq {N : Nat} (hN : N < 4294967296) {f : Int → Int} (hf : ∀ i : Nat, i < 32 → f (i : Int) = ((N.testBit i).toNat : Int)) :
    ∀ k, k ≤ 32 → foldI f k = ((N / 2 ^ (32 - k) : Nat) : Int) := by
  intro k
  induction k with
  | zero => intro _; simp only [foldI]; rw [Nat.div_eq_of_lt (by omega)]; rfl
  | succ k ih =>
    intro hk
    have e1 : (31 : Int) - (k : Int) = ((31 - k : Nat) : Int) := by omega
    have e2 : N / 2 ^ (32 - k) = N / 2 ^ (31 - k) / 2 := by
      have : 32 - k = (31 - k) + 1 := by omega
      rw [this, Nat.pow_succ, Nat.div_div_eq_div_mul]
    have e3 : 32 - (k + 1) = 31 - k := by omega
    simp only [foldI]
    rw [ih (by omega), e1, hf _ (by omega), e2, e3, Nat.toNat_testBit]
    have hle : N / 2 ^ (31 - k) ≤ N := Nat.div_le_self _ _
    generalize N / 2 ^ (31 - k) = M at *
    simp only [wI64]; omega

theorem twoW_eq {op a b : Int} {N : Nat} (h9 : 113 ≤ op) (hN : N < 4294967296) (hf : ∀ i : Nat, i < 32 → bitsN op a b (i : Int) = ((N.testBit i).toNat : Int)) : twoW op a b = (N : Int) := by
  have h := foldI_eq hN hf 32 (Nat.le_refl _)
  have n1 : ¬ (op = 109 ∨ op = 111) := by omega
  have n2 : ¬ (op = 110 ∨ op = 112) := by omega
  simp only [twoW, if_neg n1, if_neg n2, h]
  simp; rw [wU32]; omega

theorem twoE_eq {op a b : Int} (h9 : 113 ≤ op) : twoE op a b = 0 := by
  have n1 : ¬ (op = 109 ∨ op = 111) := by omega
  have n2 : ¬ (op = 110 ∨ op = 112) := by omega
  simp only [twoE, if_neg n1, if_neg n2]

theorem bitI_tb (A j : Nat) : bitI (A : Int) (j : Int) = ((A.testBit j).toNat : Int) := by
  simp only [bitI, Int.toNat_natCast, Nat.toNat_testBit]

theorem bv32 {A : Nat} (h : A < 4294967296) : (BitVec.ofInt IntKind.u32.bits (A : Int)).toNat = A := by
  have : IntKind.u32.bits = 32 := rfl
  simp only [this, BitVec.toNat_ofInt]
  omega

theorem and31 (x : Int) : ((BitVec.ofInt IntKind.u32.bits x &&& BitVec.ofInt IntKind.u32.bits 31).toNat : Int) = x % 32 := by
  have : IntKind.u32.bits = 32 := rfl
  simp only [this, BitVec.toNat_and, BitVec.toNat_ofInt]
  have e : ((31 : Int) % ((2 ^ 32 : Nat) : Int)).toNat = 2 ^ 5 - 1 := by decide
  rw [e, Nat.and_two_pow_sub_one_eq_mod]
  omega

theorem and31w (x : Int) : ((BitVec.ofInt IntKind.u64.bits x &&& BitVec.ofInt IntKind.u64.bits 31).toNat : Int) = x % 32 := by
  have : IntKind.u64.bits = 64 := rfl
  simp only [this, BitVec.toNat_and, BitVec.toNat_ofInt]
  have e : ((31 : Int) % ((2 ^ 64 : Nat) : Int)).toNat = 2 ^ 5 - 1 := by decide
  rw [e, Nat.and_two_pow_sub_one_eq_mod]
  omega

theorem tbBig {A j : Nat} (h : A < 4294967296) (hj : 32 ≤ j) : A.testBit j = false := by
  apply Nat.testBit_lt_two_pow
  exact Nat.lt_of_lt_of_le h (Nat.pow_le_pow_right (by omega : 0 < 2) hj)

def rotN (A s : Nat) : Nat := (A * 2 ^ s % 4294967296) ||| (A / 2 ^ (32 - s))

theorem or_lt {x y : Nat} (hx : x < 4294967296) (hy : y < 4294967296) : x ||| y < 4294967296 :=
  Nat.or_lt_two_pow (n := 32) hx hy

theorem rotN_lt {A s : Nat} (h : A < 4294967296) : rotN A s < 4294967296 :=
  or_lt (Nat.mod_lt _ (by omega)) (Nat.lt_of_le_of_lt (Nat.div_le_self _ _) h)

theorem shl_bit (A s : Nat) {i : Nat} (hi : i < 32) : (A * 2 ^ s % 4294967296).testBit i = (decide (s ≤ i) && A.testBit (i - s)) := by
  have : (4294967296 : Nat) = 2 ^ 32 := by decide
  rw [this, Nat.testBit_mod_two_pow, ← Nat.shiftLeft_eq, Nat.testBit_shiftLeft]
  simp [hi]

theorem shr_bit (A s i : Nat) : (A / 2 ^ s).testBit i = A.testBit (s + i) := by
  rw [← Nat.shiftRight_eq_div_pow, Nat.testBit_shiftRight]

theorem rot_bit {A s i : Nat} (h : A < 4294967296) (hs : s < 32) (hi : i < 32) : (rotN A s).testBit i = A.testBit ((i + 32 - s) % 32) := by
  simp only [rotN, Nat.testBit_or, shl_bit A s hi, shr_bit]
  by_cases hc : s ≤ i
  · have e : (i + 32 - s) % 32 = i - s := by omega
    rw [e, tbBig (j := 32 - s + i) h (by omega)]; simp [hc]
  · have e : (i + 32 - s) % 32 = 32 - s + i := by omega
    rw [e]; simp [hc]

end Go.Proofs.Ythllpmannpolcaa.N
