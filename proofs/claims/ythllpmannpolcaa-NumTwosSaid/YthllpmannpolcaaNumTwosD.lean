/-
  NumTwos: bit by bit, moved, turned: both sides tell the same.
-/
import Derived.Test.YthllpmannpolcaaNumTwosC
namespace Go.Proofs.Ythllpmannpolcaa.N
open Go Go.Am

theorem u32N {N : Nat} (h : N < 4294967296) : IntKind.u32.wrap (N : Int) = (N : Int) := by rw [wU32]; omega

theorem numAnd_does {A B : Nat} (hA : A < 4294967296) (hB : B < 4294967296) : Does Try.prog noGlob 7 [.p (.sc (.int .i64 113)), .p (.sc (.int .u32 A)), .p (.sc (.int .u32 B))] [] (pairI (twoW 113 A B) (twoE 113 A B)) [] := by
  refine does_of_tree names (numAnd_tree A B) ?_
  have hN : A &&& B < 4294967296 := Nat.lt_of_le_of_lt Nat.and_le_left hA
  rw [twoW_eq (by omega) hN, twoE_eq (by omega)]
  · simp only [numAndTree, Tree.ok, BitVec.toNat_and, bv32 hA, bv32 hB, u32N hN, pairI]
  · intro i hi
    simp only [bitsN, bitI_tb, Nat.testBit_and]
    cases A.testBit i <;> cases B.testBit i <;> rfl

theorem numOr_does {A B : Nat} (hA : A < 4294967296) (hB : B < 4294967296) : Does Try.prog noGlob 7 [.p (.sc (.int .i64 114)), .p (.sc (.int .u32 A)), .p (.sc (.int .u32 B))] [] (pairI (twoW 114 A B) (twoE 114 A B)) [] := by
  refine does_of_tree names (numOr_tree A B) ?_
  have hN : A ||| B < 4294967296 := or_lt hA hB
  rw [twoW_eq (by omega) hN, twoE_eq (by omega)]
  · simp only [numOrTree, Tree.ok, BitVec.toNat_or, bv32 hA, bv32 hB, u32N hN, pairI]
  · intro i hi
    simp only [bitsN, bitI_tb, Nat.testBit_or]
    cases A.testBit i <;> cases B.testBit i <;> rfl

theorem numXor_does {A B : Nat} (hA : A < 4294967296) (hB : B < 4294967296) : Does Try.prog noGlob 7 [.p (.sc (.int .i64 115)), .p (.sc (.int .u32 A)), .p (.sc (.int .u32 B))] [] (pairI (twoW 115 A B) (twoE 115 A B)) [] := by
  refine does_of_tree names (numXor_tree A B) ?_
  have hN : A ^^^ B < 4294967296 := Nat.xor_lt_two_pow (n := 32) hA hB
  rw [twoW_eq (by omega) hN, twoE_eq (by omega)]
  · simp only [numXorTree, Tree.ok, BitVec.toNat_xor, bv32 hA, bv32 hB, u32N hN, pairI]
  · intro i hi
    simp only [bitsN, bitI_tb, Nat.testBit_xor]
    cases A.testBit i <;> cases B.testBit i <;> rfl

theorem kNat (B : Nat) : IntKind.u32.wrap ((B : Int) % 32) = ((B % 32 : Nat) : Int) := by rw [wU32]; omega

theorem min32 {k : Nat} (h : k ≤ 32) : Min.min k IntKind.u32.bits = k := by
  have : IntKind.u32.bits = 32 := rfl
  rw [this]; omega
theorem min32s {k : Nat} (h : k ≤ 32) : Min.min k IntKind.i32.bits = k := by
  have : IntKind.i32.bits = 32 := rfl
  rw [this]; omega

theorem mulPow (A k : Nat) : IntKind.u32.wrap ((A : Int) * 2 ^ k) = ((A * 2 ^ k % 4294967296 : Nat) : Int) := by
  rw [wU32]; simp

theorem fdivPow (A k : Nat) : (A : Int).fdiv (2 ^ k) = ((A / 2 ^ k : Nat) : Int) := by
  have e : ((2 : Int) ^ k) = ((2 ^ k : Nat) : Int) := by simp
  rw [e, Int.fdiv_eq_ediv_of_nonneg _ (Int.natCast_nonneg _)]
  rfl

theorem b32 {B k : Nat} (h : k = B % 32) : (B : Int) % 32 = (k : Int) := by omega

theorem bitsN116 (a b i : Int) : bitsN 116 a b i = if b % 32 ≤ i then bitI a (i - b % 32) else 0 := rfl
theorem bitsN117 (a b i : Int) : bitsN 117 a b i = if i + b % 32 < 32 then bitI a (i + b % 32) else bitI a 31 := rfl

theorem numShl_does {A B : Nat} (_ : A < 4294967296) (_ : B < 4294967296) : Does Try.prog noGlob 7 [.p (.sc (.int .i64 116)), .p (.sc (.int .u32 A)), .p (.sc (.int .u32 B))] [] (pairI (twoW 116 A B) (twoE 116 A B)) [] := by
  refine does_of_tree names (numShl_tree A B) ?_
  have hN : A * 2 ^ (B % 32) % 4294967296 < 4294967296 := Nat.mod_lt _ (by omega)
  rw [twoW_eq (by omega) hN, twoE_eq (by omega)]
  · simp only [numShlTree, Tree.ok, and31, kNat, Int.toNat_natCast, min32 (by omega : B % 32 ≤ 32), mulPow, pairI]
  · intro i hi
    rw [shl_bit _ _ hi]
    rw [bitsN116, b32 rfl]
    by_cases hc : B % 32 ≤ i
    · have e : (i : Int) - ((B % 32 : Nat) : Int) = ((i - B % 32 : Nat) : Int) := by omega
      have hc' : ((B % 32 : Nat) : Int) ≤ (i : Int) := by omega
      rw [if_pos hc', e, bitI_tb]; simp [hc]
    · have hc' : ¬ ((B % 32 : Nat) : Int) ≤ (i : Int) := by omega
      rw [if_neg hc']; simp [hc]

theorem numShrU_does {A B : Nat} (hA : A < 4294967296) (_ : B < 4294967296) : Does Try.prog noGlob 7 [.p (.sc (.int .i64 118)), .p (.sc (.int .u32 A)), .p (.sc (.int .u32 B))] [] (pairI (twoW 118 A B) (twoE 118 A B)) [] := by
  refine does_of_tree names (numShrU_tree A B) ?_
  have hN : A / 2 ^ (B % 32) < 4294967296 := Nat.lt_of_le_of_lt (Nat.div_le_self _ _) hA
  rw [twoW_eq (by omega) hN, twoE_eq (by omega)]
  · simp only [numShrUTree, Tree.ok, and31, kNat, Int.toNat_natCast, min32 (by omega : B % 32 ≤ 32), fdivPow, pairI]
  · intro i hi
    rw [shr_bit]
    simp only [bitsN, b32 rfl]
    have e : (i : Int) + ((B % 32 : Nat) : Int) = ((B % 32 + i : Nat) : Int) := by omega
    rw [e]
    by_cases hc : B % 32 + i < 32
    · have hc' : ((B % 32 + i : Nat) : Int) < 32 := by omega
      simp only [if_pos hc', bitI_tb]; rfl
    · have hc' : ¬ ((B % 32 + i : Nat) : Int) < 32 := by omega
      rw [tbBig hA (by omega)]
      simp only [if_neg hc']; rfl

/-- A word, its sign carried up to 64 bits. -/
def signUp (A : Nat) : Nat := if A < 2147483648 then A else A + 4294967296 * 4294967295

theorem signUp_fdiv {A : Nat} (hA : A < 4294967296) {k : Nat} (hk : k < 32) : IntKind.u32.wrap ((IntKind.i32.wrap (A : Int)).fdiv (2 ^ k)) = ((signUp A / 2 ^ k % 4294967296 : Nat) : Int) := by
  have e : ((2 : Int) ^ k) = ((2 ^ k : Nat) : Int) := by simp
  have hp : 0 < 2 ^ k := Nat.pow_pos (by omega)
  rw [e, Int.fdiv_eq_ediv_of_nonneg _ (Int.natCast_nonneg _)]
  have hd : ∃ q, 4294967296 = q * 2 ^ k := ⟨2 ^ (32 - k), by rw [← Nat.pow_add, (by omega : 32 - k + k = 32)]⟩
  obtain ⟨q, hq⟩ := hd
  by_cases h : A < 2147483648
  · have : IntKind.i32.wrap (A : Int) = (A : Int) := by rw [wI32]; omega
    rw [this, signUp, if_pos h, wU32]; simp
  · have : IntKind.i32.wrap (A : Int) = (A : Int) - 4294967296 := by rw [wI32]; omega
    rw [this, signUp, if_neg h, wU32]
    have e1 : (A : Int) - 4294967296 = (A : Int) + (-(q : Int)) * ((2 ^ k : Nat) : Int) := by
      have : (4294967296 : Int) = (q : Int) * ((2 ^ k : Nat) : Int) := by rw [← Int.natCast_mul, ← hq]; rfl
      rw [this, Int.neg_mul]; rfl
    have e2 : A + 4294967296 * 4294967295 = A + (4294967295 * q) * 2 ^ k := by
      rw [Nat.mul_assoc, ← hq, Nat.mul_comm]
    rw [e1, e2, Int.add_mul_ediv_right _ _ (by omega), Nat.add_mul_div_right _ _ hp]
    have : (A : Int) / ((2 ^ k : Nat) : Int) = ((A / 2 ^ k : Nat) : Int) := rfl
    rw [this]
    omega

theorem signUp_bit {A j : Nat} (hA : A < 4294967296) (hj : j < 64) : (signUp A).testBit j = if j < 32 then A.testBit j else A.testBit 31 := by
  have h31 : A.testBit 31 = decide (2147483648 ≤ A) := by
    rw [Nat.testBit_eq_decide_div_mod_eq]
    have : A / 2 ^ 31 % 2 = 1 ↔ 2147483648 ≤ A := by omega
    simp [this]
  by_cases h : A < 2147483648
  · rw [signUp, if_pos h]
    by_cases hc : j < 32
    · rw [if_pos hc]
    · rw [if_neg hc, tbBig hA (by omega), h31]; simp; omega
  · rw [signUp, if_neg h]
    have e : A + 4294967296 * 4294967295 = 2 ^ 32 * (2 ^ 32 - 1) + A := by omega
    rw [e, Nat.testBit_two_pow_mul_add _ (by omega)]
    by_cases hc : j < 32
    · simp [hc]
    · rw [if_neg hc, if_neg hc, h31, Nat.testBit_two_pow_sub_one]
      simp; omega

theorem numShrS_does {A B : Nat} (hA : A < 4294967296) (_ : B < 4294967296) : Does Try.prog noGlob 7 [.p (.sc (.int .i64 117)), .p (.sc (.int .u32 A)), .p (.sc (.int .u32 B))] [] (pairI (twoW 117 A B) (twoE 117 A B)) [] := by
  refine does_of_tree names (numShrS_tree A B) ?_
  have hN : signUp A / 2 ^ (B % 32) % 4294967296 < 4294967296 := Nat.mod_lt _ (by omega)
  rw [twoW_eq (by omega) hN, twoE_eq (by omega)]
  · simp only [numShrSTree, Tree.ok, and31, kNat, Int.toNat_natCast, min32s (by omega : B % 32 ≤ 32), signUp_fdiv hA (by omega : B % 32 < 32), pairI]
  · intro i hi
    have h32 : (4294967296 : Nat) = 2 ^ 32 := by decide
    rw [h32, Nat.testBit_mod_two_pow, shr_bit, signUp_bit hA (by omega)]
    rw [bitsN117, b32 rfl]
    have e : (i : Int) + ((B % 32 : Nat) : Int) = ((B % 32 + i : Nat) : Int) := by omega
    have e31 : (31 : Int) = ((31 : Nat) : Int) := rfl
    rw [e]
    by_cases hc : B % 32 + i < 32
    · have hc' : ((B % 32 + i : Nat) : Int) < 32 := by omega
      rw [if_pos hc', if_pos hc, bitI_tb]; simp [hi]
    · have hc' : ¬ ((B % 32 + i : Nat) : Int) < 32 := by omega
      rw [if_neg hc', if_neg hc, e31, bitI_tb]; simp [hi]

theorem numRotl_does {A B : Nat} (hA : A < 4294967296) (_ : B < 4294967296) : Does Try.prog noGlob 7 [.p (.sc (.int .i64 119)), .p (.sc (.int .u32 A)), .p (.sc (.int .u32 B))] [] (pairI (twoW 119 A B) (twoE 119 A B)) [] := by
  refine does_of_tree names (numRotl_tree A B) ?_
  rw [twoW_eq (by omega) (rotN_lt (s := B % 32) hA), twoE_eq (by omega)]
  · have hs : IntKind.u64.wrap (IntKind.u64.wrap (IntKind.i64.wrap (IntKind.u32.wrap ((B : Int) % 32))) % 32) = ((B % 32 : Nat) : Int) := by
      simp only [wU64, wI64, wU32]; omega
    have hd : IntKind.u64.wrap (32 - ((B % 32 : Nat) : Int)) = ((32 - B % 32 : Nat) : Int) := by rw [wU64]; omega
    have h1 : A * 2 ^ (B % 32) % 4294967296 < 4294967296 := Nat.mod_lt _ (by omega)
    have h2 : A / 2 ^ (32 - B % 32) < 4294967296 := Nat.lt_of_le_of_lt (Nat.div_le_self _ _) hA
    simp only [numRotlTree, Tree.ok, and31, and31w, hs, hd, Int.toNat_natCast, min32 (by omega : B % 32 ≤ 32), min32 (by omega : 32 - B % 32 ≤ 32), mulPow, fdivPow, BitVec.toNat_or, bv32 h1, bv32 h2, pairI]
    refine ⟨by simp, ?_⟩
    rw [← rotN, u32N (rotN_lt hA)]
  · intro i hi
    rw [rot_bit hA (by omega) hi]
    simp only [bitsN, b32 rfl]
    have e : ((i : Int) + 32 - ((B % 32 : Nat) : Int)) % 32 = (((i + 32 - B % 32) % 32 : Nat) : Int) := by omega
    rw [e, ← bitI_tb]; rfl

theorem negTurn {K : Nat} (h : K < 32) : IntKind.u64.wrap (IntKind.u64.wrap (IntKind.i64.wrap (0 - IntKind.i64.wrap (IntKind.u32.wrap (K : Int)))) % 32) = (((32 - K) % 32 : Nat) : Int) := by
  have a1 : IntKind.u32.wrap (K : Int) = (K : Int) := u32N (by omega)
  have a2 : IntKind.i64.wrap (K : Int) = (K : Int) := w64 (by omega) (by omega)
  have a3 : IntKind.i64.wrap (0 - (K : Int)) = 0 - (K : Int) := w64 (by omega) (by omega)
  rw [a1, a2, a3]
  by_cases h0 : K = 0
  · subst h0; rfl
  · have a4 : IntKind.u64.wrap (0 - (K : Int)) = 18446744073709551616 - (K : Int) := by rw [wU64]; omega
    have a5 : (18446744073709551616 - (K : Int)) % 32 = ((32 - K : Nat) : Int) := by omega
    have a6 : (32 - K) % 32 = 32 - K := by omega
    rw [a4, a5, a6, wU64]; omega

theorem numRotr_does {A B : Nat} (hA : A < 4294967296) (_ : B < 4294967296) : Does Try.prog noGlob 7 [.p (.sc (.int .i64 120)), .p (.sc (.int .u32 A)), .p (.sc (.int .u32 B))] [] (pairI (twoW 120 A B) (twoE 120 A B)) [] := by
  refine does_of_tree names (numRotr_tree A B) ?_
  rw [twoW_eq (by omega) (rotN_lt (s := (32 - B % 32) % 32) hA), twoE_eq (by omega)]
  · have hs : IntKind.u64.wrap (IntKind.u64.wrap (IntKind.i64.wrap (0 - IntKind.i64.wrap (IntKind.u32.wrap ((B : Int) % 32)))) % 32) = (((32 - B % 32) % 32 : Nat) : Int) := by
      rw [b32 rfl]; exact negTurn (by omega)
    have hd : IntKind.u64.wrap (32 - (((32 - B % 32) % 32 : Nat) : Int)) = ((32 - (32 - B % 32) % 32 : Nat) : Int) := by rw [wU64]; omega
    have h1 : A * 2 ^ ((32 - B % 32) % 32) % 4294967296 < 4294967296 := Nat.mod_lt _ (by omega)
    have h2 : A / 2 ^ (32 - (32 - B % 32) % 32) < 4294967296 := Nat.lt_of_le_of_lt (Nat.div_le_self _ _) hA
    simp only [numRotrTree, Tree.ok, and31, and31w, hs, hd, Int.toNat_natCast, min32 (by omega : (32 - B % 32) % 32 ≤ 32), min32 (by omega : 32 - (32 - B % 32) % 32 ≤ 32), mulPow, fdivPow, BitVec.toNat_or, bv32 h1, bv32 h2, pairI]
    refine ⟨by simp, ?_⟩
    rw [← rotN, u32N (rotN_lt hA)]
  · intro i hi
    rw [rot_bit hA (by omega) hi]
    simp only [bitsN, b32 rfl]
    have e : ((i : Int) + ((B % 32 : Nat) : Int)) % 32 = (((i + 32 - (32 - B % 32) % 32) % 32 : Nat) : Int) := by omega
    rw [e, ← bitI_tb]; rfl

end Go.Proofs.Ythllpmannpolcaa.N
