/-
  NumTurns: turns and moves of a word, on numbers; the law.
-/
import Derived.Test.YthllpmannpolcaaDoorOnesC
namespace Go.Proofs.YthllpmannpolcaaDoor.N
open Go Go.Am

theorem bv32 {A : Nat} (h : A < 4294967296) : (BitVec.ofInt IntKind.u32.bits (A : Int)).toNat = A := by
  have : IntKind.u32.bits = 32 := rfl
  simp only [this, BitVec.toNat_ofInt]
  omega

theorem and31 (x : Int) : ((BitVec.ofInt IntKind.u32.bits x &&& BitVec.ofInt IntKind.u32.bits 31).toNat : Int) = x % 32 := by
  have : IntKind.u32.bits = 32 := rfl
  simp only [this, BitVec.toNat_and, BitVec.toNat_ofInt]
  have e : ((31 : Int) % ((2 ^ 32 : Nat) : Int)).toNat = 2 ^ 5 - 1 := by decide
  rw [e, Nat.and_two_pow_sub_one_eq_mod]
  omega

theorem and31w (x : Int) : ((BitVec.ofInt IntKind.u64.bits x &&& BitVec.ofInt IntKind.u64.bits 31).toNat : Int) = x % 32 := by
  have : IntKind.u64.bits = 64 := rfl
  simp only [this, BitVec.toNat_and, BitVec.toNat_ofInt]
  have e : ((31 : Int) % ((2 ^ 64 : Nat) : Int)).toNat = 2 ^ 5 - 1 := by decide
  rw [e, Nat.and_two_pow_sub_one_eq_mod]
  omega

theorem tbBig {A j : Nat} (h : A < 4294967296) (hj : 32 ≤ j) : A.testBit j = false := by
  apply Nat.testBit_lt_two_pow
  exact Nat.lt_of_lt_of_le h (Nat.pow_le_pow_right (by omega : 0 < 2) hj)

def rotN (A s : Nat) : Nat := (A * 2 ^ s % 4294967296) ||| (A / 2 ^ (32 - s))

theorem or_lt {x y : Nat} (hx : x < 4294967296) (hy : y < 4294967296) : x ||| y < 4294967296 :=
  Nat.or_lt_two_pow (n := 32) hx hy

theorem rotN_lt {A s : Nat} (h : A < 4294967296) : rotN A s < 4294967296 :=
  or_lt (Nat.mod_lt _ (by omega)) (Nat.lt_of_le_of_lt (Nat.div_le_self _ _) h)

theorem shl_bit (A s : Nat) {i : Nat} (hi : i < 32) : (A * 2 ^ s % 4294967296).testBit i = (decide (s ≤ i) && A.testBit (i - s)) := by
  have : (4294967296 : Nat) = 2 ^ 32 := by decide
  rw [this, Nat.testBit_mod_two_pow, ← Nat.shiftLeft_eq, Nat.testBit_shiftLeft]
  simp [hi]

theorem shr_bit (A s i : Nat) : (A / 2 ^ s).testBit i = A.testBit (s + i) := by
  rw [← Nat.shiftRight_eq_div_pow, Nat.testBit_shiftRight]

theorem rot_bit {A s i : Nat} (h : A < 4294967296) (hs : s < 32) (hi : i < 32) : (rotN A s).testBit i = A.testBit ((i + 32 - s) % 32) := by
  simp only [rotN, Nat.testBit_or, shl_bit A s hi, shr_bit]
  by_cases hc : s ≤ i
  · have e : (i + 32 - s) % 32 = i - s := by omega
    rw [e, tbBig (j := 32 - s + i) h (by omega)]; simp [hc]
  · have e : (i + 32 - s) % 32 = 32 - s + i := by omega
    rw [e]; simp [hc]

def turnI (op a b : Int) : Int :=
  if op = 119 then rotN a.toNat (b.toNat % 32) else if op = 120 then rotN a.toNat ((32 - b.toNat % 32) % 32) else if op = 116 then (a.toNat * 2 ^ (b.toNat % 32) % 4294967296 : Nat) else (a.toNat / 2 ^ (b.toNat % 32) : Nat)
def turnCall (f : FuncId) (args : List AV) (_ : Mem) : Option (AV × Mem) := if f = 10 then some (sB true, []) else if f = 6 then (match args with
  | [.p (.sc (.int _ op)), .p (.sc (.int _ a))] => some (pairI (oneI op a) 0, [])
  | _ => none) else if f = 11 then (match args with
  | [.p (.sc (.int _ op)), .p (.sc (.int _ a)), .p (.sc (.int _ b))] => some (.p (.sc (.int .u32 (turnI op a b))), [])
  | _ => none) else none

/- lawTurns: 233 steps -/
def lawTurnsOrc : Orc := orc turnCall [] [(4, 10, 7), (4, 10, 20), (4, 10, 29)] [(4, 10, 23), (4, 10, 25)]
def lawTurnsSc : Sc := (.fork (.fork .fin (.lit .fin)) (.lit (.lit .fin)))
def lawTurnsTree (a : Int) (b : Int) : Tree :=
  (.call ⟨10, [], [], AV.p (PV.sc (Value.bool Bool.true)), []⟩
   (.call ⟨11, [AV.p (PV.sc (Value.int IntKind.i64 119)), AV.p (PV.sc (Value.int IntKind.u32 a)), AV.p (PV.sc (Value.int IntKind.u32 b))], [], AV.p (PV.sc (Value.int IntKind.u32 (turnI 119 a b))), []⟩
    (.call ⟨11, [AV.p (PV.sc (Value.int IntKind.i64 120)), AV.p (PV.sc (Value.int IntKind.u32 (turnI 119 a b))), AV.p (PV.sc (Value.int IntKind.u32 b))], [], AV.p (PV.sc (Value.int IntKind.u32 (turnI 120 (turnI 119 a b) b))), []⟩
     (.call ⟨6, [AV.p (PV.sc (Value.int IntKind.i64 105)), AV.p (PV.sc (Value.int IntKind.u32 a))], [], AV.tup [AV.p (PV.sc (Value.int IntKind.u32 (oneI 105 a))), AV.p (PV.sc (Value.int IntKind.i64 0))], []⟩
      (.call ⟨6, [AV.p (PV.sc (Value.int IntKind.i64 105)), AV.p (PV.sc (Value.int IntKind.u32 (turnI 119 a b)))], [], AV.tup [AV.p (PV.sc (Value.int IntKind.u32 (oneI 105 (turnI 119 a b)))), AV.p (PV.sc (Value.int IntKind.i64 0))], []⟩
       (.call ⟨11, [AV.p (PV.sc (Value.int IntKind.i64 116)), AV.p (PV.sc (Value.int IntKind.u32 a)), AV.p (PV.sc (Value.int IntKind.u32 b))], [], AV.p (PV.sc (Value.int IntKind.u32 (turnI 116 a b))), []⟩
        (.call ⟨11, [AV.p (PV.sc (Value.int IntKind.i64 118)), AV.p (PV.sc (Value.int IntKind.u32 (turnI 116 a b))), AV.p (PV.sc (Value.int IntKind.u32 b))], [], AV.p (PV.sc (Value.int IntKind.u32 (turnI 118 (turnI 116 a b) b))), []⟩
         (.call ⟨6, [AV.p (PV.sc (Value.int IntKind.i64 103)), AV.p (PV.sc (Value.int IntKind.u32 (turnI 118 (turnI 116 a b) b)))], [], AV.tup [AV.p (PV.sc (Value.int IntKind.u32 (oneI 103 (turnI 118 (turnI 116 a b) b)))), AV.p (PV.sc (Value.int IntKind.i64 0))], []⟩
          (.test (turnI 120 (turnI 119 a b) b == a)
           (.test (oneI 105 a == oneI 105 (turnI 119 a b))
            (.must (Decidable.decide (0 ≤ b.tmod 32) && Bool.true)
             (.must (Decidable.decide (0 ≤ b.tmod 32) && Bool.true)
              (.test (turnI 118 (turnI 116 a b) b == (IntKind.u32.wrap (a * 2 ^ Min.min (b.tmod 32).toNat IntKind.u32.bits)).fdiv (2 ^ Min.min (b.tmod 32).toNat IntKind.u32.bits))
               (.out (Out.ret (AV.p (PV.sc (Value.bool (Decidable.decide (oneI 103 (turnI 118 (turnI 116 a b) b) ≥ b.tmod 32))))) []))
               (.out (Out.ret (AV.p (PV.sc (Value.bool Bool.false))) [])))))
            (.out (Out.ret (AV.p (PV.sc (Value.bool Bool.false))) [])))
           (.out (Out.ret (AV.p (PV.sc (Value.bool Bool.false))) [])))))))))))
theorem lawTurns_tree (a : Int) (b : Int) : growF Tryd.prog tabEnv lawTurnsOrc 1000000 4 ([AV.p (PV.sc (Value.int IntKind.u32 a)), AV.p (PV.sc (Value.int IntKind.u32 b))]) [] lawTurnsSc = lawTurnsTree a b := by kernel_rfl

/- twoShl: 235 steps -/
def twoShlOrc : Orc := orc c10 [] [] []
def twoShlSc : Sc := .fin
def twoShlTree (a : Int) (b : Int) : Tree :=
  (.out (Out.ret (AV.p (PV.sc (Value.int IntKind.u32 (IntKind.u32.wrap (a * 2 ^ Min.min (IntKind.u32.wrap ↑(BitVec.ofInt IntKind.u32.bits b &&& BitVec.ofInt IntKind.u32.bits 31).toNat).toNat IntKind.u32.bits))))) []))
theorem twoShl_tree (a : Int) (b : Int) : growF Tryd.prog tabEnv twoShlOrc 1000000 11 ([AV.p (PV.sc (Value.int IntKind.i64 116)), AV.p (PV.sc (Value.int IntKind.u32 a)), AV.p (PV.sc (Value.int IntKind.u32 b))]) [] twoShlSc = twoShlTree a b := by kernel_rfl

/- twoShrU: 241 steps -/
def twoShrUOrc : Orc := orc c10 [] [] []
def twoShrUSc : Sc := .fin
def twoShrUTree (a : Int) (b : Int) : Tree :=
  (.out (Out.ret (AV.p (PV.sc (Value.int IntKind.u32 (a.fdiv (2 ^ Min.min (IntKind.u32.wrap ↑(BitVec.ofInt IntKind.u32.bits b &&& BitVec.ofInt IntKind.u32.bits 31).toNat).toNat IntKind.u32.bits))))) []))
theorem twoShrU_tree (a : Int) (b : Int) : growF Tryd.prog tabEnv twoShrUOrc 1000000 11 ([AV.p (PV.sc (Value.int IntKind.i64 118)), AV.p (PV.sc (Value.int IntKind.u32 a)), AV.p (PV.sc (Value.int IntKind.u32 b))]) [] twoShrUSc = twoShrUTree a b := by kernel_rfl

/- twoRotl: 279 steps -/
def twoRotlOrc : Orc := orc c10 [] [] [(23, 3, 6)]
def twoRotlSc : Sc := .fin
def twoRotlTree (a : Int) (b : Int) : Tree :=
  (.must (Decidable.decide (0 ≤ IntKind.u64.wrap (32 - IntKind.u64.wrap ↑(BitVec.ofInt IntKind.u64.bits (IntKind.u64.wrap (IntKind.i64.wrap (IntKind.u32.wrap ↑(BitVec.ofInt IntKind.u32.bits b &&& BitVec.ofInt IntKind.u32.bits 31).toNat))) &&& BitVec.ofInt IntKind.u64.bits 31).toNat)) && Bool.true)
   (.out (Out.ret (AV.p (PV.sc (Value.int IntKind.u32 (IntKind.u32.wrap ↑(BitVec.ofInt IntKind.u32.bits (IntKind.u32.wrap (a * 2 ^ Min.min (IntKind.u64.wrap ↑(BitVec.ofInt IntKind.u64.bits (IntKind.u64.wrap (IntKind.i64.wrap (IntKind.u32.wrap ↑(BitVec.ofInt IntKind.u32.bits b &&& BitVec.ofInt IntKind.u32.bits 31).toNat))) &&& BitVec.ofInt IntKind.u64.bits 31).toNat).toNat IntKind.u32.bits)) ||| BitVec.ofInt IntKind.u32.bits (a.fdiv (2 ^ Min.min (IntKind.u64.wrap (32 - IntKind.u64.wrap ↑(BitVec.ofInt IntKind.u64.bits (IntKind.u64.wrap (IntKind.i64.wrap (IntKind.u32.wrap ↑(BitVec.ofInt IntKind.u32.bits b &&& BitVec.ofInt IntKind.u32.bits 31).toNat))) &&& BitVec.ofInt IntKind.u64.bits 31).toNat)).toNat IntKind.u32.bits))).toNat)))) [])))
theorem twoRotl_tree (a : Int) (b : Int) : growF Tryd.prog tabEnv twoRotlOrc 1000000 11 ([AV.p (PV.sc (Value.int IntKind.i64 119)), AV.p (PV.sc (Value.int IntKind.u32 a)), AV.p (PV.sc (Value.int IntKind.u32 b))]) [] twoRotlSc = twoRotlTree a b := by kernel_rfl

/- twoRotr: 282 steps -/
def twoRotrOrc : Orc := orc c10 [] [] [(23, 3, 6)]
def twoRotrSc : Sc := .fin
def twoRotrTree (a : Int) (b : Int) : Tree :=
  (.must (Decidable.decide (0 ≤ IntKind.u64.wrap (32 - IntKind.u64.wrap ↑(BitVec.ofInt IntKind.u64.bits (IntKind.u64.wrap (IntKind.i64.wrap (0 - IntKind.i64.wrap (IntKind.u32.wrap ↑(BitVec.ofInt IntKind.u32.bits b &&& BitVec.ofInt IntKind.u32.bits 31).toNat)))) &&& BitVec.ofInt IntKind.u64.bits 31).toNat)) && Bool.true)
   (.out (Out.ret (AV.p (PV.sc (Value.int IntKind.u32 (IntKind.u32.wrap ↑(BitVec.ofInt IntKind.u32.bits (IntKind.u32.wrap (a * 2 ^ Min.min (IntKind.u64.wrap ↑(BitVec.ofInt IntKind.u64.bits (IntKind.u64.wrap (IntKind.i64.wrap (0 - IntKind.i64.wrap (IntKind.u32.wrap ↑(BitVec.ofInt IntKind.u32.bits b &&& BitVec.ofInt IntKind.u32.bits 31).toNat)))) &&& BitVec.ofInt IntKind.u64.bits 31).toNat).toNat IntKind.u32.bits)) ||| BitVec.ofInt IntKind.u32.bits (a.fdiv (2 ^ Min.min (IntKind.u64.wrap (32 - IntKind.u64.wrap ↑(BitVec.ofInt IntKind.u64.bits (IntKind.u64.wrap (IntKind.i64.wrap (0 - IntKind.i64.wrap (IntKind.u32.wrap ↑(BitVec.ofInt IntKind.u32.bits b &&& BitVec.ofInt IntKind.u32.bits 31).toNat)))) &&& BitVec.ofInt IntKind.u64.bits 31).toNat)).toNat IntKind.u32.bits))).toNat)))) [])))
theorem twoRotr_tree (a : Int) (b : Int) : growF Tryd.prog tabEnv twoRotrOrc 1000000 11 ([AV.p (PV.sc (Value.int IntKind.i64 120)), AV.p (PV.sc (Value.int IntKind.u32 a)), AV.p (PV.sc (Value.int IntKind.u32 b))]) [] twoRotrSc = twoRotrTree a b := by kernel_rfl


theorem kNat (B : Nat) : IntKind.u32.wrap ((B : Int) % 32) = ((B % 32 : Nat) : Int) := by rw [wU32]; omega

theorem min32 {k : Nat} (h : k ≤ 32) : Min.min k IntKind.u32.bits = k := by
  have : IntKind.u32.bits = 32 := rfl
  rw [this]; omega

theorem mulPow (A k : Nat) : IntKind.u32.wrap ((A : Int) * 2 ^ k) = ((A * 2 ^ k % 4294967296 : Nat) : Int) := by
  rw [wU32]; simp

theorem fdivPow (A k : Nat) : (A : Int).fdiv (2 ^ k) = ((A / 2 ^ k : Nat) : Int) := by
  have e : ((2 : Int) ^ k) = ((2 ^ k : Nat) : Int) := by simp
  rw [e, Int.fdiv_eq_ediv_of_nonneg _ (Int.natCast_nonneg _)]
  rfl

theorem b32 {B k : Nat} (h : k = B % 32) : (B : Int) % 32 = (k : Int) := by omega

theorem negTurn {K : Nat} (h : K < 32) : IntKind.u64.wrap (IntKind.u64.wrap (IntKind.i64.wrap (0 - IntKind.i64.wrap (IntKind.u32.wrap (K : Int)))) % 32) = (((32 - K) % 32 : Nat) : Int) := by
  have a1 : IntKind.u32.wrap (K : Int) = (K : Int) := u32N (by omega)
  have a2 : IntKind.i64.wrap (K : Int) = (K : Int) := w64 (by omega) (by omega)
  have a3 : IntKind.i64.wrap (0 - (K : Int)) = 0 - (K : Int) := w64 (by omega) (by omega)
  rw [a1, a2, a3]
  by_cases h0 : K = 0
  · subst h0; rfl
  · have a4 : IntKind.u64.wrap (0 - (K : Int)) = 18446744073709551616 - (K : Int) := by rw [wU64]; omega
    have a5 : (18446744073709551616 - (K : Int)) % 32 = ((32 - K : Nat) : Int) := by omega
    have a6 : (32 - K) % 32 = 32 - K := by omega
    rw [a4, a5, a6, wU64]; omega

theorem twoShl_does (A : Nat) {B : Nat} : Does Tryd.prog tabEnv 11 [.p (.sc (.int .i64 116)), .p (.sc (.int .u32 A)), .p (.sc (.int .u32 B))] [] (.p (.sc (.int .u32 (turnI 116 A B)))) [] := by
  refine does_of_tree names (twoShl_tree A B) ?_
  simp only [twoShlTree, Tree.ok, and31, kNat, Int.toNat_natCast, min32 (by omega : B % 32 ≤ 32), mulPow]
  rfl

theorem twoShrU_does (A : Nat) {B : Nat} : Does Tryd.prog tabEnv 11 [.p (.sc (.int .i64 118)), .p (.sc (.int .u32 A)), .p (.sc (.int .u32 B))] [] (.p (.sc (.int .u32 (turnI 118 A B)))) [] := by
  refine does_of_tree names (twoShrU_tree A B) ?_
  simp only [twoShrUTree, Tree.ok, and31, kNat, Int.toNat_natCast, min32 (by omega : B % 32 ≤ 32), fdivPow]
  rfl

theorem twoRotl_does (A : Nat) {B : Nat} (hA : A < 4294967296) : Does Tryd.prog tabEnv 11 [.p (.sc (.int .i64 119)), .p (.sc (.int .u32 A)), .p (.sc (.int .u32 B))] [] (.p (.sc (.int .u32 (turnI 119 A B)))) [] := by
  refine does_of_tree names (twoRotl_tree A B) ?_
  have hs : IntKind.u64.wrap (IntKind.u64.wrap (IntKind.i64.wrap (IntKind.u32.wrap ((B : Int) % 32))) % 32) = ((B % 32 : Nat) : Int) := by
    simp only [wU64, wI64, wU32]; omega
  have hd : IntKind.u64.wrap (32 - ((B % 32 : Nat) : Int)) = ((32 - B % 32 : Nat) : Int) := by rw [wU64]; omega
  have h1 : A * 2 ^ (B % 32) % 4294967296 < 4294967296 := Nat.mod_lt _ (by omega)
  have h2 : A / 2 ^ (32 - B % 32) < 4294967296 := Nat.lt_of_le_of_lt (Nat.div_le_self _ _) hA
  simp only [twoRotlTree, Tree.ok, and31, and31w, hs, hd, Int.toNat_natCast, min32 (by omega : B % 32 ≤ 32), min32 (by omega : 32 - B % 32 ≤ 32), mulPow, fdivPow, BitVec.toNat_or, bv32 h1, bv32 h2]
  refine ⟨by simp, ?_⟩
  rw [← rotN, u32N (rotN_lt hA)]
  rfl

theorem twoRotr_does (A : Nat) {B : Nat} (hA : A < 4294967296) : Does Tryd.prog tabEnv 11 [.p (.sc (.int .i64 120)), .p (.sc (.int .u32 A)), .p (.sc (.int .u32 B))] [] (.p (.sc (.int .u32 (turnI 120 A B)))) [] := by
  refine does_of_tree names (twoRotr_tree A B) ?_
  have hs : IntKind.u64.wrap (IntKind.u64.wrap (IntKind.i64.wrap (0 - IntKind.i64.wrap (IntKind.u32.wrap ((B : Int) % 32)))) % 32) = (((32 - B % 32) % 32 : Nat) : Int) := by
    rw [b32 rfl]; exact negTurn (by omega)
  have hd : IntKind.u64.wrap (32 - (((32 - B % 32) % 32 : Nat) : Int)) = ((32 - (32 - B % 32) % 32 : Nat) : Int) := by rw [wU64]; omega
  have h1 : A * 2 ^ ((32 - B % 32) % 32) % 4294967296 < 4294967296 := Nat.mod_lt _ (by omega)
  have h2 : A / 2 ^ (32 - (32 - B % 32) % 32) < 4294967296 := Nat.lt_of_le_of_lt (Nat.div_le_self _ _) hA
  simp only [twoRotrTree, Tree.ok, and31, and31w, hs, hd, Int.toNat_natCast, min32 (by omega : (32 - B % 32) % 32 ≤ 32), min32 (by omega : 32 - (32 - B % 32) % 32 ≤ 32), mulPow, fdivPow, BitVec.toNat_or, bv32 h1, bv32 h2]
  refine ⟨by simp, ?_⟩
  rw [← rotN, u32N (rotN_lt hA)]
  rfl

/-- A turn one way and back. -/
theorem rot_back {A s : Nat} (hA : A < 4294967296) (hs : s < 32) : rotN (rotN A s) ((32 - s) % 32) = A := by
  apply Nat.eq_of_testBit_eq
  intro i
  by_cases hi : i < 32
  · rw [rot_bit (rotN_lt hA) (by omega) hi, rot_bit hA hs (by omega)]
    congr 1
    omega
  · rw [tbBig (rotN_lt (rotN_lt hA)) (by omega), tbBig hA (by omega)]

theorem popN_congr {X Y : Nat} : ∀ m, (∀ i, i < m → X.testBit i = Y.testBit i) → popN X m = popN Y m
  | 0, _ => rfl
  | m + 1, h => by
    simp only [popN]
    rw [popN_congr m fun i hi => h i (by omega), h m (by omega)]

/-- The bits' number stays. -/
theorem rot_pop {A s : Nat} (hA : A < 4294967296) (hs : s < 32) : popN A 32 = popN (rotN A s) 32 := by
  have h1 := popN_add A (32 - s) s
  have h2 := popN_add (rotN A s) s (32 - s)
  rw [(by omega : 32 - s + s = 32)] at h1
  rw [(by omega : s + (32 - s) = 32)] at h2
  have e1 : popN (rotN A s) s = popN (A / 2 ^ (32 - s)) s := popN_congr s fun i hi => by
    rw [rot_bit hA hs (by omega), shr_bit]
    congr 1
    omega
  have e2 : popN (rotN A s / 2 ^ s) (32 - s) = popN A (32 - s) := popN_congr _ fun i hi => by
    rw [shr_bit, rot_bit hA hs (by omega)]
    congr 1
    omega
  rw [h1, h2, e1, e2, Nat.add_comm]

theorem low_lt {A k : Nat} (hk : k < 32) : A * 2 ^ k % 4294967296 / 2 ^ k < 2 ^ (32 - k) := by
  rw [Nat.div_lt_iff_lt_mul (Nat.pow_pos (by omega)), ← Nat.pow_add, (by omega : 32 - k + k = 32)]
  exact Nat.mod_lt _ (by decide)

theorem clz_low {L k : Nat} (hk : k < 32) (h : L < 2 ^ (32 - k)) : k ≤ clzN L := by
  have hL : L < 4294967296 := Nat.lt_of_lt_of_le h (Nat.pow_le_pow_right (by omega) (by omega) : 2 ^ (32 - k) ≤ 2 ^ 32)
  rcases clzN_spec hL with ⟨q, _⟩ | ⟨q1, q2, _⟩
  · omega
  · rcases Nat.lt_or_ge (clzN L) k with q | q
    · have : 2 ^ (32 - k) ≤ 2 ^ (31 - clzN L) := Nat.pow_le_pow_right (by omega) (by omega)
      omega
    · exact q

theorem turns_nat {A B : Nat} (hA : A < 4294967296) (hB : B < 4294967296) : Does Tryd.prog tabEnv 4 [.p (.sc (.int .u32 A)), .p (.sc (.int .u32 B))] [] (sB true) [] := by
  refine does_of_tree names (lawTurns_tree A B) ?_
  have hk : B % 32 < 32 := Nat.mod_lt _ (by omega)
  have t1 : turnI 119 A B = (rotN A (B % 32) : Int) := rfl
  have t2 : turnI 120 (rotN A (B % 32) : Int) B = (rotN (rotN A (B % 32)) ((32 - B % 32) % 32) : Int) := rfl
  have t3 : turnI 116 A B = ((A * 2 ^ (B % 32) % 4294967296 : Nat) : Int) := rfl
  have t4 : turnI 118 ((A * 2 ^ (B % 32) % 4294967296 : Nat) : Int) B = ((A * 2 ^ (B % 32) % 4294967296 / 2 ^ (B % 32) : Nat) : Int) := rfl
  have o1 : ∀ X : Nat, oneI 105 X = (popN X 32 : Int) := fun _ => rfl
  have o2 : ∀ X : Nat, oneI 103 X = (clzN X : Int) := fun _ => rfl
  have hm : (B : Int).tmod 32 = ((B % 32 : Nat) : Int) := by rw [tmodPos (by omega)]; omega
  have hR : rotN A (B % 32) < 4294967296 := rotN_lt hA
  have hS : A * 2 ^ (B % 32) % 4294967296 < 4294967296 := Nat.mod_lt _ (by omega)
  have hL : A * 2 ^ (B % 32) % 4294967296 / 2 ^ (B % 32) < 4294967296 := Nat.lt_of_le_of_lt (Nat.div_le_self _ _) hS
  have c1 := twoRotl_does A (B := B) hA
  have c2 := twoRotr_does (rotN A (B % 32)) (B := B) hR
  have c3 := twoShl_does A (B := B)
  have c4 := twoShrU_does (A * 2 ^ (B % 32) % 4294967296) (B := B)
  have hz := clz_low hk (low_lt (A := A) hk)
  rw [t1] at c1
  rw [t2, rot_back hA hk] at c2
  rw [t3] at c3
  rw [t4] at c4
  simp only [lawTurnsTree, Tree.ok, t1, t2, t3, t4, o1, o2, hm, rot_back hA hk, Int.toNat_natCast, min32 (by omega : B % 32 ≤ 32), mulPow, fdivPow]
  refine ⟨awake, c1, c2, numPop_does hA, numPop_does hR, c3, c4, numClz_does hL, fun _ => ⟨fun _ => ⟨by simp; omega, by simp; omega, fun _ => ?_, fun h => by simp at h⟩, fun h => ?_⟩, fun h => by simp at h⟩
  · have : decide ((clzN (A * 2 ^ (B % 32) % 4294967296 / 2 ^ (B % 32)) : Int) ≥ ((B % 32 : Nat) : Int)) = true := by
      rw [decide_eq_true_eq]; omega
    rw [this]
  · rw [← rot_pop hA hk] at h
    simp at h

theorem turns_does {a b : Int} (h : 0 ≤ a ∧ a ≤ 4294967295) (h' : 0 ≤ b ∧ b ≤ 4294967295) : Does Tryd.prog tabEnv 4 [.p (.sc (.int .u32 a)), .p (.sc (.int .u32 b))] [] (sB true) [] := by
  obtain ⟨A, rfl⟩ := Int.eq_ofNat_of_zero_le h.1
  obtain ⟨B, rfl⟩ := Int.eq_ofNat_of_zero_le h'.1
  exact turns_nat (by omega) (by omega)

end Go.Proofs.YthllpmannpolcaaDoor.N
