/-
  The document's bits, one by one (func 24): what each operation's bit is.
-/
import Derived.Test.YthllpmannpolcaaNumA
namespace Go.Proofs.Ythllpmannpolcaa.N
open Go Go.Am

/- bitsAnd: 73 steps -/
def bitsAndOrc : Orc := orc numCall [] [] [(26, 2, 3)]
def bitsAndSc : Sc := .fin
def bitsAndTree (a : Int) (b : Int) (i : Int) : Tree :=
  (.must (Decidable.decide (0 ≤ i) && Bool.true)
   (.must (Decidable.decide (0 ≤ i) && Bool.true)
    (.out (Out.ret (AV.p (PV.sc (Value.int IntKind.i64 (IntKind.i64.wrap (((IntKind.i64.wrap a).fdiv (2 ^ Min.min i.toNat IntKind.i64.bits)).tmod 2 * ((IntKind.i64.wrap b).fdiv (2 ^ Min.min i.toNat IntKind.i64.bits)).tmod 2))))) []))))
theorem bitsAnd_tree (a : Int) (b : Int) (i : Int) : growF Try.prog noGlob bitsAndOrc 1000000 24 ([AV.p (PV.sc (Value.int IntKind.i64 113)), AV.p (PV.sc (Value.int IntKind.u32 a)), AV.p (PV.sc (Value.int IntKind.u32 b)), AV.p (PV.sc (Value.int IntKind.i64 i))]) [] bitsAndSc = bitsAndTree a b i := by kernel_rfl

/- bitsOr: 83 steps -/
def bitsOrOrc : Orc := orc numCall [] [] [(26, 2, 3)]
def bitsOrSc : Sc := .fin
def bitsOrTree (a : Int) (b : Int) (i : Int) : Tree :=
  (.must (Decidable.decide (0 ≤ i) && Bool.true)
   (.must (Decidable.decide (0 ≤ i) && Bool.true)
    (.out (Out.ret (AV.p (PV.sc (Value.int IntKind.i64 (IntKind.i64.wrap (IntKind.i64.wrap (((IntKind.i64.wrap a).fdiv (2 ^ Min.min i.toNat IntKind.i64.bits)).tmod 2 + ((IntKind.i64.wrap b).fdiv (2 ^ Min.min i.toNat IntKind.i64.bits)).tmod 2) - IntKind.i64.wrap (((IntKind.i64.wrap a).fdiv (2 ^ Min.min i.toNat IntKind.i64.bits)).tmod 2 * ((IntKind.i64.wrap b).fdiv (2 ^ Min.min i.toNat IntKind.i64.bits)).tmod 2)))))) []))))
theorem bitsOr_tree (a : Int) (b : Int) (i : Int) : growF Try.prog noGlob bitsOrOrc 1000000 24 ([AV.p (PV.sc (Value.int IntKind.i64 114)), AV.p (PV.sc (Value.int IntKind.u32 a)), AV.p (PV.sc (Value.int IntKind.u32 b)), AV.p (PV.sc (Value.int IntKind.i64 i))]) [] bitsOrSc = bitsOrTree a b i := by kernel_rfl

/- bitsXor: 86 steps -/
def bitsXorOrc : Orc := orc numCall [] [] [(26, 2, 3)]
def bitsXorSc : Sc := .fin
def bitsXorTree (a : Int) (b : Int) (i : Int) : Tree :=
  (.must (Decidable.decide (0 ≤ i) && Bool.true)
   (.must (Decidable.decide (0 ≤ i) && Bool.true)
    (.out (Out.ret (AV.p (PV.sc (Value.int IntKind.i64 ((IntKind.i64.wrap (((IntKind.i64.wrap a).fdiv (2 ^ Min.min i.toNat IntKind.i64.bits)).tmod 2 + ((IntKind.i64.wrap b).fdiv (2 ^ Min.min i.toNat IntKind.i64.bits)).tmod 2)).tmod 2)))) []))))
theorem bitsXor_tree (a : Int) (b : Int) (i : Int) : growF Try.prog noGlob bitsXorOrc 1000000 24 ([AV.p (PV.sc (Value.int IntKind.i64 115)), AV.p (PV.sc (Value.int IntKind.u32 a)), AV.p (PV.sc (Value.int IntKind.u32 b)), AV.p (PV.sc (Value.int IntKind.i64 i))]) [] bitsXorSc = bitsXorTree a b i := by kernel_rfl

/- bitsShl: 135 steps -/
def bitsShlOrc : Orc := orc numCall [] [(24, 0, 6)] [(26, 2, 3)]
def bitsShlSc : Sc := .fin
def bitsShlTree (a : Int) (b : Int) (i : Int) : Tree :=
  (.must (Decidable.decide (0 ≤ i) && Bool.true)
   (.must (Decidable.decide (0 ≤ i) && Bool.true)
    (.test (Decidable.decide (i ≥ IntKind.i64.wrap (b.tmod 32)))
     (.must (Decidable.decide (0 ≤ IntKind.i64.wrap (i - IntKind.i64.wrap (b.tmod 32))) && Bool.true)
      (.out (Out.ret (AV.p (PV.sc (Value.int IntKind.i64 (((IntKind.i64.wrap a).fdiv (2 ^ Min.min (IntKind.i64.wrap (i - IntKind.i64.wrap (b.tmod 32))).toNat IntKind.i64.bits)).tmod 2)))) [])))
     (.out (Out.ret (AV.p (PV.sc (Value.int IntKind.i64 0))) [])))))
theorem bitsShl_tree (a : Int) (b : Int) (i : Int) : growF Try.prog noGlob bitsShlOrc 1000000 24 ([AV.p (PV.sc (Value.int IntKind.i64 116)), AV.p (PV.sc (Value.int IntKind.u32 a)), AV.p (PV.sc (Value.int IntKind.u32 b)), AV.p (PV.sc (Value.int IntKind.i64 i))]) [] bitsShlSc = bitsShlTree a b i := by kernel_rfl

/- bitsShrS: 162 steps -/
def bitsShrSOrc : Orc := orc numCall [] [(24, 0, 7)] [(26, 2, 3)]
def bitsShrSSc : Sc := .fin
def bitsShrSTree (a : Int) (b : Int) (i : Int) : Tree :=
  (.must (Decidable.decide (0 ≤ i) && Bool.true)
   (.must (Decidable.decide (0 ≤ i) && Bool.true)
    (.test (Decidable.decide (IntKind.i64.wrap (i + IntKind.i64.wrap (b.tmod 32)) < 32))
     (.must (Decidable.decide (0 ≤ IntKind.i64.wrap (i + IntKind.i64.wrap (b.tmod 32))) && Bool.true)
      (.out (Out.ret (AV.p (PV.sc (Value.int IntKind.i64 (((IntKind.i64.wrap a).fdiv (2 ^ Min.min (IntKind.i64.wrap (i + IntKind.i64.wrap (b.tmod 32))).toNat IntKind.i64.bits)).tmod 2)))) [])))
     (.must true
      (.out (Out.ret (AV.p (PV.sc (Value.int IntKind.i64 (((IntKind.i64.wrap a).fdiv (2 ^ Min.min (Int.toNat 31) IntKind.i64.bits)).tmod 2)))) []))))))
theorem bitsShrS_tree (a : Int) (b : Int) (i : Int) : growF Try.prog noGlob bitsShrSOrc 1000000 24 ([AV.p (PV.sc (Value.int IntKind.i64 117)), AV.p (PV.sc (Value.int IntKind.u32 a)), AV.p (PV.sc (Value.int IntKind.u32 b)), AV.p (PV.sc (Value.int IntKind.i64 i))]) [] bitsShrSSc = bitsShrSTree a b i := by kernel_rfl

/- bitsShrU: 146 steps -/
def bitsShrUOrc : Orc := orc numCall [] [(24, 0, 7)] [(26, 2, 3)]
def bitsShrUSc : Sc := .fin
def bitsShrUTree (a : Int) (b : Int) (i : Int) : Tree :=
  (.must (Decidable.decide (0 ≤ i) && Bool.true)
   (.must (Decidable.decide (0 ≤ i) && Bool.true)
    (.test (Decidable.decide (IntKind.i64.wrap (i + IntKind.i64.wrap (b.tmod 32)) < 32))
     (.must (Decidable.decide (0 ≤ IntKind.i64.wrap (i + IntKind.i64.wrap (b.tmod 32))) && Bool.true)
      (.out (Out.ret (AV.p (PV.sc (Value.int IntKind.i64 (((IntKind.i64.wrap a).fdiv (2 ^ Min.min (IntKind.i64.wrap (i + IntKind.i64.wrap (b.tmod 32))).toNat IntKind.i64.bits)).tmod 2)))) [])))
     (.out (Out.ret (AV.p (PV.sc (Value.int IntKind.i64 0))) [])))))
theorem bitsShrU_tree (a : Int) (b : Int) (i : Int) : growF Try.prog noGlob bitsShrUOrc 1000000 24 ([AV.p (PV.sc (Value.int IntKind.i64 118)), AV.p (PV.sc (Value.int IntKind.u32 a)), AV.p (PV.sc (Value.int IntKind.u32 b)), AV.p (PV.sc (Value.int IntKind.i64 i))]) [] bitsShrUSc = bitsShrUTree a b i := by kernel_rfl

/- bitsRotl: 110 steps -/
def bitsRotlOrc : Orc := orc numCall [] [] [(26, 2, 3)]
def bitsRotlSc : Sc := .fin
def bitsRotlTree (a : Int) (b : Int) (i : Int) : Tree :=
  (.must (Decidable.decide (0 ≤ i) && Bool.true)
   (.must (Decidable.decide (0 ≤ i) && Bool.true)
    (.must (Decidable.decide (0 ≤ (IntKind.i64.wrap (IntKind.i64.wrap (i + 32) - IntKind.i64.wrap (b.tmod 32))).tmod 32) && Bool.true)
     (.out (Out.ret (AV.p (PV.sc (Value.int IntKind.i64 (((IntKind.i64.wrap a).fdiv (2 ^ Min.min ((IntKind.i64.wrap (IntKind.i64.wrap (i + 32) - IntKind.i64.wrap (b.tmod 32))).tmod 32).toNat IntKind.i64.bits)).tmod 2)))) [])))))
theorem bitsRotl_tree (a : Int) (b : Int) (i : Int) : growF Try.prog noGlob bitsRotlOrc 1000000 24 ([AV.p (PV.sc (Value.int IntKind.i64 119)), AV.p (PV.sc (Value.int IntKind.u32 a)), AV.p (PV.sc (Value.int IntKind.u32 b)), AV.p (PV.sc (Value.int IntKind.i64 i))]) [] bitsRotlSc = bitsRotlTree a b i := by kernel_rfl

/- bitsRotr: 115 steps -/
def bitsRotrOrc : Orc := orc numCall [] [] [(26, 2, 3)]
def bitsRotrSc : Sc := .fin
def bitsRotrTree (a : Int) (b : Int) (i : Int) : Tree :=
  (.must (Decidable.decide (0 ≤ i) && Bool.true)
   (.must (Decidable.decide (0 ≤ i) && Bool.true)
    (.must (Decidable.decide (0 ≤ (IntKind.i64.wrap (i + IntKind.i64.wrap (b.tmod 32))).tmod 32) && Bool.true)
     (.out (Out.ret (AV.p (PV.sc (Value.int IntKind.i64 (((IntKind.i64.wrap a).fdiv (2 ^ Min.min ((IntKind.i64.wrap (i + IntKind.i64.wrap (b.tmod 32))).tmod 32).toNat IntKind.i64.bits)).tmod 2)))) [])))))
theorem bitsRotr_tree (a : Int) (b : Int) (i : Int) : growF Try.prog noGlob bitsRotrOrc 1000000 24 ([AV.p (PV.sc (Value.int IntKind.i64 120)), AV.p (PV.sc (Value.int IntKind.u32 a)), AV.p (PV.sc (Value.int IntKind.u32 b)), AV.p (PV.sc (Value.int IntKind.i64 i))]) [] bitsRotrSc = bitsRotrTree a b i := by kernel_rfl


theorem w64 {n : Int} (h0 : -9223372036854775808 ≤ n) (h1 : n < 9223372036854775808) : IntKind.i64.wrap n = n := by rw [wI64]; omega

/-- A word's bit. -/
def bitI (a j : Int) : Int := ((a.toNat / 2 ^ j.toNat % 2 : Nat) : Int)

theorem bitI_01 (a j : Int) : bitI a j = 0 ∨ bitI a j = 1 := by
  unfold bitI; omega

theorem bit_eq {a j : Int} (h0 : 0 ≤ a) (h1 : a < 4294967296) (hj0 : 0 ≤ j) (hj : j < 64) :
    ((IntKind.i64.wrap a).fdiv (2 ^ Min.min j.toNat IntKind.i64.bits)).tmod 2 = bitI a j := by
  rw [w64 (by omega) (by omega)]
  have hm : Min.min j.toNat IntKind.i64.bits = j.toNat := by
    have : IntKind.i64.bits = 64 := rfl
    rw [this]; omega
  rw [hm]
  obtain ⟨A, rfl⟩ := Int.eq_ofNat_of_zero_le h0
  unfold bitI
  have e : ((2 : Int) ^ j.toNat) = ((2 ^ j.toNat : Nat) : Int) := by simp
  rw [e, Int.toNat_natCast]
  rw [Int.fdiv_eq_ediv_of_nonneg _ (Int.natCast_nonneg _), Int.tmod_eq_emod_of_nonneg (Int.ediv_nonneg h0 (Int.natCast_nonneg _))]
  rfl

def bitsN (op a b i : Int) : Int :=
  if op = 113 then bitI a i * bitI b i else
  if op = 114 then bitI a i + bitI b i - bitI a i * bitI b i else
  if op = 115 then (bitI a i + bitI b i) % 2 else
  if op = 119 then bitI a ((i + 32 - b % 32) % 32) else
  if op = 120 then bitI a ((i + b % 32) % 32) else
  if op = 116 then (if b % 32 ≤ i then bitI a (i - b % 32) else 0) else
  if i + b % 32 < 32 then bitI a (i + b % 32) else if op = 117 then bitI a 31 else 0

theorem bitsAnd_does {a b i : Int} (ha0 : 0 ≤ a) (ha : a < 4294967296) (hb0 : 0 ≤ b) (hb : b < 4294967296) (hi0 : 0 ≤ i) (hi : i < 32) :
    Does Try.prog noGlob 24 [.p (.sc (.int .i64 113)), .p (.sc (.int .u32 a)), .p (.sc (.int .u32 b)), .p (.sc (.int .i64 i))] [] (.p (.sc (.int .i64 (bitsN 113 a b i)))) [] := by
  refine does_of_tree names (bitsAnd_tree a b i) ?_
  have hx := bitI_01 a i
  have hy := bitI_01 b i
  simp only [bitsAndTree, Tree.ok, bit_eq ha0 ha hi0 (by omega : i < 64), bit_eq hb0 hb hi0 (by omega : i < 64)]
  rcases hx with hx | hx <;> rcases hy with hy | hy <;> simp [hx, hy, bitsN, hi0] <;> decide

theorem bitsOr_does {a b i : Int} (ha0 : 0 ≤ a) (ha : a < 4294967296) (hb0 : 0 ≤ b) (hb : b < 4294967296) (hi0 : 0 ≤ i) (hi : i < 32) :
    Does Try.prog noGlob 24 [.p (.sc (.int .i64 114)), .p (.sc (.int .u32 a)), .p (.sc (.int .u32 b)), .p (.sc (.int .i64 i))] [] (.p (.sc (.int .i64 (bitsN 114 a b i)))) [] := by
  refine does_of_tree names (bitsOr_tree a b i) ?_
  have hx := bitI_01 a i
  have hy := bitI_01 b i
  simp only [bitsOrTree, Tree.ok, bit_eq ha0 ha hi0 (by omega : i < 64), bit_eq hb0 hb hi0 (by omega : i < 64)]
  rcases hx with hx | hx <;> rcases hy with hy | hy <;> simp [hx, hy, bitsN, hi0] <;> decide

theorem bitsXor_does {a b i : Int} (ha0 : 0 ≤ a) (ha : a < 4294967296) (hb0 : 0 ≤ b) (hb : b < 4294967296) (hi0 : 0 ≤ i) (hi : i < 32) :
    Does Try.prog noGlob 24 [.p (.sc (.int .i64 115)), .p (.sc (.int .u32 a)), .p (.sc (.int .u32 b)), .p (.sc (.int .i64 i))] [] (.p (.sc (.int .i64 (bitsN 115 a b i)))) [] := by
  refine does_of_tree names (bitsXor_tree a b i) ?_
  have hx := bitI_01 a i
  have hy := bitI_01 b i
  simp only [bitsXorTree, Tree.ok, bit_eq ha0 ha hi0 (by omega : i < 64), bit_eq hb0 hb hi0 (by omega : i < 64)]
  rcases hx with hx | hx <;> rcases hy with hy | hy <;> simp [hx, hy, bitsN, hi0] <;> decide

theorem bitsShl_does {a b i : Int} (ha0 : 0 ≤ a) (ha : a < 4294967296) (hb0 : 0 ≤ b) (_ : b < 4294967296) (hi0 : 0 ≤ i) (hi : i < 32) :
    Does Try.prog noGlob 24 [.p (.sc (.int .i64 116)), .p (.sc (.int .u32 a)), .p (.sc (.int .u32 b)), .p (.sc (.int .i64 i))] [] (.p (.sc (.int .i64 (bitsN 116 a b i)))) [] := by
  refine does_of_tree names (bitsShl_tree a b i) ?_
  have hk : IntKind.i64.wrap (b.tmod 32) = b % 32 := by rw [Int.tmod_eq_emod_of_nonneg hb0, w64 (by omega) (by omega)]
  have hw : IntKind.i64.wrap (i - b % 32) = i - b % 32 := w64 (by omega) (by omega)
  simp only [bitsShlTree, Tree.ok, hk, hw]
  by_cases h : b % 32 ≤ i
  · have hq := bit_eq (j := i - b % 32) ha0 ha (by omega) (by omega)
    simp [h, hq, bitsN, hi0]
  · simp [h, bitsN, hi0]

theorem bitsShrS_does {a b i : Int} (ha0 : 0 ≤ a) (ha : a < 4294967296) (hb0 : 0 ≤ b) (_ : b < 4294967296) (hi0 : 0 ≤ i) (hi : i < 32) :
    Does Try.prog noGlob 24 [.p (.sc (.int .i64 117)), .p (.sc (.int .u32 a)), .p (.sc (.int .u32 b)), .p (.sc (.int .i64 i))] [] (.p (.sc (.int .i64 (bitsN 117 a b i)))) [] := by
  refine does_of_tree names (bitsShrS_tree a b i) ?_
  have hk : IntKind.i64.wrap (b.tmod 32) = b % 32 := by rw [Int.tmod_eq_emod_of_nonneg hb0, w64 (by omega) (by omega)]
  have h31 := bit_eq (j := 31) ha0 ha (by omega) (by omega)
  have hw : IntKind.i64.wrap (i + b % 32) = i + b % 32 := w64 (by omega) (by omega)
  simp only [bitsShrSTree, Tree.ok, hk, hw]
  by_cases h : i + b % 32 < 32
  · have hq := bit_eq (j := i + b % 32) ha0 ha (by omega) (by omega)
    simp [h, hq, bitsN, hi0]; omega
  · simp [h, bitsN, hi0, ← h31]

theorem bitsShrU_does {a b i : Int} (ha0 : 0 ≤ a) (ha : a < 4294967296) (hb0 : 0 ≤ b) (_ : b < 4294967296) (hi0 : 0 ≤ i) (hi : i < 32) :
    Does Try.prog noGlob 24 [.p (.sc (.int .i64 118)), .p (.sc (.int .u32 a)), .p (.sc (.int .u32 b)), .p (.sc (.int .i64 i))] [] (.p (.sc (.int .i64 (bitsN 118 a b i)))) [] := by
  refine does_of_tree names (bitsShrU_tree a b i) ?_
  have hk : IntKind.i64.wrap (b.tmod 32) = b % 32 := by rw [Int.tmod_eq_emod_of_nonneg hb0, w64 (by omega) (by omega)]
  have hw : IntKind.i64.wrap (i + b % 32) = i + b % 32 := w64 (by omega) (by omega)
  simp only [bitsShrUTree, Tree.ok, hk, hw]
  by_cases h : i + b % 32 < 32
  · have hq := bit_eq (j := i + b % 32) ha0 ha (by omega) (by omega)
    simp [h, hq, bitsN, hi0]; omega
  · simp [h, bitsN, hi0]

theorem bitsRotl_does {a b i : Int} (ha0 : 0 ≤ a) (ha : a < 4294967296) (hb0 : 0 ≤ b) (_ : b < 4294967296) (hi0 : 0 ≤ i) (hi : i < 32) :
    Does Try.prog noGlob 24 [.p (.sc (.int .i64 119)), .p (.sc (.int .u32 a)), .p (.sc (.int .u32 b)), .p (.sc (.int .i64 i))] [] (.p (.sc (.int .i64 (bitsN 119 a b i)))) [] := by
  refine does_of_tree names (bitsRotl_tree a b i) ?_
  have hk : IntKind.i64.wrap (b.tmod 32) = b % 32 := by rw [Int.tmod_eq_emod_of_nonneg hb0, w64 (by omega) (by omega)]
  have hw : IntKind.i64.wrap (IntKind.i64.wrap (i + 32) - b % 32) = i + 32 - b % 32 := by rw [w64 (n := i + 32) (by omega) (by omega), w64 (by omega) (by omega)]
  have hq := bit_eq (j := (i + 32 - b % 32) % 32) ha0 ha (by omega) (by omega)
  simp only [bitsRotlTree, Tree.ok, hk, hw, Int.tmod_eq_emod_of_nonneg (by omega : 0 ≤ i + 32 - b % 32), hq]
  simp [bitsN, hi0]; omega

theorem bitsRotr_does {a b i : Int} (ha0 : 0 ≤ a) (ha : a < 4294967296) (hb0 : 0 ≤ b) (_ : b < 4294967296) (hi0 : 0 ≤ i) (hi : i < 32) :
    Does Try.prog noGlob 24 [.p (.sc (.int .i64 120)), .p (.sc (.int .u32 a)), .p (.sc (.int .u32 b)), .p (.sc (.int .i64 i))] [] (.p (.sc (.int .i64 (bitsN 120 a b i)))) [] := by
  refine does_of_tree names (bitsRotr_tree a b i) ?_
  have hk : IntKind.i64.wrap (b.tmod 32) = b % 32 := by rw [Int.tmod_eq_emod_of_nonneg hb0, w64 (by omega) (by omega)]
  have hw : IntKind.i64.wrap (i + b % 32) = i + b % 32 := w64 (by omega) (by omega)
  have hq := bit_eq (j := (i + b % 32) % 32) ha0 ha (by omega) (by omega)
  simp only [bitsRotrTree, Tree.ok, hk, hw, Int.tmod_eq_emod_of_nonneg (by omega : 0 ≤ i + b % 32), hq]
  simp [bitsN, hi0]; omega

end Go.Proofs.Ythllpmannpolcaa.N
