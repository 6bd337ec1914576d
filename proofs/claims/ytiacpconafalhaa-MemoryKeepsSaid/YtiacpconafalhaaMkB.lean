/-
  What is set in such a memory, and got from it.
-/
import Derived.Test.YtiacpconafalhaaMkA
set_option linter.unusedVariables false
namespace Go.Proofs.Ytiacpconafalhaa.N
open Go Go.Am

def gS (i : Nat) : FuncId → Nat → Nat → Option (AV → AV) := shapeAt [(19, 2, 6, sI .u32 0), (19, 5, 2, sI .u64 i)]
def gA (i : Nat) : List AV := [.mp 0 0, sI .u64 i]
def gN (_i : Nat) : Mem := mN 1
def g2S (i : Nat) (n : Int) (c : List PV) := gS i
def g2A (i : Nat) (n : Int) (c : List PV) := gA i
def g2M (_i : Nat) (n : Int) (c : List PV) : Mem := mS n c
def g1S (i : Nat) (n : Int) := gS i
def g1A (i : Nat) (n : Int) := gA i
def g1M (_i : Nat) (n : Int) : Mem := mN n
def sS (i : Nat) : FuncId → Nat → Nat → Option (AV → AV) := shapeAt [(17, 1, 2, sI .u32 0), (17, 7, 2, sI .u64 i)]
def sA (i : Nat) (x : Int) : List AV := [.mp 0 0, sI .u64 i, sI .u8 x]
def s1S (i : Nat) (x n : Int) := sS i
def s1A (i : Nat) (x n : Int) := sA i x
def s1M (_i : Nat) (_x n : Int) : Mem := mN n
def s2S (i : Nat) (x n : Int) (c : List PV) := sS i
def s2A (i : Nat) (x n : Int) (c : List PV) := sA i x
def s2M (_i : Nat) (_x n : Int) (c : List PV) : Mem := mS n c

/- g1: 29 steps -/
noncomputable def g1Orc (i : Nat) (n : Int) : Orc := orcS noC noLed [] [] [] (g1S i n)
def g1Sc : Sc := .fin
noncomputable def g1Tree (i : Nat) (n : Int) : Tree :=
  (.need (AV.p (PV.sc (Value.int IntKind.u32 (IntKind.u32.wrap (IntKind.u64.wrap ((↑i : Int).tdiv 65536))))) = sI IntKind.u32 0)
   (.out (Out.ret (AV.p (PV.sc (Value.int IntKind.u8 0))) [Blk.ac [AV.vm 1, AV.p (PV.sc (Value.int IntKind.u32 n)), AV.p (PV.sc (Value.int IntKind.u32 2))], Blk.ob (ObK.map [] [] 0) []])))
theorem g1_tree (i : Nat) (n : Int) : growF Try.prog env (g1Orc i n) 1000000 19 (gA i) (mN n) g1Sc = g1Tree i n := by kernel_rfl

/- g2: 36 steps -/
noncomputable def g2Orc (i : Nat) (n : Int) (c : List PV) : Orc := orcS noC noLed [] [] [(19, 5, 4), (19, 5, 5)] (g2S i n c)
def g2Sc : Sc := .fin
noncomputable def g2Tree (i : Nat) (n : Int) (c : List PV) : Tree :=
  (.need (AV.p (PV.sc (Value.int IntKind.u32 (IntKind.u32.wrap (IntKind.u64.wrap ((↑i : Int).tdiv 65536))))) = sI IntKind.u32 0)
   (.need (AV.p (PV.sc (Value.int IntKind.u64 ((↑i : Int).tmod 65536))) = sI IntKind.u64 (↑i : Int))
    (.must (inB (↑i : Int) 65536 && true)
     (.must (isInt IntKind.u8 (c.getD (0 + (↑i : Int).toNat * 1) PV.bad) && true)
      (.out (Out.ret (AV.p (PV.sc (Value.int IntKind.u8 (pvInt (c.getD (0 + (↑i : Int).toNat * 1) PV.bad))))) [Blk.ac [AV.vm 1, AV.p (PV.sc (Value.int IntKind.u32 n)), AV.p (PV.sc (Value.int IntKind.u32 2))], Blk.ob (ObK.map [Value.int IntKind.u32 0] [0] 1) [AV.mp 2 0], Blk.pc c]))))))
theorem g2_tree (i : Nat) (n : Int) (c : List PV) : growF Try.prog env (g2Orc i n c) 1000000 19 (gA i) (mS n c) g2Sc = g2Tree i n c := by kernel_rfl

/- s1: 60 steps -/
noncomputable def s1Orc (i : Nat) (x : Int) (n : Int) : Orc := orcS noC noLed [] [(17, 0, 1)] [(17, 7, 5), (17, 7, 6)] (s1S i x n)
def s1Sc : Sc := .fin
noncomputable def s1Tree (i : Nat) (x : Int) (n : Int) : Tree :=
  (.need (AV.p (PV.sc (Value.int IntKind.u32 (IntKind.u32.wrap (IntKind.u64.wrap ((↑i : Int).tdiv 65536))))) = sI IntKind.u32 0)
   (.test (x == 0)
    (.out (Out.ret (AV.tup []) [Blk.ac [AV.vm 1, AV.p (PV.sc (Value.int IntKind.u32 n)), AV.p (PV.sc (Value.int IntKind.u32 2))], Blk.ob (ObK.map [] [] 0) []]))
    (.need (AV.p (PV.sc (Value.int IntKind.u64 ((↑i : Int).tmod 65536))) = sI IntKind.u64 (↑i : Int))
     (.must (inB (↑i : Int) 65536 && true)
      (.must ((0 + (↑i : Int).toNat * 1 + 1).ble bigL.length && true && true && true)
       (.out (Out.ret (AV.tup []) [Blk.ac [AV.vm 1, AV.p (PV.sc (Value.int IntKind.u32 n)), AV.p (PV.sc (Value.int IntKind.u32 2))], Blk.ob (ObK.map [Value.int IntKind.u32 0] [0] 1) [AV.mp 2 0], Blk.pc (setL (bigL) (0 + (↑i : Int).toNat * 1) [PV.sc (Value.int IntKind.u8 x)])])))))))
theorem s1_tree (i : Nat) (x : Int) (n : Int) : growF Try.prog env (s1Orc i x n) 1000000 17 (sA i x) (mN n) s1Sc = s1Tree i x n := by kernel_rfl

/- s2: 36 steps -/
noncomputable def s2Orc (i : Nat) (x : Int) (n : Int) (c : List PV) : Orc := orcS noC noLed [] [] [(17, 7, 5), (17, 7, 6)] (s2S i x n c)
def s2Sc : Sc := .fin
noncomputable def s2Tree (i : Nat) (x : Int) (n : Int) (c : List PV) : Tree :=
  (.need (AV.p (PV.sc (Value.int IntKind.u32 (IntKind.u32.wrap (IntKind.u64.wrap ((↑i : Int).tdiv 65536))))) = sI IntKind.u32 0)
   (.need (AV.p (PV.sc (Value.int IntKind.u64 ((↑i : Int).tmod 65536))) = sI IntKind.u64 (↑i : Int))
    (.must (inB (↑i : Int) 65536 && true)
     (.must ((0 + (↑i : Int).toNat * 1 + 1).ble c.length && true && true && true)
      (.out (Out.ret (AV.tup []) [Blk.ac [AV.vm 1, AV.p (PV.sc (Value.int IntKind.u32 n)), AV.p (PV.sc (Value.int IntKind.u32 2))], Blk.ob (ObK.map [Value.int IntKind.u32 0] [0] 1) [AV.mp 2 0], Blk.pc (setL c (0 + (↑i : Int).toNat * 1) [PV.sc (Value.int IntKind.u8 x)])]))))))
theorem s2_tree (i : Nat) (x : Int) (n : Int) (c : List PV) : growF Try.prog env (s2Orc i x n c) 1000000 17 (sA i x) (mS n c) s2Sc = s2Tree i x n c := by kernel_rfl


/-- Bytes, as cells. -/
def encB (l : List Int) : List PV := l.map fun b => .sc (.int .u8 b)

/-- The page that is written, if one is. -/
abbrev Pg := Option (List Int)

def stM (n : Int) : Pg → Mem
  | none => mN n
  | some l => mS n (encB l)

def nought : List Int := List.replicate 65536 0

def setP : Pg → Nat → Int → Pg
  | none, i, x => if x = 0 then none else some (nought.set i x)
  | some l, i, x => some (l.set i x)

def getP : Pg → Nat → Int
  | none, _ => 0
  | some l, i => l.getD i 0

/-- A page has so many bytes. -/
def okP : Pg → Prop
  | none => True
  | some l => l.length = 65536 ∧ ∀ b ∈ l, 0 ≤ b ∧ b < 256

theorem nought_len : nought.length = 65536 := List.length_replicate

theorem okP_set {s : Pg} {i : Nat} {x : Int} (h : okP s) (h0 : 0 ≤ x) (h1 : x < 256) : okP (setP s i x) := by
  cases s with
  | none =>
    show okP (if x = 0 then none else some (nought.set i x))
    split
    · trivial
    · refine ⟨by rw [List.length_set, nought_len], fun b hb => ?_⟩
      rcases List.mem_or_eq_of_mem_set hb with q | rfl
      · obtain ⟨_, rfl⟩ := List.mem_replicate.1 q; omega
      · exact ⟨h0, h1⟩
  | some l =>
    refine ⟨by rw [List.length_set]; exact h.1, fun b hb => ?_⟩
    rcases List.mem_or_eq_of_mem_set hb with q | rfl
    · exact h.2 b q
    · exact ⟨h0, h1⟩

theorem okP_get {s : Pg} (h : okP s) (i : Nat) : 0 ≤ getP s i ∧ getP s i < 256 := by
  cases s with
  | none => exact ⟨Int.le_refl 0, (by decide : (0 : Int) < 256)⟩
  | some l =>
    show 0 ≤ l.getD i 0 ∧ l.getD i 0 < 256
    rw [List.getD_eq_getElem?_getD]
    cases hg : l[i]? with
    | none => exact ⟨Int.le_refl 0, (by decide : (0 : Int) < 256)⟩
    | some b => exact h.2 b (List.mem_of_getElem? hg)

theorem get_set {s : Pg} (h : okP s) {i : Nat} (hi : i < 65536) (x : Int) (j : Nat) : getP (setP s i x) j = if j = i then x else getP s j := by
  have key : ∀ l : List Int, l.length = 65536 → (l.set i x).getD j 0 = if j = i then x else l.getD j 0 := fun l hl => by
    simp only [List.getD_eq_getElem?_getD, List.getElem?_set]
    by_cases e : i = j
    · subst e; simp [hl, hi]
    · rw [if_neg e, if_neg (fun q => e q.symm)]
  cases s with
  | none =>
    show getP (if x = 0 then none else some (nought.set i x)) j = _
    split
    · rename_i hx
      split
      · exact hx.symm
      · rfl
    · show (nought.set i x).getD j 0 = _
      rw [key _ nought_len]
      have : nought.getD j 0 = 0 := by
        rw [List.getD_eq_getElem?_getD]
        cases hg : nought[j]? with
        | none => rfl
        | some b => exact (List.mem_replicate.1 (List.mem_of_getElem? hg)).2
      rw [this]; rfl
  | some l => exact key l h.1

theorem encB_len (l : List Int) : (encB l).length = l.length := List.length_map ..

theorem encB_get {l : List Int} {i : Nat} (h : i < l.length) : (encB l).getD i .bad = .sc (.int .u8 (l.getD i 0)) := by
  unfold encB
  rw [List.getD_eq_getElem?_getD, List.getD_eq_getElem?_getD, List.getElem?_map, List.getElem?_eq_getElem h]
  rfl

theorem encB_set (l : List Int) (i : Nat) (x : Int) : (encB l).set i (.sc (.int .u8 x)) = encB (l.set i x) := List.map_set.symm

theorem quo0 {i : Nat} (h : i < 65536) : IntKind.u32.wrap (IntKind.u64.wrap ((i : Int).tdiv 65536)) = 0 := by
  rw [tdivPos (by omega), wU64, wU32]; omega

theorem rem0 {i : Nat} (h : i < 65536) : (i : Int).tmod 65536 = i := tmodSmall (by omega) (by omega)

theorem get_does {s : Pg} (hs : okP s) {i : Nat} (hi : i < 65536) (n : Int) : Does Try.prog env 19 (gA i) (stM n s) (sI .u8 (getP s i)) (stM n s) := by
  cases s with
  | none =>
    refine does_of_tree names (g1_tree i n) ?_
    simp only [g1Tree, Tree.ok, quo0 hi]
    exact ⟨trivial, rfl⟩
  | some l =>
    refine does_of_tree names (g2_tree i n (encB l)) ?_
    have hl : i < l.length := by rw [hs.1]; exact hi
    simp only [g2Tree, Tree.ok, quo0 hi, rem0 hi, Int.toNat_natCast, Nat.mul_one, Nat.zero_add, encB_get hl, isInt, pvInt, inB]
    exact ⟨trivial, trivial, by simp; omega, by decide, rfl⟩

theorem set_does {s : Pg} (hs : okP s) {i : Nat} (hi : i < 65536) (n x : Int) : Does Try.prog env 17 (sA i x) (stM n s) (.tup []) (stM n (setP s i x)) := by
  cases s with
  | none =>
    refine does_of_tree names (s1_tree i x n) ?_
    simp only [s1Tree, Tree.ok, quo0 hi, rem0 hi, Int.toNat_natCast, Nat.mul_one, Nat.zero_add, bigL_eq, List.length_replicate, setL, inB, setP]
    refine ⟨trivial, fun h => ?_, fun h => ⟨trivial, by simp; omega, by simp; omega, ?_⟩⟩
    · rw [if_pos (by simpa using h)]; rfl
    · rw [if_neg (by simpa using h)]
      show _ = Out.ret _ (mS n (encB (nought.set i x)))
      rw [← encB_set, encB, nought, List.map_replicate]
  | some l =>
    refine does_of_tree names (s2_tree i x n (encB l)) ?_
    simp only [s2Tree, Tree.ok, quo0 hi, rem0 hi, Int.toNat_natCast, Nat.mul_one, Nat.zero_add, encB_len, hs.1, setL, inB, encB_set]
    exact ⟨trivial, trivial, by simp; omega, by simp; omega, rfl⟩

/-! Bytes that are laid one behind the other. -/

def putP (s : Pg) (at_ : Nat) : List Int → Pg
  | [] => s
  | x :: r => putP (setP s at_ x) (at_ + 1) r

theorem okP_put : ∀ {l : List Int} {s : Pg} {at_ : Nat}, okP s → (∀ b ∈ l, 0 ≤ b ∧ b < 256) → okP (putP s at_ l)
  | [], _, _, h, _ => h
  | x :: r, s, at_, h, hb => by
    have h1 : okP (setP s at_ x) := okP_set h (hb x (.head _)).1 (hb x (.head _)).2
    exact okP_put (l := r) h1 fun b q => hb b (.tail _ q)

theorem get_put : ∀ {l : List Int} {s : Pg} {at_ : Nat}, okP s → (∀ b ∈ l, 0 ≤ b ∧ b < 256) → at_ + l.length ≤ 65536 → ∀ j, getP (putP s at_ l) j = if at_ ≤ j ∧ j < at_ + l.length then l.getD (j - at_) 0 else getP s j
  | [], s, at_, _, _, _, j => by
    rw [if_neg (by simp only [List.length_nil]; omega)]; rfl
  | x :: r, s, at_, h, hb, hl, j => by
    have hx := hb x (.head _)
    simp only [List.length_cons] at hl
    show getP (putP (setP s at_ x) (at_ + 1) r) j = _
    rw [get_put (okP_set h hx.1 hx.2) (fun b q => hb b (.tail _ q)) (by omega) j, get_set h (by omega)]
    simp only [List.length_cons]
    by_cases e : j = at_
    · subst e
      rw [if_neg (by omega), if_pos rfl, if_pos (by omega), Nat.sub_self]
      rfl
    · by_cases q : at_ + 1 ≤ j ∧ j < at_ + 1 + r.length
      · rw [if_pos q, if_pos (by omega)]
        obtain ⟨k, rfl⟩ : ∃ k, j = at_ + 1 + k := ⟨j - (at_ + 1), by omega⟩
        rw [show at_ + 1 + k - (at_ + 1) = k by omega, show at_ + 1 + k - at_ = k + 1 by omega]
        rfl
      · rw [if_neg q, if_neg e, if_neg (by omega)]

/-- The bytes at a place. -/
def readP (s : Pg) (at_ : Nat) : Nat → List Int
  | 0 => []
  | n + 1 => getP s at_ :: readP s (at_ + 1) n

theorem readP_len (s : Pg) : ∀ (n at_ : Nat), (readP s at_ n).length = n
  | 0, _ => rfl
  | n + 1, at_ => by rw [readP, List.length_cons, readP_len s n]

theorem readP_ok {s : Pg} (h : okP s) : ∀ (n at_ : Nat), ∀ b ∈ readP s at_ n, 0 ≤ b ∧ b < 256
  | n + 1, at_, b, hb => by
    rcases List.mem_cons.1 hb with rfl | q
    · exact okP_get h at_
    · exact readP_ok h n _ b q

end Go.Proofs.Ytiacpconafalhaa.N
