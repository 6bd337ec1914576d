/-
  InstrMany: its call, for all numbers.
-/
import Derived.Test.YtjjloibfhgofcaaDoorAw
import Derived.Test.YtjjloibfhgofcaaDoorAm25
namespace Go.Proofs.YtjjloibfhgofcaaDoor.N
open Go Go.Am

def im0C (_x _y _z : Int) (many deep labels : Nat) (f : FuncId) (args : List AV) (m : Mem) : Option (AV × Mem) := cond (Nat.beq f 10) (match args with
  | [_, .p (.sc (.int _ n))] => cond (decide (n = 264000)) (some (sI .i64 many, m)) (cond (decide (n = 1000)) (some (sI .i64 deep, m)) (some (sI .i64 labels, m)))
  | _ => none) none
def imS (i : Nat) : FuncId → Nat → Nat → Option (AV → AV) := shapeAt [(4, 6, 1, sI .i64 ((i + 1 : Nat) : Int)), (4, 10, 1, sI .i64 ((i + 1 : Nat) : Int))]
def im1S (_many _deep : Nat) (_cs : List PV) (i : Nat) : FuncId → Nat → Nat → Option (AV → AV) := imS i
def im2S (_many _deep : Nat) (_cs : List PV) (i : Nat) (_ck _n _d : Int) : FuncId → Nat → Nat → Option (AV → AV) := imS i
def im2C (_many _deep : Nat) (_cs : List PV) (_i : Nat) (ck n d : Int) (f : FuncId) (_ : List AV) (m : Mem) : Option (AV × Mem) := cond (Nat.beq f 12 || Nat.beq f 13) (some (sI .i64 ck, m)) (cond (Nat.beq f 14) (some (sI .i64 n, m)) (cond (Nat.beq f 15) (some (sI .i64 d, m)) (cond (Nat.beq f 16) (some (sB true, m)) none)))
def im3S (_many _deep : Nat) (_k : Nat) (_cs : List PV) (i : Nat) (_ck _n _d : Int) : FuncId → Nat → Nat → Option (AV → AV) := imS i
def im3C (_many _deep : Nat) (_k : Nat) (_cs : List PV) (_i : Nat) (ck n d : Int) (f : FuncId) (_ : List AV) (m : Mem) : Option (AV × Mem) := cond (Nat.beq f 12 || Nat.beq f 13) (some (sI .i64 ck, m)) (cond (Nat.beq f 14) (some (sI .i64 n, m)) (cond (Nat.beq f 15) (some (sI .i64 d, m)) (cond (Nat.beq f 16) (some (sB true, m)) none)))
/- pic: 53 steps -/
noncomputable def picOrc : Orc := orcL noCall noLed [] [(10, 0, 0), (10, 0, 1)] [(10, 4, 2)]
def picSc : Sc := .fin
noncomputable def picTree (x : Int) (n : Int) : Tree :=
  (.test (decide (n < 1))
   (.out (Out.ret (AV.p (PV.sc (Value.int IntKind.i64 0))) []))
   (.must (!n == 0 && true)
    (.test (decide (x.tmod n < 0))
     (.out (Out.ret (AV.p (PV.sc (Value.int IntKind.i64 (IntKind.i64.wrap (x.tmod n + n))))) []))
     (.out (Out.ret (AV.p (PV.sc (Value.int IntKind.i64 (x.tmod n)))) [])))))
theorem pic_tree (x : Int) (n : Int) : growF Tryd.prog env picOrc 1000000 10 ([sI IntKind.i64 x, sI IntKind.i64 n]) ([]) picSc = picTree x n := by kernel_rfl

/- im0: 31 steps -/
noncomputable def im0Orc (x : Int) (y : Int) (z : Int) (many : Nat) (deep : Nat) (labels : Nat) : Orc := orcL (im0C x y z many deep labels) noLed [(4, 0), (4, 2)] [] [(4, 3, 1)]
def im0Sc : Sc := .fin
noncomputable def im0Tree (x : Int) (y : Int) (z : Int) (many : Nat) (deep : Nat) (labels : Nat) : Tree :=
  (.call ⟨10, [AV.p (PV.sc (Value.int IntKind.i64 x)), AV.p (PV.sc (Value.int IntKind.i64 264000))], [], AV.p (PV.sc (Value.int IntKind.i64 (↑many : Int))), []⟩
   (.call ⟨10, [AV.p (PV.sc (Value.int IntKind.i64 y)), AV.p (PV.sc (Value.int IntKind.i64 1000))], [], AV.p (PV.sc (Value.int IntKind.i64 (↑deep : Int))), []⟩
    (.call ⟨10, [AV.p (PV.sc (Value.int IntKind.i64 z)), AV.p (PV.sc (Value.int IntKind.i64 20000))], [], AV.p (PV.sc (Value.int IntKind.i64 (↑labels : Int))), []⟩
     (.must (decide ((↑labels : Int) = (↑labels : Int)) && ((↑labels : Int).toNat.ble lim && (4 * (↑labels : Int).toNat).ble lim) && true)
      (.at (bodyCfg Tryd.prog env 4 0 [AV.p (PV.sc (Value.int IntKind.i64 (↑many : Int))), AV.p (PV.sc (Value.int IntKind.i64 (↑deep : Int))), AV.os Option.none 1 8 [PV.sc (Value.int IntKind.i64 14), PV.sc (Value.int IntKind.i64 0), PV.sc (Value.int IntKind.u32 0), PV.sc (Value.int IntKind.u32 0), PV.sc (Value.int IntKind.i32 0), PV.ps (↑labels : Int).toNat 1 (List.replicate (↑labels : Int).toNat (PV.sc (Value.int IntKind.u32 0))), PV.ps 0 0 [], PV.ps 0 0 []], AV.p (PV.sc (Value.int IntKind.i64 1))] ([]) 0 61))))))
theorem im0_tree (x : Int) (y : Int) (z : Int) (many : Nat) (deep : Nat) (labels : Nat) : growF Tryd.prog env (im0Orc x y z many deep labels) 1000000 4 ([sI IntKind.i64 x, sI IntKind.i64 y, sI IntKind.i64 z]) ([]) im0Sc = im0Tree x y z many deep labels := by kernel_rfl

/- im1: 32 steps -/
noncomputable def im1Orc (many : Nat) (deep : Nat) (cs : List PV) (i : Nat) : Orc := orcS noCall noLed [(4, 0), (4, 2)] [(4, 0, 1)] [] (im1S many deep cs i)
def im1Sc : Sc := .fin
noncomputable def im1Tree (many : Nat) (deep : Nat) (cs : List PV) (i : Nat) : Tree :=
  (.test (decide ((↑i : Int) < (↑deep : Int)))
   (.need (AV.p (PV.sc (Value.int IntKind.i64 (IntKind.i64.wrap ((↑i : Int) + 1)))) = sI IntKind.i64 (↑(i + 1) : Int))
    (.at (bodyCfg Tryd.prog env 4 0 [AV.p (PV.sc (Value.int IntKind.i64 (↑many : Int))), AV.p (PV.sc (Value.int IntKind.i64 (↑deep : Int))), AV.os Option.none 1 8 [PV.sc (Value.int IntKind.i64 2), PV.sc (Value.int IntKind.i64 0), PV.sc (Value.int IntKind.u32 0), PV.sc (Value.int IntKind.u32 0), PV.sc (Value.int IntKind.i32 0), PV.ps 0 0 [], PV.ps 1 8 cs, PV.ps 0 0 []], AV.p (PV.sc (Value.int IntKind.i64 (↑(i + 1) : Int)))] ([]) 0 61)))
   (.at (bodyCfg Tryd.prog env 4 2 [AV.p (PV.sc (Value.int IntKind.i64 (↑many : Int))), AV.p (PV.sc (Value.int IntKind.i64 (↑deep : Int))), AV.os Option.none 1 8 cs, AV.p (PV.sc (Value.int IntKind.i64 0))] ([]) 0 61)))
theorem im1_tree (many : Nat) (deep : Nat) (cs : List PV) (i : Nat) : grow Tryd.prog env (im1Orc many deep cs i) 1000000 true (bodyCfg Tryd.prog env 4 0 ([sI IntKind.i64 (↑many : Int), sI IntKind.i64 (↑deep : Int), AV.os Option.none 1 8 cs, sI IntKind.i64 (↑i : Int)]) ([]) 0 61) im1Sc atEnd = im1Tree many deep cs i := by kernel_rfl

/- im2: 127 steps -/
noncomputable def im2Orc (many : Nat) (deep : Nat) (cs : List PV) (i : Nat) (ck : Int) (n : Int) (d : Int) : Orc := orcS (im2C many deep cs i ck n d) noLed [(4, 0), (4, 2)] [(4, 0, 3), (4, 12, 6), (4, 12, 15), (4, 12, 22)] [] (im2S many deep cs i ck n d)
def im2Sc : Sc := (.fork .fin (.fork (.fork .fin (.lit .fin)) (.lit (.lit .fin))))
noncomputable def im2Tree (many : Nat) (deep : Nat) (cs : List PV) (i : Nat) (ck : Int) (n : Int) (d : Int) : Tree :=
  (.test (decide ((↑i : Int) < (↑many : Int)))
   (.need (AV.p (PV.sc (Value.int IntKind.i64 (IntKind.i64.wrap ((↑i : Int) + 1)))) = sI IntKind.i64 (↑(i + 1) : Int))
    (.at (bodyCfg Tryd.prog env 4 2 [AV.p (PV.sc (Value.int IntKind.i64 (↑many : Int))), AV.p (PV.sc (Value.int IntKind.i64 (↑deep : Int))), AV.os (Option.some 0) 2 8 (cs ++ [PV.sc (Value.int IntKind.i64 1), PV.sc (Value.int IntKind.i64 0), PV.sc (Value.int IntKind.u32 0), PV.sc (Value.int IntKind.u32 0), PV.sc (Value.int IntKind.i32 0), PV.ps 0 0 [], PV.ps 0 0 [], PV.ps 0 0 []]), AV.p (PV.sc (Value.int IntKind.i64 (↑(i + 1) : Int)))] ([Blk.tok]) 0 61)))
   (.call ⟨12, [AV.os Option.none 1 8 cs], [], AV.p (PV.sc (Value.int IntKind.i64 ck)), []⟩
    (.call ⟨13, [AV.os Option.none 1 8 cs], [], AV.p (PV.sc (Value.int IntKind.i64 ck)), []⟩
     (.test (ck == ck)
      (.call ⟨14, [AV.os Option.none 1 8 cs], [], AV.p (PV.sc (Value.int IntKind.i64 n)), []⟩
       (.test (n == IntKind.i64.wrap ((bif false then Min.min (↑deep : Int) 1 else Max.max (↑deep : Int) 1) + (↑many : Int)))
        (.call ⟨15, [AV.os Option.none 1 8 cs], [], AV.p (PV.sc (Value.int IntKind.i64 d)), []⟩
         (.test (d == bif false then Min.min (↑deep : Int) 1 else Max.max (↑deep : Int) 1)
          (.call ⟨16, [], [], AV.p (PV.sc (Value.bool true)), []⟩
           (.out (Out.ret (AV.p (PV.sc (Value.bool true))) [])))
          (.out (Out.ret (AV.p (PV.sc (Value.bool false))) []))))
        (.out (Out.ret (AV.p (PV.sc (Value.bool false))) []))))
      (.out (Out.ret (AV.p (PV.sc (Value.bool false))) []))))))
theorem im2_tree (many : Nat) (deep : Nat) (cs : List PV) (i : Nat) (ck : Int) (n : Int) (d : Int) : grow Tryd.prog env (im2Orc many deep cs i ck n d) 1000000 true (bodyCfg Tryd.prog env 4 2 ([sI IntKind.i64 (↑many : Int), sI IntKind.i64 (↑deep : Int), AV.os Option.none 1 8 cs, sI IntKind.i64 (↑i : Int)]) ([]) 0 61) im2Sc atEnd = im2Tree many deep cs i ck n d := by kernel_rfl

/- im3: 127 steps -/
noncomputable def im3Orc (many : Nat) (deep : Nat) (k : Nat) (cs : List PV) (i : Nat) (ck : Int) (n : Int) (d : Int) : Orc := orcS (im3C many deep k cs i ck n d) noLed [(4, 0), (4, 2)] [(4, 0, 3), (4, 12, 6), (4, 12, 15), (4, 12, 22)] [(4, 11, 3)] (im3S many deep k cs i ck n d)
def im3Sc : Sc := (.fork .fin (.fork (.fork .fin (.lit .fin)) (.lit (.lit .fin))))
noncomputable def im3Tree (many : Nat) (deep : Nat) (k : Nat) (cs : List PV) (i : Nat) (ck : Int) (n : Int) (d : Int) : Tree :=
  (.test (decide ((↑i : Int) < (↑many : Int)))
   (.must (((k + 1) * 104).ble lim && (k + 1).ble lim && true)
    (.need (AV.p (PV.sc (Value.int IntKind.i64 (IntKind.i64.wrap ((↑i : Int) + 1)))) = sI IntKind.i64 (↑(i + 1) : Int))
     (.at (bodyCfg Tryd.prog env 4 2 [AV.p (PV.sc (Value.int IntKind.i64 (↑many : Int))), AV.p (PV.sc (Value.int IntKind.i64 (↑deep : Int))), AV.os (Option.some 0) (k + 1) 8 (cs ++ [PV.sc (Value.int IntKind.i64 1), PV.sc (Value.int IntKind.i64 0), PV.sc (Value.int IntKind.u32 0), PV.sc (Value.int IntKind.u32 0), PV.sc (Value.int IntKind.i32 0), PV.ps 0 0 [], PV.ps 0 0 [], PV.ps 0 0 []]), AV.p (PV.sc (Value.int IntKind.i64 (↑(i + 1) : Int)))] ([Blk.tok]) 0 61))))
   (.call ⟨12, [AV.os (Option.some 0) k 8 cs], [Blk.tok], AV.p (PV.sc (Value.int IntKind.i64 ck)), [Blk.tok]⟩
    (.call ⟨13, [AV.os (Option.some 0) k 8 cs], [Blk.tok], AV.p (PV.sc (Value.int IntKind.i64 ck)), [Blk.tok]⟩
     (.test (ck == ck)
      (.call ⟨14, [AV.os (Option.some 0) k 8 cs], [Blk.tok], AV.p (PV.sc (Value.int IntKind.i64 n)), [Blk.tok]⟩
       (.test (n == IntKind.i64.wrap ((bif false then Min.min (↑deep : Int) 1 else Max.max (↑deep : Int) 1) + (↑many : Int)))
        (.call ⟨15, [AV.os (Option.some 0) k 8 cs], [Blk.tok], AV.p (PV.sc (Value.int IntKind.i64 d)), [Blk.tok]⟩
         (.test (d == bif false then Min.min (↑deep : Int) 1 else Max.max (↑deep : Int) 1)
          (.call ⟨16, [], [], AV.p (PV.sc (Value.bool true)), []⟩
           (.out (Out.ret (AV.p (PV.sc (Value.bool true))) [])))
          (.out (Out.ret (AV.p (PV.sc (Value.bool false))) []))))
        (.out (Out.ret (AV.p (PV.sc (Value.bool false))) []))))
      (.out (Out.ret (AV.p (PV.sc (Value.bool false))) []))))))
theorem im3_tree (many : Nat) (deep : Nat) (k : Nat) (cs : List PV) (i : Nat) (ck : Int) (n : Int) (d : Int) : grow Tryd.prog env (im3Orc many deep k cs i ck n d) 1000000 true (bodyCfg Tryd.prog env 4 2 ([sI IntKind.i64 (↑many : Int), sI IntKind.i64 (↑deep : Int), AV.os (Option.some 0) k 8 cs, sI IntKind.i64 (↑i : Int)]) ([Blk.tok]) 0 61) im3Sc atEnd = im3Tree many deep k cs i ck n d := by kernel_rfl


theorem pick_does (x n : Int) (hn : 1 ≤ n) (hn2 : n ≤ 1000000000) : Does Tryd.prog env 10 [sI .i64 x, sI .i64 n] [] (sI .i64 (x % n)) [] := by
  refine does_of_tree names (pic_tree x n) ?_
  simp only [picTree, Tree.ok]
  have h1 := Int.emod_nonneg x (show n ≠ 0 by omega)
  have h2 := Int.emod_lt_of_pos x (show 0 < n by omega)
  have h3 : x.tmod n = x % n - if 0 ≤ x ∨ n ∣ x then 0 else n.natAbs := Int.tmod_eq_emod
  refine ⟨fun h => absurd (of_decide_eq_true h) (by omega), fun _ => ⟨by simp; omega, fun h => ?_, fun h => ?_⟩⟩
  · have h := of_decide_eq_true h
    have e : x.tmod n + n = x % n := by
      split at h3
      · omega
      · omega
    rw [e, i64In (by omega) (by omega)]
  · have h := of_decide_eq_false h
    have e : x.tmod n = x % n := by
      split at h3
      · omega
      · omega
    rw [e]

/-- The lists that are made: labels, in as many Blocks; as many Nops behind. -/
def brI (L : Nat) : Ins := .mk 14 0 0 0 0 (List.replicate L 0) [] []
def nest (L : Nat) : Nat → Ins
  | 0 => brI L
  | k + 1 => .mk 2 0 0 0 0 [] [nest L k] []
def nopI : Ins := .mk 1 0 0 0 0 [] [] []

def brZ (L : Nat) : List PV := [.sc (.int .i64 14), .sc (.int .i64 0), .sc (.int .u32 0), .sc (.int .u32 0), .sc (.int .i32 0), .ps L 1 (List.replicate L (.sc (.int .u32 0))), .ps 0 0 [], .ps 0 0 []]
def nestZ (L : Nat) : Nat → List PV
  | 0 => brZ L
  | k + 1 => [.sc (.int .i64 2), .sc (.int .i64 0), .sc (.int .u32 0), .sc (.int .u32 0), .sc (.int .i32 0), .ps 0 0 [], .ps 1 8 (nestZ L k), .ps 0 0 []]
def nopZ : List PV := [.sc (.int .i64 1), .sc (.int .i64 0), .sc (.int .u32 0), .sc (.int .u32 0), .sc (.int .i32 0), .ps 0 0 [], .ps 0 0 [], .ps 0 0 []]

theorem brZ_le (L : Nat) : PleL (brZ L) (encI (brI L)) := by
  refine ⟨.refl _, .refl _, .refl _, .refl _, .refl _, ?_, .nil, .nil, trivial⟩
  rw [List.length_replicate, encT, List.map_replicate]
  exact .refl _

theorem nestZ_le (L : Nat) : ∀ k, PleL (nestZ L k) (encI (nest L k))
  | 0 => brZ_le L
  | k + 1 => ⟨.refl _, .refl _, .refl _, .refl _, .refl _, .nil, .ps (by rw [encL, encL, List.append_nil]; exact nestZ_le L k), .nil, trivial⟩

theorem nopZ_le : PleL nopZ (encI nopI) := ⟨.refl _, .refl _, .refl _, .refl _, .refl _, .nil, .nil, .nil, trivial⟩

def allZ (L k : Nat) : Nat → List PV
  | 0 => nestZ L k
  | j + 1 => allZ L k j ++ nopZ
def allI' (L k j : Nat) : List Ins := nest L k :: List.replicate j nopI

theorem allZ_le (L k : Nat) : ∀ j, PleL (allZ L k j) (encL (allI' L k j))
  | 0 => by rw [allI', List.replicate_zero, encL, encL, List.append_nil]; exact nestZ_le L k
  | j + 1 => by
    rw [allI', List.replicate_succ', ← List.cons_append, encL_append, encL_one]
    exact (allZ_le L k j).append nopZ_le

theorem nest_num (L : Nat) : ∀ k, numI (nest L k) = k + 1
  | 0 => rfl
  | k + 1 => by simp only [nest, numI, numL, nest_num L k]; omega

theorem nest_dep (L : Nat) : ∀ (k d : Nat), depI d (nest L k) = d + k
  | 0, d => by simp [nest, brI, depI, depL]
  | k + 1, d => by simp only [nest, depI, depL, nest_dep L k]; omega

theorem nops_num : ∀ j, numL (List.replicate j nopI) = j
  | 0 => rfl
  | j + 1 => by rw [List.replicate_succ, numL, nops_num j]; simp [nopI, numI, numL]; omega

theorem nops_dep : ∀ j, depL 1 (List.replicate j nopI) ≤ 1
  | 0 => by simp [depL]
  | j + 1 => by rw [List.replicate_succ, depL]; have := nops_dep j; rw [show depI 1 nopI = 1 from rfl]; omega

theorem all_num (L k j : Nat) : numL (allI' L k j) = k + 1 + j := by rw [allI', numL, nest_num, nops_num]
theorem all_dep (L k j : Nat) : depL 1 (allI' L k j) = k + 1 := by
  have := nops_dep j
  rw [allI', depL, nest_dep]; omega

theorem awake_does : Does Tryd.prog env 16 [] [] (sB true) [] := Awdoes.env fun _ _ h => h

section
variable {L many deep : Nat} (hm : many ≤ 1000000) (hd : deep ≤ 1000000)
include hm hd

/-- What is told of the list that is made. -/
theorem many_end {k : Nat} (hk : k + 1 = max deep 1) {a : AV} (ha : Ale a (aL (allI' L k many))) (m : Mem) :
    ∃ ck, Does Tryd.prog env 12 [a] m (sI .i64 ck) m ∧ Does Tryd.prog env 13 [a] m (sI .i64 ck) m ∧ Does Tryd.prog env 14 [a] m (sI .i64 (max (deep : Int) 1 + many)) m ∧ Does Tryd.prog env 15 [a] m (sI .i64 (max (deep : Int) 1)) m := by
  have hbig : bigN = 1000000000000 := rfl
  have hn := all_num L k many
  have hdp := all_dep L k many
  have lent : ∀ {f : FuncId} {n : Int}, Does Tryd.prog env f [aL (allI' L k many)] [] (sI .i64 n) [] → Does Tryd.prog env f [a] m (sI .i64 n) m := fun {f n} h => by
    have := h.lent (m := m) (args := [a]) ⟨ha, trivial⟩
    simpa [ren] using this
  refine ⟨_, lent (check_does mayI_does _ (by omega)), lent (rcheck_does rightI_does _ (by omega)), ?_, ?_⟩
  · have := lent (count_does (allI' L k many) (by omega))
    rw [hn, hk] at this
    rw [show (max (deep : Int) 1 + (many : Int)) = ((max deep 1 + many : Nat) : Int) by omega]
    exact this
  · have := lent (deep_does (allI' L k many) (by omega))
    rw [hdp, hk] at this
    rw [show (max (deep : Int) 1) = ((max deep 1 : Nat) : Int) by omega]
    exact this

theorem many_loop {k : Nat} (hk : k + 1 = max deep 1) : ∀ (r i : Nat), i + r = many → 1 ≤ i → Am.Good Tryd.prog env (bodyCfg Tryd.prog env 4 2 [sI .i64 many, sI .i64 deep, .os (some 0) (i + 1) 8 (allZ L k i), sI .i64 i] [.tok] 0 61) (.ret (sB true) []) := by
  intro r
  have hlim : lim = 70368744177664 := rfl
  induction r with
  | zero =>
    intro i hi _
    obtain rfl : i = many := by omega
    obtain ⟨ck, h1, h2, h3, h4⟩ := many_end (L := L) hm hd hk (a := .os (some 0) (i + 1) 8 (allZ L k i)) (.os (by rw [show i + 1 = (allI' L k i).length by simp [allI']]; exact .ps (allZ_le L k i))) [.tok]
    have w : IntKind.i64.wrap (max (deep : Int) 1 + (i : Int)) = max (deep : Int) 1 + i := i64In (by omega) (by omega)
    refine good_of_tree names (im3_tree i deep (i + 1) (allZ L k i) i ck (max (deep : Int) 1 + i) (max (deep : Int) 1)) ?_
    simp only [im3Tree, Tree.ok, cond_false, w, beq_self_eq_true]
    exact ⟨fun h => by simp at h, fun _ => ⟨h1, h2, fun _ => ⟨h3, fun _ => ⟨h4, fun _ => ⟨awake_does, by trivial⟩, fun h => by cases h⟩, fun h => by cases h⟩, fun h => by cases h⟩⟩
  | succ r ih =>
    intro i hi h1
    have w1 : IntKind.i64.wrap ((i : Int) + 1) = ((i + 1 : Nat) : Int) := by rw [i64In (by omega) (by omega)]; rfl
    refine good_of_tree names (im3_tree many deep (i + 1) (allZ L k i) i 0 0 0) ?_
    simp only [im3Tree, Tree.ok, w1]
    exact ⟨fun _ => ⟨by simp; omega, by trivial, ih (i + 1) (by omega) (by omega)⟩, fun h => absurd h (by simp; omega)⟩

theorem many_first {k : Nat} (hk : k + 1 = max deep 1) : Am.Good Tryd.prog env (bodyCfg Tryd.prog env 4 2 [sI .i64 many, sI .i64 deep, .os none 1 8 (nestZ L k), sI .i64 0] [] 0 61) (.ret (sB true) []) := by
  rcases Nat.eq_zero_or_pos many with rfl | hpos
  · obtain ⟨ck, h1, h2, h3, h4⟩ := many_end (L := L) hm hd hk (a := .os none 1 8 (nestZ L k)) (.os (.ps (allZ_le L k 0))) []
    have w : IntKind.i64.wrap (max (deep : Int) 1 + ((0 : Nat) : Int)) = max (deep : Int) 1 + ((0 : Nat) : Int) := i64In (by omega) (by omega)
    refine good_of_tree names (im2_tree 0 deep (nestZ L k) 0 ck (max (deep : Int) 1 + ((0 : Nat) : Int)) (max (deep : Int) 1)) ?_
    simp only [im2Tree, Tree.ok, cond_false, w, beq_self_eq_true]
    exact ⟨fun h => by simp at h, fun _ => ⟨h1, h2, fun _ => ⟨h3, fun _ => ⟨h4, fun _ => ⟨awake_does, by trivial⟩, fun h => by cases h⟩, fun h => by cases h⟩, fun h => by cases h⟩⟩
  · refine good_of_tree names (im2_tree many deep (nestZ L k) 0 0 0 0) ?_
    have w1 : IntKind.i64.wrap (((0 : Nat) : Int) + 1) = ((0 + 1 : Nat) : Int) := by decide
    simp only [im2Tree, Tree.ok, w1]
    exact ⟨fun _ => ⟨by trivial, many_loop hm hd hk (many - 1) 1 (by omega) (by omega)⟩, fun h => absurd h (by simp; omega)⟩

theorem deep_loop : ∀ (r i : Nat), i + 1 + r = max deep 1 → Am.Good Tryd.prog env (bodyCfg Tryd.prog env 4 0 [sI .i64 many, sI .i64 deep, .os none 1 8 (nestZ L i), sI .i64 (i + 1 : Nat)] [] 0 61) (.ret (sB true) []) := by
  intro r
  induction r with
  | zero =>
    intro i hi
    refine good_of_tree names (im1_tree many deep (nestZ L i) (i + 1)) ?_
    simp only [im1Tree, Tree.ok]
    exact ⟨fun h => absurd h (by simp; omega), fun _ => many_first hm hd (by omega)⟩
  | succ r ih =>
    intro i hi
    have w1 : IntKind.i64.wrap (((i + 1 : Nat) : Int) + 1) = ((i + 1 + 1 : Nat) : Int) := by rw [i64In (by omega) (by omega)]; rfl
    refine good_of_tree names (im1_tree many deep (nestZ L i) (i + 1)) ?_
    simp only [im1Tree, Tree.ok, w1]
    exact ⟨fun _ => ⟨by trivial, ih (i + 1) (by omega)⟩, fun h => absurd h (by simp; omega)⟩
end

theorem manyLaw_does (x y z : Int) : Does Tryd.prog env 4 [sI .i64 x, sI .i64 y, sI .i64 z] [] (sB true) [] := by
  have r1 := Int.emod_nonneg x (show (264000 : Int) ≠ 0 by omega)
  have r2 := Int.emod_lt_of_pos x (show (0 : Int) < 264000 by omega)
  have r3 := Int.emod_nonneg y (show (1000 : Int) ≠ 0 by omega)
  have r4 := Int.emod_lt_of_pos y (show (0 : Int) < 1000 by omega)
  have r5 := Int.emod_nonneg z (show (20000 : Int) ≠ 0 by omega)
  have r6 := Int.emod_lt_of_pos z (show (0 : Int) < 20000 by omega)
  have p1 := pick_does x 264000 (by omega) (by omega)
  have p2 := pick_does y 1000 (by omega) (by omega)
  have p3 := pick_does z 20000 (by omega) (by omega)
  obtain ⟨many, e1⟩ := Int.eq_ofNat_of_zero_le r1
  obtain ⟨deep, e2⟩ := Int.eq_ofNat_of_zero_le r3
  obtain ⟨L, e3⟩ := Int.eq_ofNat_of_zero_le r5
  rw [e1] at r2 p1
  rw [e2] at r4 p2
  rw [e3] at r6 p3
  have hlim : lim = 70368744177664 := rfl
  refine does_of_tree names (im0_tree x y z many deep L) ?_
  simp only [im0Tree, Tree.ok, Int.toNat_natCast]
  refine ⟨p1, p2, p3, by simp; omega, ?_⟩
  have h := deep_loop (L := L) (many := many) (deep := deep) (by omega) (by omega) (max deep 1 - 1) 0 (by omega)
  exact h
end Go.Proofs.YtjjloibfhgofcaaDoor.N
