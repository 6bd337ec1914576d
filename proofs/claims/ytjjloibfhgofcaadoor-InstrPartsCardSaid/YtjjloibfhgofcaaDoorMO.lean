/-
  instr.write: the labels, and one instruction whole, behind what is written already.
  instr.write whole, into a builder that is written already.
-/
import Derived.Test.YtjjloibfhgofcaaDoorMN

section
set_option linter.unusedVariables false
set_option linter.unusedSimpArgs false
namespace Go.Proofs.YtjjloibfhgofcaaDoor.N
open Go Go.Am

/- tF2: 77 steps -/
noncomputable def tF2Orc (l : List Ins) (tx : List UInt8) (i : Nat) (op : Int) (r : Int) (a : Int) (b : Int) (nn : Int) (tg : List Int) (ll : List Ins) (le : List Ins) (nb : List UInt8) (F : Int → List UInt8) (W : List PV → List UInt8) (B : List UInt8 → List AV) (j : Nat) (t : Int) : Orc := orcS (wt l tx i op r a b nn tg ll le nb F W B j t) (wt l tx i op r a b nn tg ll le nb F W B j t) [(34, 0), (34, 4)] [(34, 0, 5)] [(34, 13, 0), (34, 13, 1)] (wtS l tx i op r a b nn tg ll le nb F W B j t)
def tF2Sc : Sc := .fin
noncomputable def tF2Tree (l : List Ins) (tx : List UInt8) (i : Nat) (op : Int) (r : Int) (a : Int) (b : Int) (nn : Int) (tg : List Int) (ll : List Ins) (le : List Ins) (nb : List UInt8) (F : Int → List UInt8) (W : List PV → List UInt8) (B : List UInt8 → List AV) (j : Nat) (t : Int) : Tree :=
  (.test (decide ((↑j : Int) < (↑tg.length : Int)))
   (.must (inB (↑j : Int) tg.length && true && true)
    (.must (isInt IntKind.u32 ((encT IntKind.u32 tg).getD ((↑j : Int).toNat * 1) PV.bad) && true)
     (.need (AV.p (PV.sc (Value.int IntKind.u32 (pvInt ((encT IntKind.u32 tg).getD ((↑j : Int).toNat * 1) PV.bad)))) = AV.p (PV.sc (Value.int IntKind.u32 t)))
      (.need (AV.p (PV.sc (Value.int IntKind.i64 (IntKind.i64.wrap t))) = sI IntKind.i64 t)
       (.call ⟨67, [AV.p (PV.sc (Value.int IntKind.i64 t)), AV.mp 0 0], [Blk.ac [AV.mp 1 0], Blk.ob (ObK.gr 83 false) [AV.mp 1 0, AV.ms 2 0 (B tx).length 1 Option.none], Blk.ob (ObK.gr 5 true) (List.map keepP (B tx))], AV.tup [], [Blk.ac [AV.mp 1 0], Blk.ob (ObK.gr 83 false) [AV.mp 1 0, AV.ms 3 0 (List.map keepP (B tx) ++ B (32 :: F t)).length 1 Option.none], Blk.dead, Blk.ob (ObK.gr 5 true) (List.map keepP (B tx) ++ B (32 :: F t))]⟩
        (.need (AV.p (PV.sc (Value.int IntKind.i64 (IntKind.i64.wrap ((↑j : Int) + 1)))) = sI IntKind.i64 (↑(j + 1) : Int))
         (.at (bodyCfg Tryd.prog envP 34 4 [AV.mp 2 0, AV.fn (Fn.func 67) [] [AV.mp 2 0], AV.mp 3 0, AV.mp 4 0, AV.p (PV.ps l.length 8 (encL l)), AV.p (PV.sc (Value.int IntKind.i64 (↑l.length : Int))), AV.p (PV.sc (Value.int IntKind.i64 (↑i : Int))), AV.p (PV.ps tg.length 1 (encT IntKind.u32 tg)), AV.p (PV.sc (Value.int IntKind.i64 (↑tg.length : Int))), AV.p (PV.sc (Value.int IntKind.i64 (↑(j + 1) : Int)))] ([Blk.ob (ObK.gr 83 false) [AV.mp 0 0, AV.ms 5 0 (List.map keepP (B tx) ++ B (32 :: F t)).length 1 Option.none], Blk.dead, Blk.ac [AV.mp 0 0], Blk.ac [AV.p (PV.sc (Value.int IntKind.i64 op)), AV.p (PV.sc (Value.int IntKind.i64 r)), AV.p (PV.sc (Value.int IntKind.u32 a)), AV.p (PV.sc (Value.int IntKind.u32 b)), AV.p (PV.sc (Value.int IntKind.i32 nn)), AV.p (PV.ps tg.length 1 (encT IntKind.u32 tg)), AV.p (PV.ps ll.length 8 (encL ll)), AV.p (PV.ps le.length 8 (encL le))], Blk.pc [PV.sc (Value.bool false), PV.sc (Value.bool false), PV.sc (Value.bool true), PV.sc (Value.bool false), PV.sc (Value.bool false), PV.sc (Value.bool true)], Blk.ob (ObK.gr 5 true) (List.map keepP (List.map keepP (List.map keepP (B tx) ++ B (32 :: F t))))]) 2 95))))))))
   (.need (AV.p (PV.sc (Value.int IntKind.i64 (IntKind.i64.wrap a))) = sI IntKind.i64 a)
    (.call ⟨67, [AV.p (PV.sc (Value.int IntKind.i64 a)), AV.mp 0 0], [Blk.ac [AV.mp 1 0], Blk.ob (ObK.gr 83 false) [AV.mp 1 0, AV.ms 2 0 (B tx).length 1 Option.none], Blk.ob (ObK.gr 5 true) (List.map keepP (B tx))], AV.tup [], [Blk.ac [AV.mp 1 0], Blk.ob (ObK.gr 83 false) [AV.mp 1 0, AV.ms 3 0 (List.map keepP (B tx) ++ B (32 :: F a)).length 1 Option.none], Blk.dead, Blk.ob (ObK.gr 5 true) (List.map keepP (B tx) ++ B (32 :: F a))]⟩
     (.call ⟨68, [AV.mp 0 0, AV.p (PV.sc (Value.string (ByteArray.mk #[59])))], [Blk.ob (ObK.gr 83 false) [AV.mp 0 0, AV.ms 1 0 (List.map keepP (B tx) ++ B (32 :: F a)).length 1 Option.none], Blk.ob (ObK.gr 5 true) (List.map keepP (List.map keepP (List.map keepP (B tx) ++ B (32 :: F a))))], AV.tup [AV.p (PV.sc (Value.int IntKind.i64 1)), AV.p (PV.sc Value.nilIface)], [Blk.ob (ObK.gr 83 false) [AV.mp 0 0, AV.ms 2 0 (List.map keepP (List.map keepP (List.map keepP (B tx) ++ B (32 :: F a))) ++ B (ByteArray.mk #[59]).data.toList).length 1 Option.none], Blk.dead, Blk.ob (ObK.gr 5 true) (List.map keepP (List.map keepP (List.map keepP (B tx) ++ B (32 :: F a))) ++ B (ByteArray.mk #[59]).data.toList)]⟩
      (.need (AV.p (PV.sc (Value.int IntKind.i64 (IntKind.i64.wrap ((↑i : Int) + 1)))) = sI IntKind.i64 (↑(i + 1) : Int))
       (.at (bodyCfg Tryd.prog envP 34 0 [AV.mp 2 0, AV.fn (Fn.func 67) [] [AV.mp 2 0], AV.p (PV.ps l.length 8 (encL l)), AV.p (PV.sc (Value.int IntKind.i64 (↑l.length : Int))), AV.p (PV.sc (Value.int IntKind.i64 (↑(i + 1) : Int)))] ([Blk.ob (ObK.gr 83 false) [AV.mp 0 0, AV.ms 3 0 (List.map keepP (List.map keepP (List.map keepP (B tx) ++ B (32 :: F a))) ++ B (ByteArray.mk #[59]).data.toList).length 1 Option.none], Blk.dead, Blk.ac [AV.mp 0 0], Blk.ob (ObK.gr 5 true) (List.map keepP (List.map keepP (List.map keepP (List.map keepP (List.map keepP (B tx) ++ B (32 :: F a))) ++ B (ByteArray.mk #[59]).data.toList)))]) 2 95)))))))
theorem tF2_tree (l : List Ins) (tx : List UInt8) (i : Nat) (op : Int) (r : Int) (a : Int) (b : Int) (nn : Int) (tg : List Int) (ll : List Ins) (le : List Ins) (nb : List UInt8) (F : Int → List UInt8) (W : List PV → List UInt8) (B : List UInt8 → List AV) (j : Nat) (t : Int) : grow Tryd.prog envP (tF2Orc l tx i op r a b nn tg ll le nb F W B j t) 1000000 true (bodyCfg Tryd.prog envP 34 4 ([AV.mp 2 0, AV.fn (Fn.func 67) [] [AV.mp 2 0], AV.mp 3 0, AV.mp 4 0, aL l, sI IntKind.i64 (↑l.length : Int), sI IntKind.i64 (↑i : Int), AV.p (PV.ps tg.length 1 (encT IntKind.u32 tg)), sI IntKind.i64 (↑tg.length : Int), sI IntKind.i64 (↑j : Int)]) ([bldX B 5 tx, Blk.dead, Blk.ac [AV.mp 0 0], Blk.ac [sI IntKind.i64 op, sI IntKind.i64 r, sI IntKind.u32 a, sI IntKind.u32 b, sI IntKind.i32 nn, AV.p (PV.ps tg.length 1 (encT IntKind.u32 tg)), aL ll, aL le], Blk.pc [PV.sc (Value.bool false), PV.sc (Value.bool false), PV.sc (Value.bool true), PV.sc (Value.bool false), PV.sc (Value.bool false), PV.sc (Value.bool true)], bufX B tx]) 2 95) tF2Sc atEnd = tF2Tree l tx i op r a b nn tg ll le nb F W B j t := by kernel_rfl


/-- The labels' text. -/
noncomputable abbrev tgB (tg : List Int) : List UInt8 := tg.flatMap fun t => 32 :: fmtB t

theorem encT_getD {k : IntKind} {tg : List Int} {j : Nat} {t : Int} (h : tg[j]? = some t) : (encT k tg).getD j .bad = .sc (.int k t) := by
  simp [encT, List.getD_eq_getElem?_getD, h]

theorem wt2_loop {l : List Ins} {i : Nat} {op r a b nn : Int} {tg : List Int} {ll le : List Ins} (hi : i < l.length) (hl : l.length ≤ maxT) (hT : tg.length ≤ maxT) (htg : ∀ t ∈ tg, 0 ≤ t ∧ t < 4294967296)
    (hA : -2147483648 ≤ a ∧ a < 4294967296) {o : Out} : ∀ (k j : Nat) (tx : List UInt8), j + k = tg.length → tx.length + 301 * k + 700 ≤ maxT →
    Am.Good Tryd.prog envP (bodyCfg Tryd.prog envP 34 0 (w2A l (i + 1)) (w2M (tx ++ (tgB (tg.drop j) ++ ((32 :: fmtB a) ++ [59])))) 2 95) o →
    Am.Good Tryd.prog envP (wt2Cfg l i op r a b nn tg ll le j tx) o := by
  have hmax : maxT = 1000000000 := rfl
  have w1 : IntKind.i64.wrap ((i : Int) + 1) = ((i + 1 : Nat) : Int) := by rw [i64In (by omega) (by omega)]; rfl
  have w2a : AV.p (PV.sc (Value.int IntKind.i64 (IntKind.i64.wrap a))) = sI IntKind.i64 a := by rw [i64In (by omega) (by omega)]
  have ha := fmtB_len a
  intro k
  induction k with
  | zero =>
    intro j tx hj ht n0
    have hjI : ¬ (j : Int) < (tg.length : Int) := by omega
    rw [show tg.drop j = [] from List.drop_eq_nil_of_le (by omega)] at n0
    refine good_of_tree names (tF2_tree l tx i op r a b nn tg ll le [] fmtB (ofCells [] txtL) btA j 0) ?_
    simp only [tF2Tree, Tree.ok, Int.toNat_natCast, Nat.mul_one, isInt, pvInt, inB, w1, btA_keep, btA_append, List.append_assoc]
    exact ⟨fun h => absurd (by simpa using h) hjI, fun _ => ⟨w2a, (by have h := num_does hA tx (by omega); exact h), (by have h := ws_does (tx ++ (32 :: fmtB a)) [59] (by simp only [List.length_append, List.length_cons, List.length_nil]; omega); (try simp only [List.append_assoc] at h); exact h), (by trivial), n0⟩⟩
  | succ k ih =>
    intro j tx hj ht n0
    have hjI : (j : Int) < (tg.length : Int) := by omega
    obtain ⟨t, hgt⟩ : ∃ t, tg[j]? = some t := ⟨tg[j]'(by omega), List.getElem?_eq_getElem (by omega)⟩
    have hc := encT_getD (k := .u32) hgt
    have htr := htg t (List.mem_of_getElem? hgt)
    have w1j : IntKind.i64.wrap ((j : Int) + 1) = ((j + 1 : Nat) : Int) := by rw [i64In (by omega) (by omega)]; rfl
    have w2t : AV.p (PV.sc (Value.int IntKind.i64 (IntKind.i64.wrap t))) = sI IntKind.i64 t := by rw [i64In (by omega) (by omega)]
    have hft := fmtB_len t
    have hd : tg.drop j = t :: tg.drop (j + 1) := by
      rw [List.drop_eq_getElem_cons (by omega)]
      congr 1
      have := List.getElem?_eq_some_iff.1 hgt
      obtain ⟨_, e⟩ := this
      exact e
    have nx := ih (j + 1) (tx ++ (32 :: fmtB t)) (by omega) (by simp only [List.length_append, List.length_cons]; omega) (by
      rw [hd] at n0
      simpa only [tgB, List.flatMap_cons, List.append_assoc] using n0)
    refine good_of_tree names (tF2_tree l tx i op r a b nn tg ll le [] fmtB (ofCells [] txtL) btA j t) ?_
    simp only [tF2Tree, Tree.ok, Int.toNat_natCast, Nat.mul_one, hc, isInt, pvInt, inB, w1, w1j, btA_keep, btA_append, List.append_assoc]
    exact ⟨fun _ => ⟨by simp [hjI], by simp, trivial, w2t, (by have h := num_does (n := t) (by omega) tx (by omega); exact h), (by trivial), nx⟩, fun h => absurd hjI (by simpa using h)⟩

/-- An instruction's text, by its kind. -/
theorem txt_no {op r a b nn : Int} {tg : List Int} {ll le : List Ins} (h1 : isLi op = false) (h2 : isSt op = false) (h3 : isWh op = false) (h4 : op ≠ 14) (h5 : op ≠ 65) : txtI (.mk op r a b nn tg ll le) = nameB op ++ [59] := by
  simp [txtI, h1, h2, h3, h4, h5]

theorem txt_wh {op r a b nn : Int} {tg : List Int} {ll le : List Ins} (h3 : isWh op = true) : txtI (.mk op r a b nn tg ll le) = nameB op ++ ((32 :: fmtB a) ++ [59]) := by
  have h := isWh_iff.1 h3
  have h1 : isLi op = false := by simp only [isLi, decide_eq_false_iff_not]; omega
  have h2 : isSt op = false := by simp only [isSt, decide_eq_false_iff_not]; omega
  have h4 : op ≠ 14 := by omega
  have h5 : op ≠ 65 := by omega
  simp [txtI, h1, h2, h3, h4, h5]

theorem txt_st {op r a b nn : Int} {tg : List Int} {ll le : List Ins} (h2 : isSt op = true) : txtI (.mk op r a b nn tg ll le) = nameB op ++ ((32 :: fmtB a) ++ ((32 :: fmtB b) ++ [59])) := by
  have h := isSt_iff.1 h2
  have h1 : isLi op = false := by simp only [isLi, decide_eq_false_iff_not]; omega
  have h3 : isWh op = false := by simp only [isWh, decide_eq_false_iff_not]; omega
  have h4 : op ≠ 14 := by omega
  have h5 : op ≠ 65 := by omega
  simp [txtI, h1, h2, h3, h4, h5]

theorem txt_65 {r a b nn : Int} {tg : List Int} {ll le : List Ins} : txtI (.mk 65 r a b nn tg ll le) = nameB 65 ++ ((32 :: fmtB nn) ++ [59]) := by
  simp [txtI, isLi, isSt, isWh]

theorem txt_14 {r a b nn : Int} {tg : List Int} {ll le : List Ins} : txtI (.mk 14 r a b nn tg ll le) = nameB 14 ++ (tgB tg ++ ((32 :: fmtB a) ++ [59])) := by
  simp [txtI, isLi, isSt, isWh]

theorem txt_li {op r a b nn : Int} {tg : List Int} {ll le : List Ins} (h : op = 2 ∨ op = 3) : txtI (.mk op r a b nn tg ll le) = nameB op ++ ((if r = 1 then [32, 105, 51, 50] else []) ++ ([59] ++ ((txtL ll) ++ [101, 110, 100, 59]))) := by
  rcases h with rfl | rfl <;> simp [txtI, isLi, isSt, isWh]

theorem txt_4 {r a b nn : Int} {tg : List Int} {ll le : List Ins} : txtI (.mk 4 r a b nn tg ll le) = nameB 4 ++ ((if r = 1 then [32, 105, 51, 50] else []) ++ ([59] ++ ((txtL ll) ++ ((if le ≠ [] then [101, 108, 115, 101, 59] ++ txtL le else []) ++ [101, 110, 100, 59])))) := by
  simp [txtI, isLi, isSt, isWh]

theorem lenPos {le : List Ins} : decide ((le.length : Int) > 0) = true ↔ le ≠ [] := by
  cases le <;> simp

theorem lenNo {le : List Ins} : decide ((le.length : Int) > 0) = false ↔ le = [] := by
  cases le <;> simp

theorem w2_step {l : List Ins} {i : Nat} {tx : List UInt8} {x : Ins} (hg : l[i]? = some x) (hw : wfI x) (hi : i < l.length) (hl : l.length ≤ maxT) (ht : tx.length + 1000 * cntI x ≤ maxT) (hll : Writes x.l) (hle : Writes x.e) {o : Out}
    (n0 : Am.Good Tryd.prog envP (bodyCfg Tryd.prog envP 34 0 (w2A l (i + 1)) (w2M (tx ++ txtI x)) 2 95) o) :
    Am.Good Tryd.prog envP (bodyCfg Tryd.prog envP 34 0 (w2A l i) (w2M tx) 2 95) o := by
  have hmax : maxT = 1000000000 := rfl
  obtain ⟨op, r, a, b, nn, tg, ll, le⟩ := x
  obtain ⟨-, -, hA, hB, hN, ⟨-, hT⟩, -, -⟩ := hw
  replace hA : -2147483648 ≤ a ∧ a < 4294967296 := by have := inU32 hA; omega
  replace hB : -2147483648 ≤ b ∧ b < 4294967296 := by have := inU32 hB; omega
  replace hN : -2147483648 ≤ nn ∧ nn < 4294967296 := by have := inI32 hN; omega
  simp only [cntI] at ht
  by_cases e4 : op = 4
  · subst e4
    rw [txt_4] at n0
    refine w2_cI hg hi hl (by omega) use4 hll hle (fun h1 h2 => ?_) (fun h1 h2 => ?_) (fun h1 h2 => ?_) (fun h1 h2 => ?_)
    · rw [if_pos (by simpa using h1), if_pos (lenPos.1 h2), List.append_assoc] at n0; exact n0
    · rw [if_neg (by simpa using h1), if_pos (lenPos.1 h2), List.append_assoc] at n0; exact n0
    · rw [if_pos (by simpa using h1), if_neg (by simpa using lenNo.1 h2)] at n0; exact n0
    · rw [if_neg (by simpa using h1), if_neg (by simpa using lenNo.1 h2)] at n0; exact n0
  by_cases e23 : op = 2 ∨ op = 3
  · rw [txt_li e23] at n0
    refine w2_cL hg hi hl (by omega) (useLi e23) hll (fun h1 => ?_) (fun h1 => ?_)
    · rw [if_pos (by simpa using h1)] at n0; exact n0
    · rw [if_neg (by simpa using h1)] at n0; exact n0
  by_cases e14 : op = 14
  · subst e14
    have hn := nameB_len 14
    rw [txt_14] at n0
    refine w2_cT hg hi hl (by omega) use14 (wt2_loop hi hl (by omega) (fun t m => inU32 (hT t m)) hA tg.length 0 _ (by omega) (by simp only [List.length_append]; omega) ?_)
    simpa only [List.drop_zero, List.append_assoc] using n0
  by_cases e65 : op = 65
  · subst e65
    rw [txt_65] at n0
    exact w2_cN hg hi hl (by omega) use65 hN n0
  have hli : isLi op = false := by simp only [isLi, decide_eq_false_iff_not]; omega
  cases hs : isSt op
  case true =>
    rw [txt_st hs] at n0
    exact w2_cB hg hi hl (by omega) (useSt hs) hA hB n0
  cases hh : isWh op
  case true =>
    rw [txt_wh hh] at n0
    exact w2_cA hg hi hl (by omega) (useWh hh) hA n0
  rw [txt_no hli hs hh e14 e65] at n0
  exact w2_c0 hg hi hl (by omega) (useNo hli hs hh e14 e65) n0

end Go.Proofs.YtjjloibfhgofcaaDoor.N
end

section
set_option linter.unusedVariables false
set_option linter.unusedSimpArgs false
namespace Go.Proofs.YtjjloibfhgofcaaDoor.N
open Go Go.Am

/- wrs: 17 steps -/
noncomputable def wrsOrc : Orc := orcL noCall noLed [(34, 0)] [] []
def wrsSc : Sc := .fin
noncomputable def wrsTree (_l : List Ins) (_X : List AV) : Tree :=
  (.at (bodyCfg Tryd.prog envP 34 0 [AV.mp 2 0, AV.fn (Fn.func 67) [] [AV.mp 2 0], AV.p (PV.ps _l.length 8 (encL _l)), AV.p (PV.sc (Value.int IntKind.i64 (↑_l.length : Int))), AV.p (PV.sc (Value.int IntKind.i64 0))] ([Blk.ob (ObK.gr 83 false) [AV.mp 0 0, AV.ms 1 0 _X.length 1 Option.none], Blk.ob (ObK.gr 5 true) (List.map keepP _X), Blk.ac [AV.mp 0 0]]) 2 95))
theorem wrs_tree (_l : List Ins) (_X : List AV) : growF Tryd.prog envP wrsOrc 1000000 34 ([AV.mp 0 0, aL _l]) ([Blk.ob (ObK.gr 83 false) [AV.mp 0 0, AV.ms 1 0 _X.length 1 Option.none], Blk.ob (ObK.gr 5 true) _X]) wrsSc = wrsTree _l _X := by kernel_rfl

/- wrz: 17 steps -/
noncomputable def wrzOrc : Orc := orcL noCall noLed [(34, 0)] [] []
def wrzSc : Sc := .fin
noncomputable def wrzTree (_l : List Ins) : Tree :=
  (.at (bodyCfg Tryd.prog envP 34 0 [AV.mp 1 0, AV.fn (Fn.func 67) [] [AV.mp 1 0], AV.p (PV.ps _l.length 8 (encL _l)), AV.p (PV.sc (Value.int IntKind.i64 (↑_l.length : Int))), AV.p (PV.sc (Value.int IntKind.i64 0))] ([Blk.ob (ObK.gr 83 false) [AV.p (PV.sc (Value.pointer Option.none)), AV.os Option.none 0 0 []], Blk.ac [AV.mp 0 0]]) 1 95))
theorem wrz_tree (_l : List Ins) : growF Tryd.prog envP wrzOrc 1000000 34 ([AV.mp 0 0, aL _l]) ([Blk.ob (ObK.gr 83 false) [AV.p (PV.sc (Value.pointer Option.none)), AV.os Option.none 0 0 []]]) wrzSc = wrzTree _l := by kernel_rfl


theorem wcMem (A : List AV) (m : Mem) (fix : Nat) : (bodyCfg Tryd.prog envP 34 0 A m fix 95).st.mem = m := by kernel_rfl
theorem wcCode (A : List AV) (m : Mem) (fix : Nat) : inCode (bodyCfg Tryd.prog envP 34 0 A m fix 95) = true := by kernel_rfl
theorem wcSet (A : List AV) (m m' : Mem) (fix : Nat) : ({ bodyCfg Tryd.prog envP 34 0 A m fix 95 with st := { (bodyCfg Tryd.prog envP 34 0 A m fix 95).st with mem := m' } } : Cfg) = bodyCfg Tryd.prog envP 34 0 A m' fix 95 := by kernel_rfl

theorem wfL_at {l : List Ins} {i : Nat} {x : Ins} (h : wfL l) (hg : l[i]? = some x) : wfI x := wfL_mem h (List.mem_of_getElem? hg)

theorem drop_at {α : Type} {l : List α} {i : Nat} {x : α} (hg : l[i]? = some x) : l.drop i = x :: l.drop (i + 1) := by
  obtain ⟨h, e⟩ := List.getElem?_eq_some_iff.1 hg
  rw [List.drop_eq_getElem_cons h, e]

theorem w2_loop {l : List Ins} (hq : ∀ x ∈ l, Writes x.l ∧ Writes x.e) (hw : wfL l) (hl : l.length ≤ maxT) : ∀ (k i : Nat) (tx : List UInt8), i + k = l.length → tx.length + 1000 * cntL (l.drop i) ≤ maxT →
    Am.Good Tryd.prog envP (bodyCfg Tryd.prog envP 34 0 (w2A l i) (w2M tx) 2 95) (.ret (.tup []) [bldB 0 2 (tx ++ txtL (l.drop i)), .dead, bufB (tx ++ txtL (l.drop i))]) := by
  intro k
  induction k with
  | zero =>
    intro i tx hi ht
    have hiI : ¬ (i : Int) < (l.length : Int) := by omega
    rw [show l.drop i = [] from List.drop_eq_nil_of_le (by omega)]
    refine good_of_tree names (wF2c0_tree l tx i 0 0 0 0 0 [] [] [] [] fmtB (ofCells [] txtL) btA) ?_
    simp only [wF2c0Tree, Tree.ok, btA_keep, txtL, List.append_nil]
    exact ⟨fun h => absurd (by simpa using h) hiI, fun _ => trivial⟩
  | succ k ih =>
    intro i tx hi ht
    obtain ⟨x, hg⟩ : ∃ x, l[i]? = some x := ⟨l[i]'(by omega), List.getElem?_eq_getElem (by omega)⟩
    have hm := List.mem_of_getElem? hg
    have hx := txtI_len x
    rw [drop_at hg] at ht ⊢
    simp only [cntL] at ht
    have nx := ih (i + 1) (tx ++ txtI x) (by omega) (by simp only [List.length_append]; omega)
    rw [List.append_assoc] at nx
    exact w2_step hg (wfL_at hw hg) (by omega) hl (by omega) (hq x hm).1 (hq x hm).2 nx

theorem writes : ∀ l : List Ins, wfL l → Writes l := by
  apply ins_rec
  intro l hq hw tx ht
  have hc := cntL_length l
  refine does_of_tree names (wrs_tree l (btA tx)) ?_
  simp only [wrsTree, Tree.ok, btA_keep]
  refine Good.moved (wcMem _ _ _) (wcCode _ _ _) ?_
  rw [wcSet]
  refine w2_loop (fun x hx => ?_) hw (by omega) l.length 0 tx (by omega) (by simpa using ht)
  have h := wfL_mem hw hx
  obtain ⟨op, r, a, b, nn, tg, ll, le⟩ := x
  obtain ⟨-, -, -, -, -, -, ⟨-, h1⟩, -, h2⟩ := h
  exact ⟨(hq _ hx).1 h1, (hq _ hx).2 h2⟩

end Go.Proofs.YtjjloibfhgofcaaDoor.N
end
