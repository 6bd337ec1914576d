/-
  How many instructions there are: what the laws' kit tells.
  module.Check of any module; gimletkit.LargeWasm.
  A module with fewer items: what may be, may be without them. (No program in sight.)
-/
import Derived.Test.YtdmmllcjgjmbbaaDoorMH
import Derived.Test.YtdmmllcjgjmbbaaDoorMK
import Derived.Test.YtdmmllcjgjmbbaaDoorMM

section
set_option linter.unusedSimpArgs false
set_option linter.unusedVariables false
namespace Go.Proofs.YtdmmllcjgjmbbaaDoor.N
open Go Go.Am
def insCall (_ : List Ins) (_ _ _ : Int) (R : List AV → Int) (f : FuncId) (args : List AV) (m : Mem) : Option (AV × Mem) := cond (Nat.beq f 13) (some (sI .i64 (R args), m)) none

noncomputable def icnOrc : Orc := orcL noCall noLed [(13, 0)] [] []
def icnSc : Sc := .fin
noncomputable def icnTree (l : List Ins) (most : Int) : Tree :=
  (.at (bodyCfg Tryd.prog env 13 0 [AV.p (PV.ps l.length 8 (encL l)), AV.p (PV.sc (Value.int IntKind.i64 most)), AV.p (PV.sc (Value.int IntKind.i64 0)), AV.p (PV.sc (Value.int IntKind.i64 0))] ([]) 0 58))
theorem icn_tree (l : List Ins) (most : Int) : growF Tryd.prog env icnOrc 1000000 13 ([aL l, sI IntKind.i64 most]) ([]) icnSc = icnTree l most := by kernel_rfl

noncomputable def icnlOrc (l : List Ins) (most : Int) (n : Int) (i : Int) (R : List AV → Int) : Orc := orcL (insCall l most n i R) noLed [(13, 0)] [(13, 4, 5), (13, 0, 1), (13, 0, 2), (13, 0, 3)] [(13, 6, 4), (13, 6, 6), (13, 8, 3), (13, 8, 5), (13, 10, 3), (13, 10, 5)]
def icnlSc : Sc := (.fork (.fork (.fork .fin (.no .fin)) .fin) (.lit .fin))
noncomputable def icnlTree (l : List Ins) (most : Int) (n : Int) (i : Int) (R : List AV → Int) : Tree :=
  (.test (decide (i < (↑l.length : Int)))
   (.test (decide (n ≤ most))
    (.must (inB i l.length && true && true)
     (.must (isPs ((encL l).getD (i.toNat * 8 + 5) PV.bad) && true)
      (.test (decide (IntKind.i64.wrap (IntKind.i64.wrap (n + 1) + bif true then Min.min (↑(psLen ((encL l).getD (i.toNat * 8 + 5) PV.bad)) : Int) most else Max.max (↑(psLen ((encL l).getD (i.toNat * 8 + 5) PV.bad)) : Int) most) ≤ most))
       (.must (inB i l.length && true && true)
        (.must (isPs ((encL l).getD (i.toNat * 8 + 6) PV.bad) && true)
         (.call ⟨13, [AV.p (PV.ps (psLen ((encL l).getD (i.toNat * 8 + 6) PV.bad)) (psSz ((encL l).getD (i.toNat * 8 + 6) PV.bad)) (psCells ((encL l).getD (i.toNat * 8 + 6) PV.bad))), AV.p (PV.sc (Value.int IntKind.i64 (IntKind.i64.wrap (most - IntKind.i64.wrap (IntKind.i64.wrap (n + 1) + bif true then Min.min (↑(psLen ((encL l).getD (i.toNat * 8 + 5) PV.bad)) : Int) most else Max.max (↑(psLen ((encL l).getD (i.toNat * 8 + 5) PV.bad)) : Int) most)))))], [], AV.p (PV.sc (Value.int IntKind.i64 (R [AV.p (PV.ps (psLen ((encL l).getD (i.toNat * 8 + 6) PV.bad)) (psSz ((encL l).getD (i.toNat * 8 + 6) PV.bad)) (psCells ((encL l).getD (i.toNat * 8 + 6) PV.bad))), AV.p (PV.sc (Value.int IntKind.i64 (IntKind.i64.wrap (most - IntKind.i64.wrap (IntKind.i64.wrap (n + 1) + bif true then Min.min (↑(psLen ((encL l).getD (i.toNat * 8 + 5) PV.bad)) : Int) most else Max.max (↑(psLen ((encL l).getD (i.toNat * 8 + 5) PV.bad)) : Int) most)))))]))), []⟩
          (.test (decide (IntKind.i64.wrap (IntKind.i64.wrap (IntKind.i64.wrap (n + 1) + bif true then Min.min (↑(psLen ((encL l).getD (i.toNat * 8 + 5) PV.bad)) : Int) most else Max.max (↑(psLen ((encL l).getD (i.toNat * 8 + 5) PV.bad)) : Int) most) + R [AV.p (PV.ps (psLen ((encL l).getD (i.toNat * 8 + 6) PV.bad)) (psSz ((encL l).getD (i.toNat * 8 + 6) PV.bad)) (psCells ((encL l).getD (i.toNat * 8 + 6) PV.bad))), AV.p (PV.sc (Value.int IntKind.i64 (IntKind.i64.wrap (most - IntKind.i64.wrap (IntKind.i64.wrap (n + 1) + bif true then Min.min (↑(psLen ((encL l).getD (i.toNat * 8 + 5) PV.bad)) : Int) most else Max.max (↑(psLen ((encL l).getD (i.toNat * 8 + 5) PV.bad)) : Int) most)))))]) ≤ most))
           (.must (inB i l.length && true && true)
            (.must (isPs ((encL l).getD (i.toNat * 8 + 7) PV.bad) && true)
             (.call ⟨13, [AV.p (PV.ps (psLen ((encL l).getD (i.toNat * 8 + 7) PV.bad)) (psSz ((encL l).getD (i.toNat * 8 + 7) PV.bad)) (psCells ((encL l).getD (i.toNat * 8 + 7) PV.bad))), AV.p (PV.sc (Value.int IntKind.i64 (IntKind.i64.wrap (most - IntKind.i64.wrap (IntKind.i64.wrap (IntKind.i64.wrap (n + 1) + bif true then Min.min (↑(psLen ((encL l).getD (i.toNat * 8 + 5) PV.bad)) : Int) most else Max.max (↑(psLen ((encL l).getD (i.toNat * 8 + 5) PV.bad)) : Int) most) + R [AV.p (PV.ps (psLen ((encL l).getD (i.toNat * 8 + 6) PV.bad)) (psSz ((encL l).getD (i.toNat * 8 + 6) PV.bad)) (psCells ((encL l).getD (i.toNat * 8 + 6) PV.bad))), AV.p (PV.sc (Value.int IntKind.i64 (IntKind.i64.wrap (most - IntKind.i64.wrap (IntKind.i64.wrap (n + 1) + bif true then Min.min (↑(psLen ((encL l).getD (i.toNat * 8 + 5) PV.bad)) : Int) most else Max.max (↑(psLen ((encL l).getD (i.toNat * 8 + 5) PV.bad)) : Int) most)))))])))))], [], AV.p (PV.sc (Value.int IntKind.i64 (R [AV.p (PV.ps (psLen ((encL l).getD (i.toNat * 8 + 7) PV.bad)) (psSz ((encL l).getD (i.toNat * 8 + 7) PV.bad)) (psCells ((encL l).getD (i.toNat * 8 + 7) PV.bad))), AV.p (PV.sc (Value.int IntKind.i64 (IntKind.i64.wrap (most - IntKind.i64.wrap (IntKind.i64.wrap (IntKind.i64.wrap (n + 1) + bif true then Min.min (↑(psLen ((encL l).getD (i.toNat * 8 + 5) PV.bad)) : Int) most else Max.max (↑(psLen ((encL l).getD (i.toNat * 8 + 5) PV.bad)) : Int) most) + R [AV.p (PV.ps (psLen ((encL l).getD (i.toNat * 8 + 6) PV.bad)) (psSz ((encL l).getD (i.toNat * 8 + 6) PV.bad)) (psCells ((encL l).getD (i.toNat * 8 + 6) PV.bad))), AV.p (PV.sc (Value.int IntKind.i64 (IntKind.i64.wrap (most - IntKind.i64.wrap (IntKind.i64.wrap (n + 1) + bif true then Min.min (↑(psLen ((encL l).getD (i.toNat * 8 + 5) PV.bad)) : Int) most else Max.max (↑(psLen ((encL l).getD (i.toNat * 8 + 5) PV.bad)) : Int) most)))))])))))]))), []⟩
              (.at (bodyCfg Tryd.prog env 13 0 [AV.p (PV.ps l.length 8 (encL l)), AV.p (PV.sc (Value.int IntKind.i64 most)), AV.p (PV.sc (Value.int IntKind.i64 (IntKind.i64.wrap (IntKind.i64.wrap (IntKind.i64.wrap (IntKind.i64.wrap (n + 1) + bif true then Min.min (↑(psLen ((encL l).getD (i.toNat * 8 + 5) PV.bad)) : Int) most else Max.max (↑(psLen ((encL l).getD (i.toNat * 8 + 5) PV.bad)) : Int) most) + R [AV.p (PV.ps (psLen ((encL l).getD (i.toNat * 8 + 6) PV.bad)) (psSz ((encL l).getD (i.toNat * 8 + 6) PV.bad)) (psCells ((encL l).getD (i.toNat * 8 + 6) PV.bad))), AV.p (PV.sc (Value.int IntKind.i64 (IntKind.i64.wrap (most - IntKind.i64.wrap (IntKind.i64.wrap (n + 1) + bif true then Min.min (↑(psLen ((encL l).getD (i.toNat * 8 + 5) PV.bad)) : Int) most else Max.max (↑(psLen ((encL l).getD (i.toNat * 8 + 5) PV.bad)) : Int) most)))))]) + R [AV.p (PV.ps (psLen ((encL l).getD (i.toNat * 8 + 7) PV.bad)) (psSz ((encL l).getD (i.toNat * 8 + 7) PV.bad)) (psCells ((encL l).getD (i.toNat * 8 + 7) PV.bad))), AV.p (PV.sc (Value.int IntKind.i64 (IntKind.i64.wrap (most - IntKind.i64.wrap (IntKind.i64.wrap (IntKind.i64.wrap (n + 1) + bif true then Min.min (↑(psLen ((encL l).getD (i.toNat * 8 + 5) PV.bad)) : Int) most else Max.max (↑(psLen ((encL l).getD (i.toNat * 8 + 5) PV.bad)) : Int) most) + R [AV.p (PV.ps (psLen ((encL l).getD (i.toNat * 8 + 6) PV.bad)) (psSz ((encL l).getD (i.toNat * 8 + 6) PV.bad)) (psCells ((encL l).getD (i.toNat * 8 + 6) PV.bad))), AV.p (PV.sc (Value.int IntKind.i64 (IntKind.i64.wrap (most - IntKind.i64.wrap (IntKind.i64.wrap (n + 1) + bif true then Min.min (↑(psLen ((encL l).getD (i.toNat * 8 + 5) PV.bad)) : Int) most else Max.max (↑(psLen ((encL l).getD (i.toNat * 8 + 5) PV.bad)) : Int) most)))))])))))])))), AV.p (PV.sc (Value.int IntKind.i64 (IntKind.i64.wrap (i + 1))))] ([]) 0 58)))))
           (.at (bodyCfg Tryd.prog env 13 0 [AV.p (PV.ps l.length 8 (encL l)), AV.p (PV.sc (Value.int IntKind.i64 most)), AV.p (PV.sc (Value.int IntKind.i64 (IntKind.i64.wrap (IntKind.i64.wrap (IntKind.i64.wrap (n + 1) + bif true then Min.min (↑(psLen ((encL l).getD (i.toNat * 8 + 5) PV.bad)) : Int) most else Max.max (↑(psLen ((encL l).getD (i.toNat * 8 + 5) PV.bad)) : Int) most) + R [AV.p (PV.ps (psLen ((encL l).getD (i.toNat * 8 + 6) PV.bad)) (psSz ((encL l).getD (i.toNat * 8 + 6) PV.bad)) (psCells ((encL l).getD (i.toNat * 8 + 6) PV.bad))), AV.p (PV.sc (Value.int IntKind.i64 (IntKind.i64.wrap (most - IntKind.i64.wrap (IntKind.i64.wrap (n + 1) + bif true then Min.min (↑(psLen ((encL l).getD (i.toNat * 8 + 5) PV.bad)) : Int) most else Max.max (↑(psLen ((encL l).getD (i.toNat * 8 + 5) PV.bad)) : Int) most)))))])))), AV.p (PV.sc (Value.int IntKind.i64 (IntKind.i64.wrap (i + 1))))] ([]) 0 58))))))
       (.must (!(decide (IntKind.i64.wrap (IntKind.i64.wrap (n + 1) + bif true then Min.min (↑(psLen ((encL l).getD (i.toNat * 8 + 5) PV.bad)) : Int) most else Max.max (↑(psLen ((encL l).getD (i.toNat * 8 + 5) PV.bad)) : Int) most) ≤ most)))
        (.at (bodyCfg Tryd.prog env 13 0 [AV.p (PV.ps l.length 8 (encL l)), AV.p (PV.sc (Value.int IntKind.i64 most)), AV.p (PV.sc (Value.int IntKind.i64 (IntKind.i64.wrap (IntKind.i64.wrap (n + 1) + bif true then Min.min (↑(psLen ((encL l).getD (i.toNat * 8 + 5) PV.bad)) : Int) most else Max.max (↑(psLen ((encL l).getD (i.toNat * 8 + 5) PV.bad)) : Int) most)))), AV.p (PV.sc (Value.int IntKind.i64 (IntKind.i64.wrap (i + 1))))] ([]) 0 58))))))
    (.out (Out.ret (AV.p (PV.sc (Value.int IntKind.i64 n))) [])))
   (.out (Out.ret (AV.p (PV.sc (Value.int IntKind.i64 n))) [])))
theorem icnl_tree (l : List Ins) (most : Int) (n : Int) (i : Int) (R : List AV → Int) : grow Tryd.prog env (icnlOrc l most n i R) 1000000 true (bodyCfg Tryd.prog env 13 0 ([aL l, sI IntKind.i64 most, sI IntKind.i64 n, sI IntKind.i64 i]) ([]) 0 58) icnlSc atEnd = icnlTree l most n i R := by kernel_rfl

theorem instrs_loop (R : List AV → Int) (hR : ∀ l most, R [aL l, sI .i64 most] = insF l most 0) (l : List Ins) (most : Int) (h0 : 0 ≤ most) (hm : most ≤ 1000000000000) (hl : l.length ≤ maxLen)
    (IH : ∀ x ∈ l, ∀ m' : Int, 0 ≤ m' → m' ≤ most → Does Tryd.prog env 13 [aL x.l, sI .i64 m'] [] (sI .i64 (insF x.l m' 0)) [] ∧ Does Tryd.prog env 13 [aL x.e, sI .i64 m'] [] (sI .i64 (insF x.e m' 0)) []) :
    ∀ (r k : Nat) (n : Int), k + r = l.length → 0 ≤ n → n ≤ 2 * most + 1 → Am.Good Tryd.prog env (bodyCfg Tryd.prog env 13 0 [aL l, sI .i64 most, sI .i64 n, sI .i64 k] [] 0 58) (.ret (sI .i64 (insF (l.drop k) most n)) []) := by
  intro r
  induction r with
  | zero =>
    intro k n hk hn0 hn
    refine good_of_tree names (icnl_tree l most n k R) ?_
    have h1 : l.drop k = [] := List.drop_eq_nil_of_le (by omega)
    have h2 : ¬ ((k : Int) < l.length) := by omega
    simp [icnlTree, Tree.ok, h1, h2, insF]
  | succ r ih =>
    intro k n hk hn0 hn
    refine good_of_tree names (icnl_tree l most n k R) ?_
    have hkl : k < l.length := by omega
    have hgx : l[k]? = some l[k] := List.getElem?_eq_getElem hkl
    have hmem : l[k] ∈ l := List.getElem_mem hkl
    have hd : l.drop k = l[k] :: l.drop (k + 1) := List.drop_eq_getElem_cons hkl
    rw [hd]
    generalize l[k] = x at *
    obtain ⟨op, rs, a, b, nn, tags, ll, le⟩ := x
    have hc := encL_getD hgx
    have c5 : (encL l).getD (k * 8 + 5) .bad = .ps tags.length 1 (encT .u32 tags) := hc 5 (by omega)
    have c6 : (encL l).getD (k * 8 + 6) .bad = .ps ll.length 8 (encL ll) := hc 6 (by omega)
    have c7 : (encL l).getD (k * 8 + 7) .bad = .ps le.length 8 (encL le) := hc 7 (by omega)
    have hML : maxLen = 9223372036854775807 := rfl
    have hw : IntKind.i64.wrap ((k : Int) + 1) = ((k + 1 : Nat) : Int) := by rw [i64In (by omega) (by omega)]; rfl
    have hw1 : IntKind.i64.wrap (n + 1) = n + 1 := i64In (by omega) (by omega)
    have hkI : (k : Int) < (l.length : Int) := by omega
    simp only [icnlTree, Tree.ok, c5, c6, c7, psLen, psSz, psCells, isPs, Int.toNat_natCast, inB, cond_true, hw, hw1]
    refine ⟨fun _ => ⟨fun hnm => ⟨by simp [hkI], rfl, ?_⟩, fun hnm => ?_⟩, fun h => absurd hkI (by simpa using h)⟩
    · have hnm : n ≤ most := by simpa using hnm
      have hIH := IH _ hmem
      simp only [insF, if_pos hnm, insX, Ins.l, Ins.e] at hIH ⊢
      generalize hn1 : n + 1 + min (tags.length : Int) most = n1
      have hr1 : 0 ≤ n1 ∧ n1 ≤ 2 * most + 1 := by omega
      have hw2 : IntKind.i64.wrap n1 = n1 := i64In (by omega) (by omega)
      simp only [hw2]
      have hw3 : IntKind.i64.wrap (most - n1) = most - n1 := i64In (by omega) (by omega)
      simp only [hw3, hR]
      refine ⟨fun h1 => ?_, fun h1 => ?_⟩
      · have h1 : n1 ≤ most := by simpa using h1
        rw [if_pos h1]
        have hb := insF_range ll (most - n1) 0 (by omega) (by omega) (by omega)
        have hw4 : IntKind.i64.wrap (n1 + insF ll (most - n1) 0) = n1 + insF ll (most - n1) 0 := i64In (by omega) (by omega)
        refine ⟨by simp [hkI], rfl, (hIH (most - n1) (by omega) (by omega)).1, ?_⟩
        simp only [hw4]
        generalize hn2 : n1 + insF ll (most - n1) 0 = n2
        have hr2 : 0 ≤ n2 ∧ n2 ≤ 2 * most + 1 := by omega
        have hw5 : IntKind.i64.wrap (most - n2) = most - n2 := i64In (by omega) (by omega)
        simp only [hw5]
        refine ⟨fun h2 => ?_, fun h2 => ?_⟩
        · have h2 : n2 ≤ most := by simpa using h2
          rw [if_pos h2]
          have hb2 := insF_range le (most - n2) 0 (by omega) (by omega) (by omega)
          have hw6 : IntKind.i64.wrap (n2 + insF le (most - n2) 0) = n2 + insF le (most - n2) 0 := i64In (by omega) (by omega)
          refine ⟨by simp [hkI], rfl, (hIH (most - n2) (by omega) (by omega)).2, ?_⟩
          simp only [hw6]
          exact ih (k + 1) _ (by omega) (by omega) (by omega)
        · have h2 : ¬ n2 ≤ most := by simpa using h2
          rw [if_neg h2]
          exact ih (k + 1) n2 (by omega) (by omega) (by omega)
      · have h1 : ¬ n1 ≤ most := by simpa using h1
        rw [if_neg h1, if_neg h1]
        refine ⟨by simpa using h1, ?_⟩
        exact ih (k + 1) n1 (by omega) (by omega) (by omega)
    · have hnm : ¬ n ≤ most := by simpa using hnm
      simp only [insF, if_neg hnm]

theorem aL_inj {l m : List Ins} (h : aL l = aL m) : l = m := by
  simp only [AV.p.injEq, PV.ps.injEq] at h
  exact encL_inj h.2.2

open Classical in
noncomputable def insR (args : List AV) : Int := if h : ∃ l most, args = [aL l, sI .i64 most] then insF h.choose h.choose_spec.choose 0 else 0

theorem insR_eq (l : List Ins) (most : Int) : insR [aL l, sI .i64 most] = insF l most 0 := by
  have h : ∃ l' most', [aL l, sI .i64 most] = [aL l', sI .i64 most'] := ⟨l, most, rfl⟩
  have e := h.choose_spec.choose_spec
  unfold insR
  rw [dif_pos h]
  have e1 := aL_inj (List.cons.inj e).1
  have e2 : most = h.choose_spec.choose := by
    have := (List.cons.inj (List.cons.inj e).2).1
    simpa only [AV.p.injEq, PV.sc.injEq, Value.int.injEq, true_and] using this
  have e : (h.choose, h.choose_spec.choose) = (l, most) := by rw [Prod.mk.injEq]; exact ⟨e1.symm, e2.symm⟩
  exact congrArg (fun q : List Ins × Int => insF q.1 q.2 0) e

theorem instrs_does : ∀ (N : Nat) (l : List Ins) (most : Int), cntL l ≤ N → l.length ≤ maxLen → wfL l → 0 ≤ most → most ≤ 1000000000000 → Does Tryd.prog env 13 [aL l, sI .i64 most] [] (sI .i64 (insF l most 0)) []
  | N, l, most, hN, hl, hw, h0, hm => by
    have IH : ∀ x ∈ l, ∀ m' : Int, 0 ≤ m' → m' ≤ most → Does Tryd.prog env 13 [aL x.l, sI .i64 m'] [] (sI .i64 (insF x.l m' 0)) [] ∧ Does Tryd.prog env 13 [aL x.e, sI .i64 m'] [] (sI .i64 (insF x.e m' 0)) [] := by
      intro x hx m' h0' hm'
      have hc := cntL_mem hx
      have hwx := Go.Am.wfL_mem hw hx
      obtain ⟨op, rs, a, b, nn, tags, ll, le⟩ := x
      simp only [cntI] at hc
      simp only [wfI] at hwx
      match N, hN with
      | 0, hN => omega
      | N + 1, hN => exact ⟨instrs_does N ll m' (by omega) hwx.2.2.2.2.2.2.1.1 hwx.2.2.2.2.2.2.1.2 h0' (by omega), instrs_does N le m' (by omega) hwx.2.2.2.2.2.2.2.1 hwx.2.2.2.2.2.2.2.2 h0' (by omega)⟩
    refine does_of_tree names (icn_tree l most) ?_
    have h := instrs_loop insR insR_eq l most h0 hm hl IH l.length 0 0 (by omega) (by omega) (by omega)
    rw [List.drop_zero] at h
    exact h

end Go.Proofs.YtdmmllcjgjmbbaaDoor.N
end

section
set_option linter.unusedSimpArgs false
set_option linter.unusedVariables false
namespace Go.Proofs.YtdmmllcjgjmbbaaDoor.N
open Go Go.Am

def lrC (M : Mo) (most n : Int) (i : Nat) (r : Int) (_ : Nat) (f : FuncId) (_ : List AV) (m : Mem) : Option (AV × Mem) := cond (Nat.beq f 13) (some (sI .i64 r, m)) none
noncomputable def lrgOrc : Orc := orcL noCall noLed [(5, 1)] [(5, 0, 0)] []
def lrgSc : Sc := .fin
noncomputable def lrgTree (M : Mo) (most : Int) : Tree :=
 (.test (decide (IntKind.i64.wrap (IntKind.i64.wrap (IntKind.i64.wrap (IntKind.i64.wrap (IntKind.i64.wrap (IntKind.i64.wrap (IntKind.i64.wrap (IntKind.i64.wrap ((↑M.tys.length : Int) + (↑M.ims.length : Int)) + (↑M.fns.length : Int)) + (↑M.tas.length : Int)) + (↑M.mes.length : Int)) + (↑M.gls.length : Int)) + (↑M.exs.length : Int)) + (↑M.els.length : Int)) + (↑M.das.length : Int)) > most))
 (.out (.ret (sB true) []))
 (.at (bodyCfg Tryd.prog env 5 1 [sI .i64 most, .mp 0 0, sI .i64 (IntKind.i64.wrap (IntKind.i64.wrap (IntKind.i64.wrap (IntKind.i64.wrap (IntKind.i64.wrap (IntKind.i64.wrap (IntKind.i64.wrap (IntKind.i64.wrap ((↑M.tys.length : Int) + (↑M.ims.length : Int)) + (↑M.fns.length : Int)) + (↑M.tas.length : Int)) + (↑M.mes.length : Int)) + (↑M.gls.length : Int)) + (↑M.exs.length : Int)) + (↑M.els.length : Int)) + (↑M.das.length : Int))), sI .i64 0] ([.pc M.pvs]) 0 188)))
theorem lrg_tree (M : Mo) (most : Int) : growF Tryd.prog env lrgOrc 1000000 5 ([AV.agg (List.map AV.p M.pvs), sI IntKind.i64 most]) ([]) lrgSc = lrgTree M most := by kernel_rfl

noncomputable def lrgAOrc : Orc := orcL noCall noLed [(5, 1), (5, 3)] [(5, 0, 2)] [(5, 8, 4), (5, 8, 7)]
noncomputable def lrgASc (M : Mo) (most n : Int) (i : Nat) (r : Int) : Sc := (.fork (.ans 13 (sI .i64 r) ([]) .fin) .fin)
noncomputable def lrgATree (M : Mo) (most n : Int) (i : Nat) (r : Int) : Tree :=
 (.test (decide ((↑i : Int) < (↑M.fns.length : Int)))
 (.must (inB (↑i : Int) M.fns.length && true && true)
 (.must (isPs ((List.flatMap encFu M.fns).getD ((↑i : Int).toNat * 3 + 1 + 1) PV.bad) && true)
 (.call ⟨13, [.p (.ps (psLen ((List.flatMap encFu M.fns).getD ((↑i : Int).toNat * 3 + 1 + 1) PV.bad)) (psSz ((List.flatMap encFu M.fns).getD ((↑i : Int).toNat * 3 + 1 + 1) PV.bad)) (psCells ((List.flatMap encFu M.fns).getD ((↑i : Int).toNat * 3 + 1 + 1) PV.bad))), sI .i64 most], [], sI .i64 r, []⟩
 (.at (bodyCfg Tryd.prog env 5 1 [sI .i64 most, .mp 0 0, sI .i64 (IntKind.i64.wrap (n + r)), sI .i64 (IntKind.i64.wrap ((↑i : Int) + 1))] ([.pc M.pvs]) 0 188)))))
 (.at (bodyCfg Tryd.prog env 5 3 [sI .i64 most, .mp 0 0, sI .i64 n, sI .i64 0] ([.pc M.pvs]) 0 188)))
theorem lrgA_tree (M : Mo) (most n : Int) (i : Nat) (r : Int) : grow Tryd.prog env lrgAOrc 1000000 true (bodyCfg Tryd.prog env 5 1 ([sI IntKind.i64 most, AV.mp 0 0, sI IntKind.i64 n, sI IntKind.i64 (↑i : Int)]) ([Blk.pc M.pvs]) 0 188) (lrgASc M most n i r) atEnd = lrgATree M most n i r := by kernel_rfl

noncomputable def lrgBOrc : Orc := orcL noCall noLed [(5, 3), (5, 5)] [(5, 0, 4)] [(5, 12, 4), (5, 12, 6)]
noncomputable def lrgBSc (M : Mo) (most n : Int) (i : Nat) (r : Int) : Sc := (.fork (.ans 13 (sI .i64 r) ([]) .fin) .fin)
noncomputable def lrgBTree (M : Mo) (most n : Int) (i : Nat) (r : Int) : Tree :=
 (.test (decide ((↑i : Int) < (↑M.gls.length : Int)))
 (.must (inB (↑i : Int) M.gls.length && true && true)
 (.must (isPs ((List.flatMap encGl M.gls).getD ((↑i : Int).toNat * 2 + 1) PV.bad) && true)
 (.call ⟨13, [.p (.ps (psLen ((List.flatMap encGl M.gls).getD ((↑i : Int).toNat * 2 + 1) PV.bad)) (psSz ((List.flatMap encGl M.gls).getD ((↑i : Int).toNat * 2 + 1) PV.bad)) (psCells ((List.flatMap encGl M.gls).getD ((↑i : Int).toNat * 2 + 1) PV.bad))), sI .i64 most], [], sI .i64 r, []⟩
 (.at (bodyCfg Tryd.prog env 5 3 [sI .i64 most, .mp 0 0, sI .i64 (IntKind.i64.wrap (n + r)), sI .i64 (IntKind.i64.wrap ((↑i : Int) + 1))] ([.pc M.pvs]) 0 188)))))
 (.at (bodyCfg Tryd.prog env 5 5 [sI .i64 most, .mp 0 0, sI .i64 n, sI .i64 0] ([.pc M.pvs]) 0 188)))
theorem lrgB_tree (M : Mo) (most n : Int) (i : Nat) (r : Int) : grow Tryd.prog env lrgBOrc 1000000 true (bodyCfg Tryd.prog env 5 3 ([sI IntKind.i64 most, AV.mp 0 0, sI IntKind.i64 n, sI IntKind.i64 (↑i : Int)]) ([Blk.pc M.pvs]) 0 188) (lrgBSc M most n i r) atEnd = lrgBTree M most n i r := by kernel_rfl

noncomputable def lrgCOrc : Orc := orcL noCall noLed [(5, 5), (5, 7)] [(5, 0, 6)] [(5, 0, 7)]
noncomputable def lrgCSc (M : Mo) (most n : Int) (i : Nat) (r : Int) : Sc := (.fork (.led 5 15 (lrC M most n i r 0) .fin) .fin)
noncomputable def lrgCTree (M : Mo) (most n : Int) (i : Nat) (r : Int) : Tree :=
 (.test (decide ((↑i : Int) < (↑M.els.length : Int)))
 (.call ⟨13, [.p (.ps (psLen ((List.flatMap encEl M.els).getD ((↑i : Int).toNat * 2 + 0) PV.bad)) (psSz ((List.flatMap encEl M.els).getD ((↑i : Int).toNat * 2 + 0) PV.bad)) (psCells ((List.flatMap encEl M.els).getD ((↑i : Int).toNat * 2 + 0) PV.bad))), sI .i64 most], [], sI .i64 r, []⟩
 (.must (inB (↑i : Int) M.els.length && true && true && (isPs ((List.flatMap encEl M.els).getD ((↑i : Int).toNat * 2 + 0) PV.bad) && true && (inB (↑i : Int) M.els.length && true && true && (isPs ((List.flatMap encEl M.els).getD ((↑i : Int).toNat * 2 + 1) PV.bad) && true && true))) && true)
 (.at (bodyCfg Tryd.prog env 5 5 [sI .i64 most, .mp 0 0, sI .i64 (IntKind.i64.wrap (IntKind.i64.wrap (n + r) + bif true then Min.min (↑(psLen ((List.flatMap encEl M.els).getD ((↑i : Int).toNat * 2 + 1) PV.bad)) : Int) most else Max.max (↑(psLen ((List.flatMap encEl M.els).getD ((↑i : Int).toNat * 2 + 1) PV.bad)) : Int) most)), sI .i64 (IntKind.i64.wrap ((↑i : Int) + 1))] ([.pc M.pvs]) 0 188))))
 (.at (bodyCfg Tryd.prog env 5 7 [sI .i64 most, .mp 0 0, sI .i64 n, sI .i64 0] ([.pc M.pvs]) 0 188)))
theorem lrgC_tree (M : Mo) (most n : Int) (i : Nat) (r : Int) : grow Tryd.prog env lrgCOrc 1000000 true (bodyCfg Tryd.prog env 5 5 ([sI IntKind.i64 most, AV.mp 0 0, sI IntKind.i64 n, sI IntKind.i64 (↑i : Int)]) ([Blk.pc M.pvs]) 0 188) (lrgCSc M most n i r) atEnd = lrgCTree M most n i r := by kernel_rfl

noncomputable def lrgDOrc : Orc := orcL noCall noLed [(5, 7), (5, 9)] [(5, 0, 8)] [(5, 0, 9)]
noncomputable def lrgDSc (M : Mo) (most n : Int) (i : Nat) (r : Int) : Sc := (.fork (.led 5 19 (lrC M most n i r 0) .fin) .fin)
noncomputable def lrgDTree (M : Mo) (most n : Int) (i : Nat) (r : Int) : Tree :=
 (.test (decide ((↑i : Int) < (↑M.das.length : Int)))
 (.call ⟨13, [.p (.ps (psLen ((List.flatMap encDa M.das).getD ((↑i : Int).toNat * 2 + 0) PV.bad)) (psSz ((List.flatMap encDa M.das).getD ((↑i : Int).toNat * 2 + 0) PV.bad)) (psCells ((List.flatMap encDa M.das).getD ((↑i : Int).toNat * 2 + 0) PV.bad))), sI .i64 most], [], sI .i64 r, []⟩
 (.must (inB (↑i : Int) M.das.length && true && true && (isPs ((List.flatMap encDa M.das).getD ((↑i : Int).toNat * 2 + 0) PV.bad) && true && (inB (↑i : Int) M.das.length && true && true && (isPs ((List.flatMap encDa M.das).getD ((↑i : Int).toNat * 2 + 1) PV.bad) && true && true))) && true)
 (.at (bodyCfg Tryd.prog env 5 7 [sI .i64 most, .mp 0 0, sI .i64 (IntKind.i64.wrap (IntKind.i64.wrap (n + r) + bif true then Min.min (↑(psLen ((List.flatMap encDa M.das).getD ((↑i : Int).toNat * 2 + 1) PV.bad)) : Int) most else Max.max (↑(psLen ((List.flatMap encDa M.das).getD ((↑i : Int).toNat * 2 + 1) PV.bad)) : Int) most)), sI .i64 (IntKind.i64.wrap ((↑i : Int) + 1))] ([.pc M.pvs]) 0 188))))
 (.at (bodyCfg Tryd.prog env 5 9 [sI .i64 most, .mp 0 0, sI .i64 n, sI .i64 0] ([.pc M.pvs]) 0 188)))
theorem lrgD_tree (M : Mo) (most n : Int) (i : Nat) (r : Int) : grow Tryd.prog env lrgDOrc 1000000 true (bodyCfg Tryd.prog env 5 7 ([sI IntKind.i64 most, AV.mp 0 0, sI IntKind.i64 n, sI IntKind.i64 (↑i : Int)]) ([Blk.pc M.pvs]) 0 188) (lrgDSc M most n i r) atEnd = lrgDTree M most n i r := by kernel_rfl

noncomputable def lrgEOrc : Orc := orcL noCall noLed [(5, 9), (5, 11)] [(5, 0, 10)] [(5, 0, 11)]
noncomputable def lrgESc (M : Mo) (most n : Int) (i : Nat) (r : Int) : Sc := .fin
noncomputable def lrgETree (M : Mo) (most n : Int) (i : Nat) (r : Int) : Tree :=
 (.test (decide ((↑i : Int) < (↑M.ims.length : Int)))
 (.must (inB (↑i : Int) M.ims.length && true && (isStr ((List.flatMap encIm M.ims).getD ((↑i : Int).toNat * 3 + 0) PV.bad) && (inB (↑i : Int) M.ims.length && true && (isStr ((List.flatMap encIm M.ims).getD ((↑i : Int).toNat * 3 + 1) PV.bad) && true))) && true)
 (.at (bodyCfg Tryd.prog env 5 9 [sI .i64 most, .mp 0 0, sI .i64 (IntKind.i64.wrap (IntKind.i64.wrap (n + bif true then Min.min (↑(pvStr ((List.flatMap encIm M.ims).getD ((↑i : Int).toNat * 3 + 0) PV.bad)).data.toList.length : Int) most else Max.max (↑(pvStr ((List.flatMap encIm M.ims).getD ((↑i : Int).toNat * 3 + 0) PV.bad)).data.toList.length : Int) most) + bif true then Min.min (↑(pvStr ((List.flatMap encIm M.ims).getD ((↑i : Int).toNat * 3 + 1) PV.bad)).data.toList.length : Int) most else Max.max (↑(pvStr ((List.flatMap encIm M.ims).getD ((↑i : Int).toNat * 3 + 1) PV.bad)).data.toList.length : Int) most)), sI .i64 (IntKind.i64.wrap ((↑i : Int) + 1))] ([.pc M.pvs]) 0 188)))
 (.at (bodyCfg Tryd.prog env 5 11 [sI .i64 most, .mp 0 0, sI .i64 n, sI .i64 0] ([.pc M.pvs]) 0 188)))
theorem lrgE_tree (M : Mo) (most n : Int) (i : Nat) (r : Int) : grow Tryd.prog env lrgEOrc 1000000 true (bodyCfg Tryd.prog env 5 9 ([sI IntKind.i64 most, AV.mp 0 0, sI IntKind.i64 n, sI IntKind.i64 (↑i : Int)]) ([Blk.pc M.pvs]) 0 188) (lrgESc M most n i r) atEnd = lrgETree M most n i r := by kernel_rfl

noncomputable def lrgFOrc : Orc := orcL noCall noLed [(5, 11)] [(5, 0, 12)] [(5, 28, 4), (5, 28, 6)]
noncomputable def lrgFSc (M : Mo) (most n : Int) (i : Nat) (r : Int) : Sc := .fin
noncomputable def lrgFTree (M : Mo) (most n : Int) (i : Nat) (r : Int) : Tree :=
 (.test (decide ((↑i : Int) < (↑M.exs.length : Int)))
 (.must (inB (↑i : Int) M.exs.length && true && true)
 (.must (isStr ((List.flatMap encEx M.exs).getD ((↑i : Int).toNat * 3 + 0) PV.bad) && true)
 (.at (bodyCfg Tryd.prog env 5 11 [sI .i64 most, .mp 0 0, sI .i64 (IntKind.i64.wrap (n + bif true then Min.min (↑(pvStr ((List.flatMap encEx M.exs).getD ((↑i : Int).toNat * 3 + 0) PV.bad)).data.toList.length : Int) most else Max.max (↑(pvStr ((List.flatMap encEx M.exs).getD ((↑i : Int).toNat * 3 + 0) PV.bad)).data.toList.length : Int) most)), sI .i64 (IntKind.i64.wrap ((↑i : Int) + 1))] ([.pc M.pvs]) 0 188))))
 (.out (.ret (.p (.sc (.bool (decide (n > most))))) [])))
theorem lrgF_tree (M : Mo) (most n : Int) (i : Nat) (r : Int) : grow Tryd.prog env lrgFOrc 1000000 true (bodyCfg Tryd.prog env 5 11 ([sI IntKind.i64 most, AV.mp 0 0, sI IntKind.i64 n, sI IntKind.i64 (↑i : Int)]) ([Blk.pc M.pvs]) 0 188) (lrgFSc M most n i r) atEnd = lrgFTree M most n i r := by kernel_rfl

theorem clN_does (s : ByteArray) (hs : s.size ≤ maxLen) : Does Tryd.prog env 36 [.p (.sc (.string s))] [] (sB (decide (badF s ≥ 0))) [] :=
  does_of_tree names (clN_tree s (badF s)) ⟨Does.lent (m := [.tok]) (args := [.os (some 0) s.data.toList.length 1 (s.data.toList.map ofByte)]) (nbad_does s hs) ⟨Ale.os (.refl _), trivial⟩, rfl⟩

def badS (s : ByteArray) : Bool := decide (badF s ≥ 0)
def restB (M : Mo) : Bool := M.tys.any badT || M.ims.any badI || M.fns.any badU || (nms M).any badS || M.tas.any (badL 1048576) || M.mes.any (badL 65536) || M.exs.any badX || (!M.st && M.sn != 0)
def restF (M : Mo) : Int := if restB M = true then 2 else if hasE M 2 = true then 2 else 0

theorem nms_wf {M : Mo} (hM : M.wf) : ∀ s ∈ nms M, s.size ≤ maxLen := by
  intro s hs
  rcases List.mem_append.1 hs with h | h
  · obtain ⟨x, hx, h⟩ := List.mem_flatMap.1 h
    have q := hM.ims.2 x hx
    simp only [List.mem_cons, List.not_mem_nil, or_false] at h
    rcases h with rfl | rfl
    · exact q.1
    · exact q.2.1
  · obtain ⟨x, hx, rfl⟩ := List.mem_map.1 h
    exact (hM.exs.2 x hx).1

theorem rest_does (M : Mo) (hM : M.fit) (hw : M.wf) (hs : M.slim) : Does Tryd.prog env 16 [.agg (M.pvs.map .p)] [] (sI .i64 (restF M)) [] := by
  have f1 := cfT_does M.tys (by have := hM.tys; omega) badT (fun x _ => clT_does x)
  have f2 := cfI_does M.ims (by have := hM.ims; omega) badI (fun x _ => clI_does x)
  have f3 := cfF_does M.fns (by have := hM.fns; omega) badU (fun x _ => clF_does x)
  have f4 := cfN_does (nms M) (nms_le hM) badS (fun x hx => clN_does x (nms_wf hw x hx))
  have f5 := cfA_does M.tas (by have := hM.tas; omega) (badL 1048576) (fun x _ => clA_does x)
  have f6 := cfB_does M.mes (by have := hM.mes; omega) (badL 65536) (fun x _ => clB_does x)
  have f7 := cfX_does M.exs (by have := hM.exs; omega) badX (fun x _ => clX_does x)
  have f8 := mlists_does M hM hs 2
  have nd := namesD M hM
  have hF : restF M = if restB M = true then 2 else if hasE M 2 = true then 2 else 0 := rfl
  have hB : restB M = (M.tys.any badT || M.ims.any badI || M.fns.any badU || (nms M).any badS || M.tas.any (badL 1048576) || M.mes.any (badL 65536) || M.exs.any badX || (!M.st && M.sn != 0)) := rfl
  refine does_of_tree names (rst_tree M (M.tys.any badT) (M.ims.any badI) (M.fns.any badU) ((nms M).any badS) (M.tas.any (badL 1048576)) (M.mes.any (badL 65536)) (M.exs.any badX) (nms M).length ((nms M).flatMap encS) (if hasE M 2 = true then 2 else 0)) ?_
  generalize (if hasE M 2 = true then (2 : Int) else 0) = v at f8 hF ⊢
  rw [hF, hB]
  generalize M.tys.any badT = b1 at *
  generalize M.ims.any badI = b2 at *
  generalize M.fns.any badU = b3 at *
  generalize (nms M).any badS = b4 at *
  generalize M.tas.any (badL 1048576) = b5 at *
  generalize M.mes.any (badL 65536) = b6 at *
  generalize M.exs.any badX = b7 at *
  simp only [rstTree, Tree.ok]
  refine ⟨f1, fun q1 => ?_, fun q1 => ⟨f2, fun q2 => ?_, fun q2 => ⟨f3, fun q3 => ?_, fun q3 => ⟨nd, f4, fun q4 => ?_, fun q4 => ⟨f5, fun q5 => ?_, fun q5 => ⟨f6, fun q6 => ?_, fun q6 => ⟨f7, fun q7 => ?_, fun q7 => ⟨fun q9 => ⟨fun q8 => ?_, fun q8 => ⟨f8, ?_⟩⟩, fun q9 => ⟨f8, ?_⟩⟩⟩⟩⟩⟩⟩⟩⟩
  · rw [if_pos (by simp only [q1, Bool.true_or])]
  · rw [if_pos (by simp only [q2, Bool.true_or, Bool.or_true])]
  · rw [if_pos (by simp only [q3, Bool.true_or, Bool.or_true])]
  · rw [if_pos (by simp only [q4, Bool.true_or, Bool.or_true])]
  · rw [if_pos (by simp only [q5, Bool.true_or, Bool.or_true])]
  · rw [if_pos (by simp only [q6, Bool.true_or, Bool.or_true])]
  · rw [if_pos (by simp only [q7, Bool.true_or, Bool.or_true])]
  · rw [if_pos (by simp only [q8, q9, Bool.and_true, Bool.or_true])]
  · rw [if_neg (by simp only [q1, q2, q3, q4, q5, q6, q7, q8, Bool.and_false, Bool.or_false, Bool.false_eq_true, not_false_eq_true])]
  · rw [if_neg (by simp only [q1, q2, q3, q4, q5, q6, q7, q9, Bool.false_and, Bool.or_false, Bool.false_eq_true, not_false_eq_true])]

def mchkF (M : Mo) : Int := if manyF M ≠ 0 then manyF M else if longF M ≠ 0 then longF M else restF M

theorem mcheck_does (M : Mo) (hM : M.fit) (hw : M.wf) (hs : M.slim) : Does Tryd.prog env 6 [.agg (M.pvs.map .p)] [] (sI .i64 (mchkF M)) [] := by
  refine does_of_tree names (mchk_tree M (manyF M) (longF M) (restF M)) ?_
  simp only [mchkTree, Tree.ok, mchkF, bne_iff_ne, ne_eq, bne_eq_false_iff_eq]
  refine ⟨many_does M hM hs, fun q => ?_, fun q => ⟨long_does M hM, fun r => ?_, fun r => ⟨rest_does M hM hw hs, fun t => ?_, fun t => ?_⟩⟩⟩
  · rw [if_pos q]
  · rw [if_neg (by simpa using q), if_pos r]
  · rw [if_neg (by simpa using q), if_neg (by simpa using r)]
  · rw [if_neg (by simpa using q), if_neg (by simpa using r), t]

def wtA (x : Fu) : Int := insF x.l 5000 0
def wtB (x : Gl) : Int := insF x.l 5000 0
def wtC (x : El) : Int := insF x.l 5000 0 + min (x.fs.length : Int) 5000
def wtD (x : Da) : Int := insF x.l 5000 0 + min (x.bs.length : Int) 5000
def wtE (x : Im) : Int := min (x.mo.data.toList.length : Int) 5000 + min (x.nm.data.toList.length : Int) 5000
def wtF (x : Ex) : Int := min (x.nm.data.toList.length : Int) 5000

def sumW {α : Type} (w : α → Int) : Int → List α → Int
  | n, [] => n
  | n, x :: r => sumW w (n + w x) r

noncomputable def lrCfg (M : Mo) (t : Nat) (n : Int) (i : Nat) : Cfg := bodyCfg Tryd.prog env 5 t [sI .i64 5000, .mp 0 0, sI .i64 n, sI .i64 i] [.pc M.pvs] 0 188

theorem sum_all {α : Type} {l : List α} {w : α → Int} {D : Int → Nat → Cfg} {K : Int → Prop} {o : Out} (hw : ∀ x : α, 0 ≤ w x ∧ w x ≤ 20000)
    (step : ∀ (n : Int) (i : Nat) (x : α), l[i]? = some x → 0 ≤ n → n + w x ≤ 1000000000000000 → Am.Good Tryd.prog env (D (n + w x) (i + 1)) o → Am.Good Tryd.prog env (D n i) o)
    (fin : ∀ n, K n → Am.Good Tryd.prog env (D n l.length) o) :
    ∀ (r i : Nat) (n : Int), i + r = l.length → 0 ≤ n → n + r * 20000 ≤ 1000000000000000 → K (sumW w n (l.drop i)) → Am.Good Tryd.prog env (D n i) o := by
  intro r
  induction r with
  | zero =>
    intro i n hi h0 hn h
    obtain rfl : i = l.length := by omega
    rw [List.drop_length] at h
    exact fin n h
  | succ r ih =>
    intro i n hi h0 hn h
    have hl : i < l.length := by omega
    rw [List.drop_eq_getElem_cons hl] at h
    have hx := hw l[i]
    exact step n i l[i] (List.getElem?_eq_getElem hl) h0 (by omega) (ih (i + 1) _ (by omega) (by omega) (by omega) h)

theorem sum_range {α : Type} {w : α → Int} (hw : ∀ x : α, 0 ≤ w x ∧ w x ≤ 20000) : ∀ (l : List α) (n : Int), n ≤ sumW w n l ∧ sumW w n l ≤ n + l.length * 20000
  | [], n => by simp [sumW]
  | x :: r, n => by
    have h := sum_range hw r (n + w x)
    have hx := hw x
    simp only [sumW, List.length_cons]
    omega

theorem sum_mem {α : Type} {w : α → Int} (hw : ∀ x : α, 0 ≤ w x ∧ w x ≤ 20000) : ∀ (l : List α) (n : Int) (x : α), x ∈ l → n + w x ≤ sumW w n l
  | y :: r, n, x, h => by
    have hy := hw y
    rcases List.mem_cons.1 h with rfl | h
    · exact (sum_range hw r (n + w x)).1
    · have := sum_mem hw r (n + w y) x h
      simp only [sumW]
      omega

theorem wtA_r (x : Fu) : 0 ≤ wtA x ∧ wtA x ≤ 20000 := by have h := insF_range x.l 5000 0 (by decide) (by decide) (by decide); unfold wtA; omega
theorem wtB_r (x : Gl) : 0 ≤ wtB x ∧ wtB x ≤ 20000 := by have h := insF_range x.l 5000 0 (by decide) (by decide) (by decide); unfold wtB; omega
theorem wtC_r (x : El) : 0 ≤ wtC x ∧ wtC x ≤ 20000 := by have h := insF_range x.l 5000 0 (by decide) (by decide) (by decide); unfold wtC; omega
theorem wtD_r (x : Da) : 0 ≤ wtD x ∧ wtD x ≤ 20000 := by have h := insF_range x.l 5000 0 (by decide) (by decide) (by decide); unfold wtD; omega
theorem wtE_r (x : Im) : 0 ≤ wtE x ∧ wtE x ≤ 20000 := by unfold wtE; omega
theorem wtF_r (x : Ex) : 0 ≤ wtF x ∧ wtF x ≤ 20000 := by unfold wtF; omega

theorem lrA_step (M : Mo) (hM : M.wf) (h5 : M.fns.length ≤ 5000) (o : Out) (n : Int) (i : Nat) (x : Fu) (hx : M.fns[i]? = some x) (h0 : 0 ≤ n) (hn : n + wtA x ≤ 1000000000000000) (h : Am.Good Tryd.prog env (lrCfg M 1 (n + wtA x) (i + 1)) o) : Am.Good Tryd.prog env (lrCfg M 1 n i) o := by
  have hi : i < M.fns.length := (List.getElem?_eq_some_iff.1 hx).1
  have c := flat_at (z := 3) (enc := encFu) (fun _ => rfl) hx
  have c20 : (M.fns.flatMap encFu).getD (i * 3 + 1 + 1) .bad = pL x.l := c 2 (by decide)
  have c21 : (M.fns.flatMap encFu).getD (i * 3 + 2) .bad = pL x.l := c 2 (by decide)
  have w : IntKind.i64.wrap ((i : Int) + 1) = ((i + 1 : Nat) : Int) := by rw [i64In (by omega) (by omega)]; rfl
  have hd : decide ((i : Int) < (M.fns.length : Int)) = true := decide_eq_true (by omega)
  have hI := insF_range x.l 5000 0 (by decide) (by decide) (by decide)
  have hq : wfLs x.l := (hM.fns.2 x (List.mem_of_getElem? hx)).2.2
  have hc := instrs_does (cntL x.l) x.l 5000 (Nat.le_refl _) hq.1 hq.2 (by decide) (by decide)
  unfold wtA at h hn
  have w1 : IntKind.i64.wrap (n + insF x.l 5000 0) = n + insF x.l 5000 0 := i64In (by omega) (by omega)
  refine good_of_tree names (lrgA_tree M 5000 n i (insF x.l 5000 0)) ?_
  simp only [lrgATree, Tree.ok, isStr, isPs, pvStr, psLen, psSz, psCells, inB, Int.toNat_natCast, c20, c21, hd, w, cond_true, cond_false, Bool.and_true, Bool.true_and, w1]
  exact ⟨fun _ => ⟨(by first | rfl | (simp only [Bool.and_eq_true, decide_eq_true_eq]; omega)), (by first | rfl | trivial), hc, h⟩, fun q => (by cases q)⟩

theorem lrA_end (M : Mo) (o : Out) (n : Int) (h : Am.Good Tryd.prog env (lrCfg M 3 n 0) o) : Am.Good Tryd.prog env (lrCfg M 1 n M.fns.length) o := by
  have hd : decide ((M.fns.length : Int) < (M.fns.length : Int)) = false := decide_eq_false (by omega)
  refine good_of_tree names (lrgA_tree M 5000 n M.fns.length 0) ?_
  simp only [lrgATree, Tree.ok, hd]
  exact ⟨fun q => (by cases q), fun _ => h⟩

theorem lrB_step (M : Mo) (hM : M.wf) (h5 : M.gls.length ≤ 5000) (o : Out) (n : Int) (i : Nat) (x : Gl) (hx : M.gls[i]? = some x) (h0 : 0 ≤ n) (hn : n + wtB x ≤ 1000000000000000) (h : Am.Good Tryd.prog env (lrCfg M 3 (n + wtB x) (i + 1)) o) : Am.Good Tryd.prog env (lrCfg M 3 n i) o := by
  have hi : i < M.gls.length := (List.getElem?_eq_some_iff.1 hx).1
  have c := flat_at (z := 2) (enc := encGl) (fun _ => rfl) hx
  have c10 : (M.gls.flatMap encGl).getD (i * 2 + 1) .bad = pL x.l := c 1 (by decide)
  have w : IntKind.i64.wrap ((i : Int) + 1) = ((i + 1 : Nat) : Int) := by rw [i64In (by omega) (by omega)]; rfl
  have hd : decide ((i : Int) < (M.gls.length : Int)) = true := decide_eq_true (by omega)
  have hI := insF_range x.l 5000 0 (by decide) (by decide) (by decide)
  have hq : wfLs x.l := (hM.gls.2 x (List.mem_of_getElem? hx))
  have hc := instrs_does (cntL x.l) x.l 5000 (Nat.le_refl _) hq.1 hq.2 (by decide) (by decide)
  unfold wtB at h hn
  have w1 : IntKind.i64.wrap (n + insF x.l 5000 0) = n + insF x.l 5000 0 := i64In (by omega) (by omega)
  refine good_of_tree names (lrgB_tree M 5000 n i (insF x.l 5000 0)) ?_
  simp only [lrgBTree, Tree.ok, isStr, isPs, pvStr, psLen, psSz, psCells, inB, Int.toNat_natCast, c10, hd, w, cond_true, cond_false, Bool.and_true, Bool.true_and, w1]
  exact ⟨fun _ => ⟨(by first | rfl | (simp only [Bool.and_eq_true, decide_eq_true_eq]; omega)), (by first | rfl | trivial), hc, h⟩, fun q => (by cases q)⟩

theorem lrB_end (M : Mo) (o : Out) (n : Int) (h : Am.Good Tryd.prog env (lrCfg M 5 n 0) o) : Am.Good Tryd.prog env (lrCfg M 3 n M.gls.length) o := by
  have hd : decide ((M.gls.length : Int) < (M.gls.length : Int)) = false := decide_eq_false (by omega)
  refine good_of_tree names (lrgB_tree M 5000 n M.gls.length 0) ?_
  simp only [lrgBTree, Tree.ok, hd]
  exact ⟨fun q => (by cases q), fun _ => h⟩

theorem lrC_step (M : Mo) (hM : M.wf) (h5 : M.els.length ≤ 5000) (o : Out) (n : Int) (i : Nat) (x : El) (hx : M.els[i]? = some x) (h0 : 0 ≤ n) (hn : n + wtC x ≤ 1000000000000000) (h : Am.Good Tryd.prog env (lrCfg M 5 (n + wtC x) (i + 1)) o) : Am.Good Tryd.prog env (lrCfg M 5 n i) o := by
  have hi : i < M.els.length := (List.getElem?_eq_some_iff.1 hx).1
  have c := flat_at (z := 2) (enc := encEl) (fun _ => rfl) hx
  have c00 : (M.els.flatMap encEl).getD (i * 2) .bad = pL x.l := c 0 (by decide)
  have c01 : (M.els.flatMap encEl).getD (i * 2 + 0) .bad = pL x.l := c 0 (by decide)
  have c12 : (M.els.flatMap encEl).getD (i * 2 + 1) .bad = pT .u32 x.fs := c 1 (by decide)
  have w : IntKind.i64.wrap ((i : Int) + 1) = ((i + 1 : Nat) : Int) := by rw [i64In (by omega) (by omega)]; rfl
  have hd : decide ((i : Int) < (M.els.length : Int)) = true := decide_eq_true (by omega)
  have hI := insF_range x.l 5000 0 (by decide) (by decide) (by decide)
  have hq : wfLs x.l := (hM.els.2 x (List.mem_of_getElem? hx)).1
  have hc := instrs_does (cntL x.l) x.l 5000 (Nat.le_refl _) hq.1 hq.2 (by decide) (by decide)
  unfold wtC at h hn
  have w1 : IntKind.i64.wrap (IntKind.i64.wrap (n + insF x.l 5000 0) + min (x.fs.length : Int) 5000) = n + (insF x.l 5000 0 + min (x.fs.length : Int) 5000) := by rw [i64In (n := n + insF x.l 5000 0) (by omega) (by omega), Int.add_assoc]; exact i64In (by omega) (by omega)
  refine good_of_tree names (lrgC_tree M 5000 n i (insF x.l 5000 0)) ?_
  simp only [lrgCTree, Tree.ok, isStr, isPs, pvStr, psLen, psSz, psCells, inB, Int.toNat_natCast, c00, c01, c12, hd, w, cond_true, cond_false, Bool.and_true, Bool.true_and, w1]
  exact ⟨fun _ => ⟨hc, (by first | rfl | (simp only [Bool.and_eq_true, decide_eq_true_eq]; omega)), h⟩, fun q => (by cases q)⟩

theorem lrC_end (M : Mo) (o : Out) (n : Int) (h : Am.Good Tryd.prog env (lrCfg M 7 n 0) o) : Am.Good Tryd.prog env (lrCfg M 5 n M.els.length) o := by
  have hd : decide ((M.els.length : Int) < (M.els.length : Int)) = false := decide_eq_false (by omega)
  refine good_of_tree names (lrgC_tree M 5000 n M.els.length 0) ?_
  simp only [lrgCTree, Tree.ok, hd]
  exact ⟨fun q => (by cases q), fun _ => h⟩

theorem lrD_step (M : Mo) (hM : M.wf) (h5 : M.das.length ≤ 5000) (o : Out) (n : Int) (i : Nat) (x : Da) (hx : M.das[i]? = some x) (h0 : 0 ≤ n) (hn : n + wtD x ≤ 1000000000000000) (h : Am.Good Tryd.prog env (lrCfg M 7 (n + wtD x) (i + 1)) o) : Am.Good Tryd.prog env (lrCfg M 7 n i) o := by
  have hi : i < M.das.length := (List.getElem?_eq_some_iff.1 hx).1
  have c := flat_at (z := 2) (enc := encDa) (fun _ => rfl) hx
  have c00 : (M.das.flatMap encDa).getD (i * 2) .bad = pL x.l := c 0 (by decide)
  have c01 : (M.das.flatMap encDa).getD (i * 2 + 0) .bad = pL x.l := c 0 (by decide)
  have c12 : (M.das.flatMap encDa).getD (i * 2 + 1) .bad = pT .u8 x.bs := c 1 (by decide)
  have w : IntKind.i64.wrap ((i : Int) + 1) = ((i + 1 : Nat) : Int) := by rw [i64In (by omega) (by omega)]; rfl
  have hd : decide ((i : Int) < (M.das.length : Int)) = true := decide_eq_true (by omega)
  have hI := insF_range x.l 5000 0 (by decide) (by decide) (by decide)
  have hq : wfLs x.l := (hM.das.2 x (List.mem_of_getElem? hx)).1
  have hc := instrs_does (cntL x.l) x.l 5000 (Nat.le_refl _) hq.1 hq.2 (by decide) (by decide)
  unfold wtD at h hn
  have w1 : IntKind.i64.wrap (IntKind.i64.wrap (n + insF x.l 5000 0) + min (x.bs.length : Int) 5000) = n + (insF x.l 5000 0 + min (x.bs.length : Int) 5000) := by rw [i64In (n := n + insF x.l 5000 0) (by omega) (by omega), Int.add_assoc]; exact i64In (by omega) (by omega)
  refine good_of_tree names (lrgD_tree M 5000 n i (insF x.l 5000 0)) ?_
  simp only [lrgDTree, Tree.ok, isStr, isPs, pvStr, psLen, psSz, psCells, inB, Int.toNat_natCast, c00, c01, c12, hd, w, cond_true, cond_false, Bool.and_true, Bool.true_and, w1]
  exact ⟨fun _ => ⟨hc, (by first | rfl | (simp only [Bool.and_eq_true, decide_eq_true_eq]; omega)), h⟩, fun q => (by cases q)⟩

theorem lrD_end (M : Mo) (o : Out) (n : Int) (h : Am.Good Tryd.prog env (lrCfg M 9 n 0) o) : Am.Good Tryd.prog env (lrCfg M 7 n M.das.length) o := by
  have hd : decide ((M.das.length : Int) < (M.das.length : Int)) = false := decide_eq_false (by omega)
  refine good_of_tree names (lrgD_tree M 5000 n M.das.length 0) ?_
  simp only [lrgDTree, Tree.ok, hd]
  exact ⟨fun q => (by cases q), fun _ => h⟩

theorem lrE_step (M : Mo) (hM : M.wf) (h5 : M.ims.length ≤ 5000) (o : Out) (n : Int) (i : Nat) (x : Im) (hx : M.ims[i]? = some x) (h0 : 0 ≤ n) (hn : n + wtE x ≤ 1000000000000000) (h : Am.Good Tryd.prog env (lrCfg M 9 (n + wtE x) (i + 1)) o) : Am.Good Tryd.prog env (lrCfg M 9 n i) o := by
  have hi : i < M.ims.length := (List.getElem?_eq_some_iff.1 hx).1
  have c := flat_at (z := 3) (enc := encIm) (fun _ => rfl) hx
  have c00 : (M.ims.flatMap encIm).getD (i * 3) .bad = .sc (.string x.mo) := c 0 (by decide)
  have c01 : (M.ims.flatMap encIm).getD (i * 3 + 0) .bad = .sc (.string x.mo) := c 0 (by decide)
  have c12 : (M.ims.flatMap encIm).getD (i * 3 + 1) .bad = .sc (.string x.nm) := c 1 (by decide)
  have w : IntKind.i64.wrap ((i : Int) + 1) = ((i + 1 : Nat) : Int) := by rw [i64In (by omega) (by omega)]; rfl
  have hd : decide ((i : Int) < (M.ims.length : Int)) = true := decide_eq_true (by omega)
  unfold wtE at h hn
  have w1 : IntKind.i64.wrap (IntKind.i64.wrap (n + min (x.mo.data.toList.length : Int) 5000) + min (x.nm.data.toList.length : Int) 5000) = n + (min (x.mo.data.toList.length : Int) 5000 + min (x.nm.data.toList.length : Int) 5000) := by rw [i64In (n := n + min (x.mo.data.toList.length : Int) 5000) (by omega) (by omega), Int.add_assoc]; exact i64In (by omega) (by omega)
  refine good_of_tree names (lrgE_tree M 5000 n i 0) ?_
  simp only [lrgETree, Tree.ok, isStr, isPs, pvStr, psLen, psSz, psCells, inB, Int.toNat_natCast, c00, c01, c12, hd, w, cond_true, cond_false, Bool.and_true, Bool.true_and, w1]
  exact ⟨fun _ => ⟨(by first | rfl | (simp only [Bool.and_eq_true, decide_eq_true_eq]; omega)), h⟩, fun q => (by cases q)⟩

theorem lrE_end (M : Mo) (o : Out) (n : Int) (h : Am.Good Tryd.prog env (lrCfg M 11 n 0) o) : Am.Good Tryd.prog env (lrCfg M 9 n M.ims.length) o := by
  have hd : decide ((M.ims.length : Int) < (M.ims.length : Int)) = false := decide_eq_false (by omega)
  refine good_of_tree names (lrgE_tree M 5000 n M.ims.length 0) ?_
  simp only [lrgETree, Tree.ok, hd]
  exact ⟨fun q => (by cases q), fun _ => h⟩

theorem lrF_step (M : Mo) (hM : M.wf) (h5 : M.exs.length ≤ 5000) (o : Out) (n : Int) (i : Nat) (x : Ex) (hx : M.exs[i]? = some x) (h0 : 0 ≤ n) (hn : n + wtF x ≤ 1000000000000000) (h : Am.Good Tryd.prog env (lrCfg M 11 (n + wtF x) (i + 1)) o) : Am.Good Tryd.prog env (lrCfg M 11 n i) o := by
  have hi : i < M.exs.length := (List.getElem?_eq_some_iff.1 hx).1
  have c := flat_at (z := 3) (enc := encEx) (fun _ => rfl) hx
  have c00 : (M.exs.flatMap encEx).getD (i * 3) .bad = .sc (.string x.nm) := c 0 (by decide)
  have c01 : (M.exs.flatMap encEx).getD (i * 3 + 0) .bad = .sc (.string x.nm) := c 0 (by decide)
  have w : IntKind.i64.wrap ((i : Int) + 1) = ((i + 1 : Nat) : Int) := by rw [i64In (by omega) (by omega)]; rfl
  have hd : decide ((i : Int) < (M.exs.length : Int)) = true := decide_eq_true (by omega)
  unfold wtF at h hn
  have w1 : IntKind.i64.wrap (n + min (x.nm.data.toList.length : Int) 5000) = n + min (x.nm.data.toList.length : Int) 5000 := i64In (by omega) (by omega)
  refine good_of_tree names (lrgF_tree M 5000 n i 0) ?_
  simp only [lrgFTree, Tree.ok, isStr, isPs, pvStr, psLen, psSz, psCells, inB, Int.toNat_natCast, c00, c01, hd, w, cond_true, cond_false, Bool.and_true, Bool.true_and, w1]
  exact ⟨fun _ => ⟨(by first | rfl | (simp only [Bool.and_eq_true, decide_eq_true_eq]; omega)), (by first | rfl | trivial), h⟩, fun q => (by cases q)⟩

theorem lrF_end (M : Mo) (o : Out) (n : Int) (h : Out.ret (sB (decide (n > 5000))) [] = o) : Am.Good Tryd.prog env (lrCfg M 11 n M.exs.length) o := by
  have hd : decide ((M.exs.length : Int) < (M.exs.length : Int)) = false := decide_eq_false (by omega)
  refine good_of_tree names (lrgF_tree M 5000 n M.exs.length 0) ?_
  simp only [lrgFTree, Tree.ok, hd]
  exact ⟨fun q => (by cases q), fun _ => h⟩

def lens (M : Mo) : Int := M.tys.length + M.ims.length + M.fns.length + M.tas.length + M.mes.length + M.gls.length + M.exs.length + M.els.length + M.das.length
def allW (M : Mo) : Int := sumW wtF (sumW wtE (sumW wtD (sumW wtC (sumW wtB (sumW wtA (lens M) M.fns) M.gls) M.els) M.das) M.ims) M.exs
def largeF (M : Mo) : Bool := if lens M > 5000 then true else decide (allW M > 5000)

def _root_.Go.Am.Mo.short (M : Mo) : Prop := M.tys.length ≤ 1000000000000000 ∧ M.ims.length ≤ 1000000000000000 ∧ M.fns.length ≤ 1000000000000000 ∧ M.tas.length ≤ 1000000000000000 ∧ M.mes.length ≤ 1000000000000000 ∧ M.gls.length ≤ 1000000000000000 ∧ M.exs.length ≤ 1000000000000000 ∧ M.els.length ≤ 1000000000000000 ∧ M.das.length ≤ 1000000000000000

theorem large_does (M : Mo) (hw : M.wf) (hs : M.short) : Does Tryd.prog env 5 [.agg (M.pvs.map .p), sI .i64 5000] [] (sB (largeF M)) [] := by
  obtain ⟨s1, s2, s3, s4, s5, s6, s7, s8, s9⟩ := hs
  have e : IntKind.i64.wrap (IntKind.i64.wrap (IntKind.i64.wrap (IntKind.i64.wrap (IntKind.i64.wrap (IntKind.i64.wrap (IntKind.i64.wrap (IntKind.i64.wrap ((M.tys.length : Int) + M.ims.length) + M.fns.length) + M.tas.length) + M.mes.length) + M.gls.length) + M.exs.length) + M.els.length) + M.das.length) = lens M := by
    unfold lens
    rw [i64In (n := (M.tys.length : Int) + M.ims.length) (by omega) (by omega), i64In (n := (M.tys.length : Int) + M.ims.length + M.fns.length) (by omega) (by omega), i64In (n := (M.tys.length : Int) + M.ims.length + M.fns.length + M.tas.length) (by omega) (by omega),
      i64In (n := (M.tys.length : Int) + M.ims.length + M.fns.length + M.tas.length + M.mes.length) (by omega) (by omega), i64In (n := (M.tys.length : Int) + M.ims.length + M.fns.length + M.tas.length + M.mes.length + M.gls.length) (by omega) (by omega),
      i64In (n := (M.tys.length : Int) + M.ims.length + M.fns.length + M.tas.length + M.mes.length + M.gls.length + M.exs.length) (by omega) (by omega), i64In (n := (M.tys.length : Int) + M.ims.length + M.fns.length + M.tas.length + M.mes.length + M.gls.length + M.exs.length + M.els.length) (by omega) (by omega), i64In (by omega) (by omega)]
  refine does_of_tree names (lrg_tree M 5000) ?_
  simp only [lrgTree, Tree.ok, e]
  refine ⟨fun q => ?_, fun q => ?_⟩
  · have q : lens M > 5000 := by simpa using q
    rw [largeF, if_pos q]
  · have q : ¬ lens M > 5000 := by simpa using q
    have hl : 0 ≤ lens M := by unfold lens; omega
    rw [largeF, if_neg q]
    have q : lens M ≤ 5000 := by omega
    have l1 : M.fns.length ≤ 5000 := by unfold lens at q; omega
    have l2 : M.gls.length ≤ 5000 := by unfold lens at q; omega
    have l3 : M.els.length ≤ 5000 := by unfold lens at q; omega
    have l4 : M.das.length ≤ 5000 := by unfold lens at q; omega
    have l5 : M.ims.length ≤ 5000 := by unfold lens at q; omega
    have l6 : M.exs.length ≤ 5000 := by unfold lens at q; omega
    have r1 := sum_range wtA_r M.fns (lens M)
    have r2 := sum_range wtB_r M.gls (sumW wtA (lens M) M.fns)
    have r3 := sum_range wtC_r M.els (sumW wtB (sumW wtA (lens M) M.fns) M.gls)
    have r4 := sum_range wtD_r M.das (sumW wtC (sumW wtB (sumW wtA (lens M) M.fns) M.gls) M.els)
    have r5 := sum_range wtE_r M.ims (sumW wtD (sumW wtC (sumW wtB (sumW wtA (lens M) M.fns) M.gls) M.els) M.das)
    have k6 := sum_all wtF_r (lrF_step M hw l6 (.ret (sB (decide (allW M > 5000))) [])) (lrF_end M _) M.exs.length 0 (sumW wtE (sumW wtD (sumW wtC (sumW wtB (sumW wtA (lens M) M.fns) M.gls) M.els) M.das) M.ims) (by omega) (by omega) (by omega) rfl
    have k5 := sum_all wtE_r (lrE_step M hw l5 _) (lrE_end M _) M.ims.length 0 (sumW wtD (sumW wtC (sumW wtB (sumW wtA (lens M) M.fns) M.gls) M.els) M.das) (by omega) (by omega) (by omega) k6
    have k4 := sum_all wtD_r (lrD_step M hw l4 _) (lrD_end M _) M.das.length 0 (sumW wtC (sumW wtB (sumW wtA (lens M) M.fns) M.gls) M.els) (by omega) (by omega) (by omega) k5
    have k3 := sum_all wtC_r (lrC_step M hw l3 _) (lrC_end M _) M.els.length 0 (sumW wtB (sumW wtA (lens M) M.fns) M.gls) (by omega) (by omega) (by omega) k4
    have k2 := sum_all wtB_r (lrB_step M hw l2 _) (lrB_end M _) M.gls.length 0 (sumW wtA (lens M) M.fns) (by omega) (by omega) (by omega) k3
    have k1 := sum_all wtA_r (lrA_step M hw l1 _) (lrA_end M _) M.fns.length 0 (lens M) (by omega) (by omega) (by omega) k2
    exact k1

theorem large_inv {M : Mo} (h : largeF M = false) : M.fit ∧ M.slim ∧ lens M ≤ 5000 := by
  unfold largeF at h
  split at h
  · cases h
  rename_i q
  have h : ¬ allW M > 5000 := by simpa using h
  have q : lens M ≤ 5000 := by omega
  have q' := q
  unfold lens at q'
  have r1 := sum_range wtA_r M.fns (lens M)
  have r2 := sum_range wtB_r M.gls (sumW wtA (lens M) M.fns)
  have r3 := sum_range wtC_r M.els (sumW wtB (sumW wtA (lens M) M.fns) M.gls)
  have r4 := sum_range wtD_r M.das (sumW wtC (sumW wtB (sumW wtA (lens M) M.fns) M.gls) M.els)
  have r5 := sum_range wtE_r M.ims (sumW wtD (sumW wtC (sumW wtB (sumW wtA (lens M) M.fns) M.gls) M.els) M.das)
  have r6 := sum_range wtF_r M.exs (sumW wtE (sumW wtD (sumW wtC (sumW wtB (sumW wtA (lens M) M.fns) M.gls) M.els) M.das) M.ims)
  unfold allW at h
  have hl : 0 ≤ lens M := by unfold lens; omega
  have cnt : ∀ l : List Ins, insF l 5000 0 ≤ 5000 → numL l ≤ 100000000000 := fun l hl => by
    have := insF_cnt l 5000 0 (by decide) (by decide) hl
    have := numL_cnt l
    omega
  refine ⟨⟨by omega, by omega, by omega, by omega, by omega, by omega, by omega, by omega, by omega⟩, fun l hm => ?_, q⟩
  simp only [cds, List.mem_append, List.mem_map] at hm
  rcases hm with ((⟨x, hx, rfl⟩ | ⟨x, hx, rfl⟩) | ⟨x, hx, rfl⟩) | ⟨x, hx, rfl⟩
  · have := sum_mem wtA_r M.fns (lens M) x hx
    exact cnt _ (by have e : wtA x = insF x.l 5000 0 := rfl; omega)
  · have := sum_mem wtB_r M.gls (sumW wtA (lens M) M.fns) x hx
    exact cnt _ (by have e : wtB x = insF x.l 5000 0 := rfl; omega)
  · have := sum_mem wtC_r M.els (sumW wtB (sumW wtA (lens M) M.fns) M.gls) x hx
    exact cnt _ (by have e : wtC x = insF x.l 5000 0 + min (x.fs.length : Int) 5000 := rfl; omega)
  · have := sum_mem wtD_r M.das (sumW wtC (sumW wtB (sumW wtA (lens M) M.fns) M.gls) M.els) x hx
    exact cnt _ (by have e : wtD x = insF x.l 5000 0 + min (x.bs.length : Int) 5000 := rfl; omega)

end Go.Proofs.YtdmmllcjgjmbbaaDoor.N
end

section
set_option linter.unusedSimpArgs false
set_option linter.unusedVariables false
namespace Go.Proofs.YtdmmllcjgjmbbaaDoor.N
open Go Go.Am

structure _root_.Go.Am.Mo.le (A M : Mo) : Prop where
  tys : A.tys.Sublist M.tys
  ims : A.ims.Sublist M.ims
  fns : A.fns.Sublist M.fns
  tas : A.tas.Sublist M.tas
  mes : A.mes.Sublist M.mes
  gls : A.gls.Sublist M.gls
  exs : A.exs.Sublist M.exs
  els : A.els.Sublist M.els
  das : A.das.Sublist M.das
  st : (A.st = M.st ∧ A.sn = M.sn) ∨ A.sn = 0

theorem any_sub {α : Type} {p : α → Bool} {l m : List α} (h : l.Sublist m) (hm : m.any p = false) : l.any p = false := by
  rw [List.any_eq_false] at hm ⊢
  exact fun x hx => hm x (h.subset hx)

theorem left_mono : ∀ (l : List Da) (n m : Int), -1 ≤ n → n ≤ m → leftF n l ≤ leftF m l
  | [], _, _, _, h => h
  | x :: r, n, m, h0, h => by
    simp only [leftF]
    exact left_mono r _ _ (by omega) (by omega)

theorem left_sub : ∀ {l m : List Da}, l.Sublist m → ∀ n : Int, -1 ≤ n → leftF n m ≤ leftF n l
  | _, _, .slnil, _, _ => Int.le_refl _
  | _, _, .cons x h, n, h0 => by
    have h1 := left_sub h n h0
    rename_i m
    have h2 := left_mono m (n - min (x.bs.length : Int) (n + 1)) n (by omega) (by omega)
    show leftF (n - min (x.bs.length : Int) (n + 1)) m ≤ _
    omega
  | _, _, .cons_cons x h, n, h0 => by
    simp only [leftF]
    exact left_sub h _ (by omega)

theorem flat_sub {α β : Type} {f : α → List β} : ∀ {l m : List α}, l.Sublist m → (l.flatMap f).Sublist (m.flatMap f)
  | _, _, .slnil => .refl _
  | _, _, .cons x h => by
    rw [List.flatMap_cons]
    exact (flat_sub h).trans (List.sublist_append_right _ _)
  | _, _, .cons_cons x h => by
    rw [List.flatMap_cons, List.flatMap_cons]
    exact (List.Sublist.refl _).append (flat_sub h)

theorem nms_sub {A M : Mo} (h : A.le M) : (nms A).Sublist (nms M) := (flat_sub h.ims).append (h.exs.map _)
theorem cds_sub {A M : Mo} (h : A.le M) : (cds A).Sublist (cds M) := (((h.fns.map _).append (h.gls.map _)).append (h.els.map _)).append (h.das.map _)

structure _root_.Go.Am.Mo.May (M : Mo) : Prop where
  many : manyB M = false
  noMany : hasE M 141 = false
  left : ¬ leftF 1048576 M.das < 0
  long : anyLong M = false
  rest : restB M = false
  noArg : hasE M 2 = false

theorem may_iff (M : Mo) : mchkF M = 0 ↔ M.May := by
  unfold mchkF manyF longF restF
  constructor
  · intro h
    cases h1 : manyB M with
    | true => simp [h1] at h
    | false =>
      cases h2 : hasE M 141 with
      | true => simp [h1, h2] at h
      | false =>
        by_cases h3 : leftF 1048576 M.das < 0
        · simp [h1, h2, h3] at h
        · cases h4 : anyLong M with
          | true => simp [h1, h2, h3, h4] at h
          | false =>
            cases h5 : restB M with
            | true => simp [h1, h2, h3, h4, h5] at h
            | false =>
              cases h6 : hasE M 2 with
              | true => simp [h1, h2, h3, h4, h5, h6] at h
              | false => exact ⟨h1, h2, h3, h4, h5, h6⟩
  · intro ⟨h1, h2, h3, h4, h5, h6⟩
    simp [h1, h2, h3, h4, h5, h6]

theorem may_less {A M : Mo} (h : A.le M) (hM : M.May) : A.May where
  many := by
    have m := hM.many
    simp only [manyB, Bool.or_eq_false_iff, decide_eq_false_iff_not] at m ⊢
    have a1 := h.tys.length_le; have a2 := h.ims.length_le; have a3 := h.fns.length_le; have a4 := h.tas.length_le; have a5 := h.mes.length_le
    have a6 := h.gls.length_le; have a7 := h.exs.length_le; have a8 := h.els.length_le; have a9 := h.das.length_le
    exact ⟨⟨⟨by omega, by omega⟩, by omega⟩, any_sub h.els m.2⟩
  noMany := any_sub (cds_sub h) hM.noMany
  left := fun q => hM.left (Int.lt_of_le_of_lt (left_sub h.das _ (by decide)) q)
  long := any_sub (nms_sub h) hM.long
  rest := by
    have m := hM.rest
    simp only [restB, Bool.or_eq_false_iff] at m ⊢
    obtain ⟨⟨⟨⟨⟨⟨⟨m1, m2⟩, m3⟩, m4⟩, m5⟩, m6⟩, m7⟩, m8⟩ := m
    refine ⟨⟨⟨⟨⟨⟨⟨any_sub h.tys m1, any_sub h.ims m2⟩, any_sub h.fns m3⟩, any_sub (nms_sub h) m4⟩, any_sub h.tas m5⟩, any_sub h.mes m6⟩, any_sub h.exs m7⟩, ?_⟩
    rcases h.st with ⟨e1, e2⟩ | e
    · rw [e1, e2]; exact m8
    · rw [e]; simp
  noArg := any_sub (cds_sub h) hM.noArg

def lessF (M : Mo) (i : Int) : Mo :=
  if i = 0 ∧ M.tys.length > 0 then { M with tys := M.tys.dropLast }
  else if i = 1 ∧ M.ims.length > 0 then { M with ims := M.ims.dropLast }
  else if i = 2 ∧ M.fns.length > 0 then { M with fns := M.fns.dropLast }
  else if i = 3 then { M with tas := [], mes := [] }
  else if i = 4 ∧ M.gls.length > 0 then { M with gls := M.gls.dropLast }
  else if i = 5 ∧ M.exs.length > 0 then { M with exs := M.exs.dropLast }
  else if i = 6 ∧ M.els.length > 0 then { M with els := M.els.dropLast }
  else if i = 7 ∧ M.das.length > 0 then { M with das := M.das.dropLast }
  else if i = 8 then { M with st := false, sn := 0 }
  else M

theorem le_refl (M : Mo) : M.le M := ⟨.refl _, .refl _, .refl _, .refl _, .refl _, .refl _, .refl _, .refl _, .refl _, .inl ⟨rfl, rfl⟩⟩
theorem less_le (M : Mo) (i : Int) : (lessF M i).le M := by
  unfold lessF
  repeat' split
  · exact ⟨List.dropLast_sublist _, .refl _, .refl _, .refl _, .refl _, .refl _, .refl _, .refl _, .refl _, .inl ⟨rfl, rfl⟩⟩
  · exact ⟨.refl _, List.dropLast_sublist _, .refl _, .refl _, .refl _, .refl _, .refl _, .refl _, .refl _, .inl ⟨rfl, rfl⟩⟩
  · exact ⟨.refl _, .refl _, List.dropLast_sublist _, .refl _, .refl _, .refl _, .refl _, .refl _, .refl _, .inl ⟨rfl, rfl⟩⟩
  · exact ⟨.refl _, .refl _, .refl _, List.nil_sublist _, List.nil_sublist _, .refl _, .refl _, .refl _, .refl _, .inl ⟨rfl, rfl⟩⟩
  · exact ⟨.refl _, .refl _, .refl _, .refl _, .refl _, List.dropLast_sublist _, .refl _, .refl _, .refl _, .inl ⟨rfl, rfl⟩⟩
  · exact ⟨.refl _, .refl _, .refl _, .refl _, .refl _, .refl _, List.dropLast_sublist _, .refl _, .refl _, .inl ⟨rfl, rfl⟩⟩
  · exact ⟨.refl _, .refl _, .refl _, .refl _, .refl _, .refl _, .refl _, List.dropLast_sublist _, .refl _, .inl ⟨rfl, rfl⟩⟩
  · exact ⟨.refl _, .refl _, .refl _, .refl _, .refl _, .refl _, .refl _, .refl _, List.dropLast_sublist _, .inl ⟨rfl, rfl⟩⟩
  · exact ⟨.refl _, .refl _, .refl _, .refl _, .refl _, .refl _, .refl _, .refl _, .refl _, .inr rfl⟩
  · exact le_refl M

theorem len_sub {α : Type} {w : α → Prop} {l m : List α} (h : l.Sublist m) (hm : wfLen w m) : wfLen w l := ⟨Nat.le_trans h.length_le hm.1, fun x hx => hm.2 x (h.subset hx)⟩

theorem fit_le {A M : Mo} (h : A.le M) (hM : M.fit) : A.fit := ⟨Nat.le_trans h.tys.length_le hM.tys, Nat.le_trans h.ims.length_le hM.ims, Nat.le_trans h.fns.length_le hM.fns, Nat.le_trans h.tas.length_le hM.tas, Nat.le_trans h.mes.length_le hM.mes, Nat.le_trans h.gls.length_le hM.gls, Nat.le_trans h.exs.length_le hM.exs, Nat.le_trans h.els.length_le hM.els, Nat.le_trans h.das.length_le hM.das⟩
theorem slim_le {A M : Mo} (h : A.le M) (hM : M.slim) : A.slim := fun l hl => hM l ((cds_sub h).subset hl)
theorem wf_le {A M : Mo} (h : A.le M) (hM : M.wf) : A.wf := ⟨len_sub h.tys hM.tys, len_sub h.ims hM.ims, len_sub h.fns hM.fns, len_sub h.tas hM.tas, len_sub h.mes hM.mes, len_sub h.gls hM.gls, len_sub h.exs hM.exs, by
  rcases h.st with ⟨_, e⟩ | e
  · rw [e]; exact hM.sn
  · rw [e]; decide, len_sub h.els hM.els, len_sub h.das hM.das⟩

end Go.Proofs.YtdmmllcjgjmbbaaDoor.N
end
