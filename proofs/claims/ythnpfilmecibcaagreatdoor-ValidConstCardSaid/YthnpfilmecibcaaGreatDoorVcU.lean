/-
  How many instructions there are, and a copy of them: what these two tell, of any instructions.
-/
import Derived.Test.YthnpfilmecibcaaGreatDoorVcT
namespace Go.Proofs.YthnpfilmecibcaaGreatDoor.N
open Go Go.Am

theorem aL_inj {l m : List Ins} (h : aL l = aL m) : l = m := by
  simp only [AV.p.injEq, PV.ps.injEq] at h
  exact encL_inj h.2.2

open Classical in
noncomputable def insR (args : List AV) : Int := if h : ∃ l most, args = [aL l, sI .i64 most] then insF h.choose h.choose_spec.choose 0 else 0

theorem insR_eq (l : List Ins) (most : Int) : insR [aL l, sI .i64 most] = insF l most 0 := by
  have h : ∃ l' most', [aL l, sI .i64 most] = [aL l', sI .i64 most'] := ⟨l, most, rfl⟩
  have e := h.choose_spec.choose_spec
  unfold insR
  rw [dif_pos h]
  have e1 := aL_inj (List.cons.inj e).1
  have e2 : most = h.choose_spec.choose := by
    have := (List.cons.inj (List.cons.inj e).2).1
    simpa only [AV.p.injEq, PV.sc.injEq, Value.int.injEq, true_and] using this
  have e : (h.choose, h.choose_spec.choose) = (l, most) := by rw [Prod.mk.injEq]; exact ⟨e1.symm, e2.symm⟩
  exact congrArg (fun q : List Ins × Int => insF q.1 q.2 0) e

theorem instrs_does : ∀ (N : Nat) (l : List Ins) (most : Int), cntL l ≤ N → l.length ≤ maxLen → wfL l → 0 ≤ most → most ≤ 1000000000000 → Does Tryz.prog env 4 [aL l, sI .i64 most] [] (sI .i64 (insF l most 0)) []
  | N, l, most, hN, hl, hw, h0, hm => by
    have IH : ∀ x ∈ l, ∀ m' : Int, 0 ≤ m' → m' ≤ most → Does Tryz.prog env 4 [aL x.l, sI .i64 m'] [] (sI .i64 (insF x.l m' 0)) [] ∧ Does Tryz.prog env 4 [aL x.e, sI .i64 m'] [] (sI .i64 (insF x.e m' 0)) [] := by
      intro x hx m' h0' hm'
      have hc := cntL_mem hx
      have hwx := wfL_mem hw hx
      obtain ⟨op, rs, a, b, nn, tags, ll, le⟩ := x
      simp only [cntI] at hc
      simp only [wfI] at hwx
      match N, hN with
      | 0, hN => omega
      | N + 1, hN => exact ⟨instrs_does N ll m' (by omega) hwx.2.2.2.2.2.2.1.1 hwx.2.2.2.2.2.2.1.2 h0' (by omega), instrs_does N le m' (by omega) hwx.2.2.2.2.2.2.2.1 hwx.2.2.2.2.2.2.2.2 h0' (by omega)⟩
    refine does_of_tree names right_noLed (ins_tree l most) ?_
    have h := instrs_loop insR insR_eq l most h0 hm hl IH l.length 0 0 (by omega) (by omega) (by omega)
    rw [List.drop_zero] at h
    exact h

/-- The cells of the instruction at a place, one by one. -/
theorem cells_at {l : List Ins} {k : Nat} {op rs a b nn : Int} {tags : List Int} {ll le : List Ins} (h : l[k]? = some (.mk op rs a b nn tags ll le)) :
    (encL l).getD (k * 8) .bad = .sc (.int .i64 op) ∧ (encL l).getD (k * 8 + 1) .bad = .sc (.int .i64 rs) ∧ (encL l).getD (k * 8 + 2) .bad = .sc (.int .u32 a) ∧ (encL l).getD (k * 8 + 3) .bad = .sc (.int .u32 b) ∧
      (encL l).getD (k * 8 + 4) .bad = .sc (.int .i32 nn) ∧ (encL l).getD (k * 8 + 5) .bad = .ps tags.length 1 (encT .u32 tags) ∧ (encL l).getD (k * 8 + 6) .bad = .ps ll.length 8 (encL ll) ∧ (encL l).getD (k * 8 + 7) .bad = .ps le.length 8 (encL le) :=
  have hc := encL_getD h
  ⟨hc 0 (by omega), hc 1 (by omega), hc 2 (by omega), hc 3 (by omega), hc 4 (by omega), hc 5 (by omega), hc 6 (by omega), hc 7 (by omega)⟩

theorem copy_loop (l : List Ins) (hc : cntL l ≤ 1000000) (IH : ∀ x ∈ l, Does Tryz.prog env 6 [aL x.l] [] (aL x.l) [] ∧ Does Tryz.prog env 6 [aL x.e] [] (aL x.e) []) :
    ∀ (r k : Nat), k + r = l.length → Am.Good Tryz.prog env (bodyCfg Tryz.prog env 6 0 [aL l, .os (some 0) k 8 (encL (l.take k)), sI .i64 k] [.tok] 0 34) (.ret (.os (some 0) l.length 8 (encL l)) [.tok]) := by
  intro r
  induction r with
  | zero =>
    intro k hk
    refine good_of_tree names right_noLed (copl_tree l k (encL (l.take k)) k) ?_
    have h2 : ¬ ((k : Int) < l.length) := by omega
    have h3 : k = l.length := by omega
    subst h3
    simp [coplTree, Tree.ok]
  | succ r ih =>
    intro k hk
    refine good_of_tree names right_noLed (copl_tree l k (encL (l.take k)) k) ?_
    have hkl : k < l.length := by omega
    have hgx : l[k]? = some l[k] := List.getElem?_eq_getElem hkl
    have hmem : l[k] ∈ l := List.getElem_mem hkl
    have ht : l.take (k + 1) = l.take k ++ [l[k]] := List.take_succ_eq_append_getElem hkl
    have ih := ih (k + 1) (by omega)
    rw [ht, encL_append, encL_one] at ih
    generalize l[k] = x at *
    obtain ⟨op, rs, a, b, nn, tags, ll, le⟩ := x
    obtain ⟨c0, c1, c2, c3, c4, c5, c6, c7⟩ := cells_at hgx
    have hIH := IH _ hmem
    have hcx := cntL_mem hmem
    have hll := cntL_length l
    simp only [cntI] at hcx
    have hw : IntKind.i64.wrap ((k : Int) + 1) = ((k + 1 : Nat) : Int) := by rw [i64In (by omega) (by omega)]; rfl
    have hkI : (k : Int) < (l.length : Int) := by omega
    have hlim : lim = 70368744177664 := rfl
    simp only [coplTree, Tree.ok, Nat.add_assoc, Nat.reduceAdd, c0, c1, c2, c3, c4, c5, c6, c7, psLen, psSz, psCells, isPs, isInt, pvInt, Int.toNat_natCast, inB, hw]
    refine ⟨fun _ => ⟨by simp [hkI], by simp, by simp; omega, hIH.1, hIH.2, by simp; omega, ?_⟩, fun h => absurd hkI (by simpa using h)⟩
    simpa [encI] using ih

theorem copy_first (x : Ins) (l : List Ins) (hc : cntL (x :: l) ≤ 1000000) (IH : ∀ y ∈ x :: l, Does Tryz.prog env 6 [aL y.l] [] (aL y.l) [] ∧ Does Tryz.prog env 6 [aL y.e] [] (aL y.e) []) :
    Am.Good Tryz.prog env (bodyCfg Tryz.prog env 6 0 [aL (x :: l), .os none 0 0 [], sI .i64 0] [] 0 34) (.ret (.os (some 0) (x :: l).length 8 (encL (x :: l))) [.tok]) := by
  refine good_of_tree names right_noLed (copz_tree (x :: l) 0) ?_
  have h1 := copy_loop (x :: l) hc IH l.length 1 (by simp; omega)
  have hIH := IH x (.head _)
  have hcx := cntL_mem (.head _ : x ∈ x :: l)
  obtain ⟨op, rs, a, b, nn, tags, ll, le⟩ := x
  obtain ⟨c0, c1, c2, c3, c4, c5, c6, c7⟩ := cells_at (l := .mk op rs a b nn tags ll le :: l) (k := 0) rfl
  simp only [cntI] at hcx
  have hw : IntKind.i64.wrap ((0 : Int) + 1) = ((1 : Nat) : Int) := by decide
  have hlim : lim = 70368744177664 := rfl
  simp only [Nat.zero_mul, Nat.zero_add] at c0 c1 c2 c3 c4 c5 c6 c7
  have z : Int.toNat 0 = 0 := rfl
  simp only [copzTree, Tree.ok, z, Nat.zero_mul, Nat.zero_add, Nat.reduceAdd, c0, c1, c2, c3, c4, c5, c6, c7, psLen, psSz, psCells, isPs, isInt, pvInt, inB, hw]
  refine ⟨fun _ => ⟨by simp, by simp, by simp; omega, hIH.1, hIH.2, ?_⟩, fun h => by simp at h⟩
  simpa [encI, encL, aL, sI] using h1

theorem copy_does : ∀ (N : Nat) (l : List Ins), cntL l ≤ N → cntL l ≤ 1000000 → Does Tryz.prog env 6 [aL l] [] (aL l) []
  | N, [], _, _ => by
    refine Does.nil (tok := none) (sz := 0) (m' := []) ?_ (by omega)
    refine does_of_tree names right_noLed (cop_tree []) ?_
    refine good_of_tree names right_noLed (copz_tree [] 0) ?_
    simp [copzTree, Tree.ok]
  | N, x :: l, hN, hc => by
    have IH : ∀ y ∈ x :: l, Does Tryz.prog env 6 [aL y.l] [] (aL y.l) [] ∧ Does Tryz.prog env 6 [aL y.e] [] (aL y.e) [] := by
      intro y hy
      have hcy := cntL_mem hy
      obtain ⟨op, rs, a, b, nn, tags, ll, le⟩ := y
      simp only [cntI] at hcy
      match N, hN with
      | 0, hN => omega
      | N + 1, hN => exact ⟨copy_does N ll (by omega) (by omega), copy_does N le (by omega) (by omega)⟩
    refine Does.pure (tok := some 0) (m' := [.tok]) ?_
    refine does_of_tree names right_noLed (cop_tree (x :: l)) ?_
    exact copy_first x l hc IH

end Go.Proofs.YthnpfilmecibcaaGreatDoor.N
