/-
  The program's checker: lists of things.
-/
import Derived.Test.YtiphaojaolcidaaDoorLmB
set_option linter.unusedVariables false
set_option linter.unusedSimpArgs false
namespace Go.Proofs.YtiphaojaolcidaaDoor.N
open Go Go.Am

/-- A thing, as it is handed on. -/
def aggT : Th → AV
  | .out k => .agg [sI .i64 13, sI .i64 0, sI .i64 0, .p (.ps 1 3 (encE k)), .p (.ps 0 0 []), .p (.ps 0 0 [])]
  | .fin => .agg [sI .i64 14, sI .i64 0, sI .i64 0, .p (.ps 0 0 []), .p (.ps 0 0 []), .p (.ps 0 0 [])]
  | .loop y => .agg [sI .i64 6, sI .i64 0, sI .i64 0, .p (.ps 0 0 []), .p (.ps 1 6 (encT y)), .p (.ps 0 0 [])]

/-- An expression's cells, told. -/
theorem encE_is (k : Nat) : ∃ (kd nn : Int) (zz y : Nat) (cs : List PV), encE k = [.sc (.int .i64 kd), .sc (.int .i64 nn), .ps zz y cs] ∧ aggE k = .agg [sI .i64 kd, sI .i64 nn, .p (.ps zz y cs)] := by
  cases k with
  | zero => exact ⟨1, 0, 0, 0, [], rfl, rfl⟩
  | succ k => exact ⟨6, 69, 1, 3, encE k, rfl, rfl⟩

theorem out_does {F L : List PV} {z : Nat} {t e lp : Int} {mn : Bool} {k : Nat} (h1 : -1000000000 + (k + 1) ≤ e) (h2 : e ≤ 1000000000) (h3 : k ≤ 1000000) :
    Does Tryd.prog envM 27 [.mp 0 0, aggT (.out k), sI .i64 lp] [chk F L z t e mn] (.tup []) [chk F L z t (expF k 1 e mn).1 (expF k 1 e mn).2] := by
  have h := exp_does (F := F) (L := L) (z := z) (t := t) k 1 e mn h1 h2 (by omega) (by omega)
  obtain ⟨kd, nn, zz, y, cs, q1, q2⟩ := encE_is k
  show Does _ _ _ [_, .agg [_, _, _, .p (.ps 1 3 (encE k)), _, _], _] _ _ _
  rw [q1]
  rw [q2] at h
  refine does_of_tree names (to_tree lp F L z t e mn kd nn zz y cs (expF k 1 e mn).1 (expF k 1 e mn).2) ?_
  exact ⟨h, rules_does, rfl⟩

theorem fin_does {F L : List PV} {z : Nat} {t e lp : Int} {mn : Bool} : Does Tryd.prog envM 27 [.mp 0 0, aggT .fin, sI .i64 lp] [chk F L z t e mn] (.tup []) [chk F L z t e mn] :=
  does_of_tree names (te_tree lp F L z t e mn) ⟨rules_does, rfl⟩

theorem loop_does {F L : List PV} {z : Nat} {t e lp : Int} {mn : Bool} {y : Th} : Does Tryd.prog envM 27 [.mp 0 0, aggT (.loop y), sI .i64 lp] [chk F L z t e mn] (.tup []) [chk F L z t e mn] :=
  does_of_tree names (tl_tree lp F L z t e mn (encT y)) ⟨rules_does, rfl⟩

theorem nilL_does {F L : List PV} {z : Nat} {t e d lp : Int} {mn : Bool} : Does Tryd.prog envM 14 [.mp 0 0, .p (.ps 0 0 []), sI .i64 d, sI .i64 lp, .mp 0 8] [chk F L z t e mn] (.tup []) [chk F L z t e mn] :=
  does_of_tree names (ln_tree d lp F L z t e mn) rfl

theorem cost_pos (x : Th) : 1 ≤ cost x := by cases x <;> simp only [cost] <;> omega

theorem oneF_bound : ∀ (x : Th) (d : Int) (s : Cnt), s.t - cost x ≤ (oneF d x s).1.t ∧ (oneF d x s).1.t ≤ s.t ∧ s.e - cost x ≤ (oneF d x s).1.e ∧ (oneF d x s).1.e ≤ s.e
  | .out k, d, s => by
    have h := expF_bound k 1 s.e s.mn
    unfold oneF
    split
    · simp only [cost]; omega
    · simp only [outF, cost]; omega
  | .fin, d, s => by
    unfold oneF
    split <;> (simp only [cost]; omega)
  | .loop y, d, s => by
    have h := oneF_bound y (d + 1) ⟨s.t - 1, s.e, s.mn⟩
    unfold oneF
    split
    · simp only [cost]; omega
    · simp only [cost] at h ⊢; omega

theorem costs_mem {l : List Th} {x : Th} (h : x ∈ l) : cost x ≤ costs l := by
  induction l with
  | nil => cases h
  | cons y r ih =>
    rcases List.mem_cons.1 h with rfl | q
    · simp only [costs]; omega
    · have := ih q; simp only [costs]; omega


/-- A thing at a place of a list: what the round does. -/
theorem round_ok {F L : List PV} {z : Nat} {d lp : Int} {l : List Th} {i : Nat} {x : Th} {s : Cnt} {o : Out} (hg : l[i]? = some x) (hil : l.length ≤ 1000000)
    (ht : -1000000000 + cost x ≤ s.t) (ht' : s.t ≤ 1000000000) (he : -1000000000 + cost x ≤ s.e) (he' : s.e ≤ 1000000000) (hd : 0 ≤ d) (hd' : d + cost x ≤ 1000000000) (hlp : 0 ≤ lp) (hlp' : lp + cost x ≤ 1000000000) (hc : cost x ≤ 1000000)
    (inner : ∀ y, x = .loop y → ¬ (s.t - 1 < 0 ∨ d > 200) → Does Tryd.prog envM 14 [.mp 0 0, .p (.ps 1 6 (encT y)), sI .i64 (d + 1), sI .i64 (lp + 1), .mp 0 8] [chk F L z (s.t - 1) s.e s.mn] (.tup []) [chk F L z (oneF (d + 1) y ⟨s.t - 1, s.e, s.mn⟩).1.t (oneF (d + 1) y ⟨s.t - 1, s.e, s.mn⟩).1.e (oneF (d + 1) y ⟨s.t - 1, s.e, s.mn⟩).1.mn])
    (stop : (oneF d x s).2 = true → o = .ret (.tup []) [chk F L z (oneF d x s).1.t (oneF d x s).1.e (oneF d x s).1.mn])
    (next : (oneF d x s).2 = false → Am.Good Tryd.prog envM (bodyCfg Tryd.prog envM 14 0 [.mp 0 0, sI .i64 d, sI .i64 lp, .mp 0 8, .p (.ps l.length 6 (encTs l)), sI .i64 l.length, sI .i64 (i + 1 : Nat)] [chk F L z (oneF d x s).1.t (oneF d x s).1.e (oneF d x s).1.mn] 1 71) o) :
    Am.Good Tryd.prog envM (bodyCfg Tryd.prog envM 14 0 [.mp 0 0, sI .i64 d, sI .i64 lp, .mp 0 8, .p (.ps l.length 6 (encTs l)), sI .i64 l.length, sI .i64 i] [chk F L z s.t s.e s.mn] 1 71) o := by
  obtain ⟨t, e, mn⟩ := s
  dsimp only at *
  have hi : i < l.length := (List.getElem?_eq_some_iff.1 hg).1
  have hiI : (i : Int) < (l.length : Int) := by omega
  have c0 := encTs_at hg 0 (by omega)
  have c1 := encTs_at hg 1 (by omega)
  have c2 := encTs_at hg 2 (by omega)
  have c3 := encTs_at hg 3 (by omega)
  have c4 := encTs_at hg 4 (by omega)
  have c5 := encTs_at hg 5 (by omega)
  have hcp := cost_pos x
  have w1 : IntKind.i64.wrap (t - 1) = t - 1 := i64In (by omega) (by omega)
  have w2 : IntKind.i64.wrap ((i : Int) + 1) = ((i + 1 : Nat) : Int) := by rw [i64In (by omega) (by omega)]; rfl
  have w3 : IntKind.i64.wrap (d + 1) = d + 1 := i64In (by omega) (by omega)
  have w4 : IntKind.i64.wrap (lp + 1) = lp + 1 := i64In (by omega) (by omega)
  have hn : ∀ {p q : Prop} [Decidable p] [Decidable q], decide p = false → decide q = false → ¬ (p ∨ q) := fun h g k => k.elim (fun k => of_decide_eq_false h k) (fun k => of_decide_eq_false g k)
  cases x with
  | out k =>
    obtain ⟨kd, nn, zz, y, cs, q1, q2⟩ := encE_is k
    simp only [cost] at *
    have hd27 := out_does (F := F) (L := L) (z := z) (t := t - 1) (e := e) (lp := lp) (mn := mn) (k := k) (by omega) (by omega) (by omega)
    have q3 : aggT (.out k) = .agg [sI .i64 13, sI .i64 0, sI .i64 0, .p (.ps 1 3 [.sc (.int .i64 kd), .sc (.int .i64 nn), .ps zz y cs]), .p (.ps 0 0 []), .p (.ps 0 0 [])] := by simp only [aggT, q1]
    rw [q3] at hd27
    simp only [encT, q1, List.getD_cons_zero, List.getD_cons_succ, Nat.add_zero] at c0 c1 c2 c3 c4 c5
    refine good_of_tree names (bo_tree d lp F L z t e mn l.length (encTs l) i kd nn zz y cs (expF k 1 e mn).1 (expF k 1 e mn).2) ?_
    simp only [boTree, Tree.ok, Int.toNat_natCast, Nat.add_assoc, Nat.reduceAdd, c0, c1, c2, c3, c4, c5, isInt, isPs, pvInt, psLen, psSz, psCells, inB, w1, w2, w3]
    simp only [oneF] at stop next
    refine ⟨fun _ => ⟨by simp [hiI], by decide, trivial, fun h => ?_, fun h => ⟨fun g => ?_, fun g => ⟨hd27, nilL_does, trivial, ?_⟩⟩⟩, fun h => absurd hiI (by simpa using h)⟩
    · have k1 : t - 1 < 0 ∨ d > 200 := .inl (of_decide_eq_true h)
      rw [if_pos k1] at stop; exact (stop rfl).symm
    · have k1 : t - 1 < 0 ∨ d > 200 := .inr (of_decide_eq_true g)
      rw [if_pos k1] at stop; exact (stop rfl).symm
    · rw [if_neg (hn h g)] at next; exact next rfl
  | fin =>
    simp only [encT, List.getD_cons_zero, List.getD_cons_succ, Nat.add_zero] at c0 c1 c2 c3 c4 c5
    have hd27 := fin_does (F := F) (L := L) (z := z) (t := t - 1) (e := e) (lp := lp) (mn := mn)
    refine good_of_tree names (be_tree d lp F L z t e mn l.length (encTs l) i ()) ?_
    simp only [beTree, Tree.ok, Int.toNat_natCast, Nat.add_assoc, Nat.reduceAdd, c0, c1, c2, c3, c4, c5, isInt, isPs, pvInt, psLen, psSz, psCells, inB, w1, w2, w3]
    simp only [oneF] at stop next
    refine ⟨fun _ => ⟨by simp [hiI], by decide, trivial, fun h => ?_, fun h => ⟨fun g => ?_, fun g => ⟨hd27, nilL_does, trivial, ?_⟩⟩⟩, fun h => absurd hiI (by simpa using h)⟩
    · have k1 : t - 1 < 0 ∨ d > 200 := .inl (of_decide_eq_true h)
      rw [if_pos k1] at stop; exact (stop rfl).symm
    · have k1 : t - 1 < 0 ∨ d > 200 := .inr (of_decide_eq_true g)
      rw [if_pos k1] at stop; exact (stop rfl).symm
    · rw [if_neg (hn h g)] at next; exact next rfl
  | loop y =>
    simp only [encT, List.getD_cons_zero, List.getD_cons_succ, Nat.add_zero] at c0 c1 c2 c3 c4 c5
    have hd27 := loop_does (F := F) (L := L) (z := z) (t := t - 1) (e := e) (lp := lp) (mn := mn) (y := y)
    refine good_of_tree names (bl_tree d lp F L z t e mn l.length (encTs l) i (encT y) (oneF (d + 1) y ⟨t - 1, e, mn⟩).1.t (oneF (d + 1) y ⟨t - 1, e, mn⟩).1.e (oneF (d + 1) y ⟨t - 1, e, mn⟩).1.mn) ?_
    simp only [blTree, Tree.ok, Int.toNat_natCast, Nat.add_assoc, Nat.reduceAdd, c0, c1, c2, c3, c4, c5, isInt, isPs, pvInt, psLen, psSz, psCells, inB, w1, w2, w3, w4]
    rw [oneF] at stop next
    refine ⟨fun _ => ⟨by simp [hiI], by decide, trivial, fun h => ?_, fun h => ⟨fun g => ?_, fun g => ⟨hd27, inner y rfl (hn h g), trivial, ?_⟩⟩⟩, fun h => absurd hiI (by simpa using h)⟩
    · have k1 : t - 1 < 0 ∨ d > 200 := .inl (of_decide_eq_true h)
      rw [if_pos k1] at stop; exact (stop rfl).symm
    · have k1 : t - 1 < 0 ∨ d > 200 := .inr (of_decide_eq_true g)
      rw [if_pos k1] at stop; exact (stop rfl).symm
    · rw [if_neg (hn h g)] at next; exact next rfl

end Go.Proofs.YtiphaojaolcidaaDoor.N
