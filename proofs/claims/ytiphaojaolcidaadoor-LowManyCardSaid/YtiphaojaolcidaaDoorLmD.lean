/-
  The program's checker: what it counts of any list of such things.
-/
import Derived.Test.YtiphaojaolcidaaDoorLmC
set_option linter.unusedVariables false
set_option linter.unusedSimpArgs false
namespace Go.Proofs.YtiphaojaolcidaaDoor.N
open Go Go.Am

theorem listF_stop {d : Int} {x : Th} {r : List Th} {s : Cnt} (h : (oneF d x s).2 = true) : listF d (x :: r) s = (oneF d x s).1 := by
  unfold listF
  split
  · rename_i e; rw [e]
  · rename_i e; rw [e] at h; cases h

theorem listF_next {d : Int} {x : Th} {r : List Th} {s : Cnt} (h : (oneF d x s).2 = false) : listF d (x :: r) s = listF d r (oneF d x s).1 := by
  rw [listF]
  split
  · rename_i e; rw [e] at h; cases h
  · rename_i e; rw [e]

theorem listF_one (d : Int) (x : Th) (s : Cnt) : listF d [x] s = (oneF d x s).1 := by
  cases h : (oneF d x s).2 with
  | true => exact listF_stop h
  | false => rw [listF_next h]; rfl

theorem costs_drop {l : List Th} {i : Nat} {x : Th} (h : l[i]? = some x) : costs (l.drop i) = cost x + costs (l.drop (i + 1)) ∧ l.drop i = x :: l.drop (i + 1) := by
  obtain ⟨hi, e⟩ := List.getElem?_eq_some_iff.1 h
  have : l.drop i = x :: l.drop (i + 1) := by rw [List.drop_eq_getElem_cons hi, e]
  exact ⟨by rw [this]; rfl, this⟩

theorem list_loop {F L : List PV} {z : Nat} {d lp : Int} {l : List Th} (N : Nat) (hN : costs l ≤ N) (hil : l.length ≤ 1000000) (hc : ∀ x ∈ l, cost x ≤ 1000000)
    (hd : 0 ≤ d) (hd' : d + N ≤ 1000000000) (hlp : 0 ≤ lp) (hlp' : lp + N ≤ 1000000000)
    (inner : ∀ y, Th.loop y ∈ l → ∀ s : Cnt, -1000000000 + cost y ≤ s.t → s.t ≤ 1000000000 → -1000000000 + cost y ≤ s.e → s.e ≤ 1000000000 → Does Tryd.prog envM 14 [.mp 0 0, .p (.ps 1 6 (encT y)), sI .i64 (d + 1), sI .i64 (lp + 1), .mp 0 8] [chk F L z s.t s.e s.mn] (.tup []) [chk F L z (oneF (d + 1) y s).1.t (oneF (d + 1) y s).1.e (oneF (d + 1) y s).1.mn]) :
    ∀ (r i : Nat) (s : Cnt), i + r = l.length → -1000000000 + costs (l.drop i) ≤ s.t → s.t ≤ 1000000000 → -1000000000 + costs (l.drop i) ≤ s.e → s.e ≤ 1000000000 →
      Am.Good Tryd.prog envM (bodyCfg Tryd.prog envM 14 0 [.mp 0 0, sI .i64 d, sI .i64 lp, .mp 0 8, .p (.ps l.length 6 (encTs l)), sI .i64 l.length, sI .i64 i] [chk F L z s.t s.e s.mn] 1 71) (.ret (.tup []) [chk F L z (listF d (l.drop i) s).t (listF d (l.drop i) s).e (listF d (l.drop i) s).mn]) := by
  intro r
  induction r with
  | zero =>
    intro i s hr _ _ _ _
    have hiI : ¬ (i : Int) < (l.length : Int) := by omega
    rw [List.drop_eq_nil_of_le (by omega)]
    refine good_of_tree names (be_tree d lp F L z s.t s.e s.mn l.length (encTs l) i ()) ?_
    simp only [beTree, Tree.ok]
    exact ⟨fun h => absurd (by simpa using h) hiI, fun _ => rfl⟩
  | succ r ih =>
    intro i s hr ht ht' he he'
    obtain ⟨x, hg⟩ : ∃ x, l[i]? = some x := ⟨l[i]'(by omega), List.getElem?_eq_getElem (by omega)⟩
    have hm := List.mem_of_getElem? hg
    have hcx := hc x hm
    have hcm := costs_mem hm
    obtain ⟨q1, q2⟩ := costs_drop hg
    have hb := oneF_bound x d s
    rw [q1] at ht he
    rw [q2]
    refine round_ok hg hil (by omega) ht' (by omega) he' hd (by omega) hlp (by omega) hcx (fun y hy _ => ?_) (fun h => ?_) (fun h => ?_)
    · subst hy
      simp only [cost] at *
      exact inner y hm ⟨s.t - 1, s.e, s.mn⟩ (by dsimp only; omega) (by dsimp only; omega) (by dsimp only; omega) (by dsimp only; omega)
    · rw [listF_stop h]
    · rw [listF_next h]
      exact ih (i + 1) _ (by omega) (by omega) (by omega) (by omega) (by omega)

theorem list_does {F L : List PV} {z : Nat} : ∀ (N : Nat) (l : List Th) (d lp : Int) (s : Cnt), costs l ≤ N → l.length ≤ 1000000 → (∀ x ∈ l, cost x ≤ 1000000) → 0 ≤ d → d + N ≤ 1000000000 → 0 ≤ lp → lp + N ≤ 1000000000 →
    -1000000000 + costs l ≤ s.t → s.t ≤ 1000000000 → -1000000000 + costs l ≤ s.e → s.e ≤ 1000000000 →
    Does Tryd.prog envM 14 [.mp 0 0, .p (.ps l.length 6 (encTs l)), sI .i64 d, sI .i64 lp, .mp 0 8] [chk F L z s.t s.e s.mn] (.tup []) [chk F L z (listF d l s).t (listF d l s).e (listF d l s).mn]
  | N, l, d, lp, s, hN, hil, hc, hd, hd', hlp, hlp', ht, ht', he, he' => by
    refine does_of_tree names (li_tree d lp F L z s.t s.e s.mn l.length (encTs l) 0) ?_
    have h := list_loop (F := F) (L := L) (z := z) (d := d) (lp := lp) N hN hil hc hd hd' hlp hlp' (fun y hy s' k1 k2 k3 k4 => ?_) l.length 0 s (by omega) (by simpa using ht) ht' (by simpa using he) he'
    · exact h
    · have hcy := costs_mem hy
      have hc1 := hc _ hy
      simp only [cost] at hcy hc1
      match N, hN with
      | 0, hN => omega
      | N + 1, hN =>
        have := list_does (F := F) (L := L) (z := z) N [y] (d + 1) (lp + 1) s' (by simp only [costs]; omega) (by simp) (fun x hx => by
          obtain rfl := List.mem_singleton.1 hx
          omega) (by omega) (by omega) (by omega) (by omega) (by simp only [costs]; omega) k2 (by simp only [costs]; omega) k4
        rw [listF_one] at this
        simp only [encTs, List.append_nil] at this
        exact this

end Go.Proofs.YtiphaojaolcidaaDoor.N
