/-
  Things in one another and behind one another: both counts tell the same.
-/
import Derived.Test.YtiphaojaolcidaaDoorLmG
set_option linter.unusedVariables false
set_option linter.unusedSimpArgs false
namespace Go.Proofs.YtiphaojaolcidaaDoor.N
open Go Go.Am

def nestT : Nat → Nat → Th
  | 0, k => .out k
  | j + 1, k => .loop (nestT j k)

def itemT (tr : Bool) : Th := if tr then .out 0 else .fin

theorem exp_ok : ∀ (k : Nat) (d e : Int) (mn : Bool), d + k ≤ 200 → k + 1 ≤ e → expF k d e mn = (e - (k + 1), mn)
  | 0, d, e, mn, h, h' => by
    unfold expF
    rw [if_neg (by omega)]
    congr 1
  | k + 1, d, e, mn, h, h' => by
    unfold expF
    rw [if_neg (by omega), exp_ok k (d + 1) (e - 1) mn (by omega) (by omega)]
    congr 1
    omega

theorem exp_bad : ∀ (k : Nat) (d e : Int) (mn : Bool), d + k > 200 → (expF k d e mn).2 = true
  | 0, d, e, mn, h => by
    unfold expF
    rw [if_pos (by omega)]
  | k + 1, d, e, mn, h => by
    unfold expF
    split
    · rfl
    · exact exp_bad k (d + 1) (e - 1) mn (by omega)

theorem exp_mono : ∀ (k : Nat) (d e : Int), (expF k d e true).2 = true
  | 0, d, e => by unfold expF; split <;> rfl
  | k + 1, d, e => by
    unfold expF
    split
    · rfl
    · exact exp_mono k (d + 1) (e - 1)

theorem one_ok : ∀ (j k : Nat) (d : Int) (s : Cnt), d + j ≤ 200 → k + 1 ≤ 200 → j + 1 ≤ s.t → k + 1 ≤ s.e → oneF d (nestT j k) s = (⟨s.t - (j + 1), s.e - (k + 1), s.mn⟩, false)
  | 0, k, d, s, h1, h2, h3, h4 => by
    rw [nestT, oneF, if_neg (by omega)]
    rw [exp_ok k 1 s.e s.mn (by omega) h4]
    simp only [outF]
    congr 2
  | j + 1, k, d, s, h1, h2, h3, h4 => by
    rw [nestT, oneF, if_neg (by omega)]
    rw [one_ok j k (d + 1) ⟨s.t - 1, s.e, s.mn⟩ (by omega) h2 (by dsimp only; omega) h4]
    dsimp only
    congr 2
    omega

theorem one_bad : ∀ (j k : Nat) (d : Int) (s : Cnt), d + j > 200 ∨ k + 1 > 200 → (oneF d (nestT j k) s).1.mn = true
  | 0, k, d, s, h => by
    rw [nestT, oneF]
    split
    · rfl
    · exact exp_bad k 1 s.e s.mn (by omega)
  | j + 1, k, d, s, h => by
    rw [nestT, oneF]
    split
    · rfl
    · exact one_bad j k (d + 1) _ (by omega)

theorem one_mono : ∀ (x : Th) (d : Int) (s : Cnt), s.mn = true → (oneF d x s).1.mn = true
  | .out k, d, s, h => by
    unfold oneF
    split
    · rfl
    · dsimp only [outF]; rw [h]; exact exp_mono k 1 s.e
  | .fin, d, s, h => by
    unfold oneF
    split
    · rfl
    · exact h
  | .loop y, d, s, h => by
    unfold oneF
    split
    · rfl
    · dsimp only; exact one_mono y (d + 1) _ h

theorem list_mono (d : Int) : ∀ (l : List Th) (s : Cnt), s.mn = true → (listF d l s).mn = true
  | [], _, h => h
  | x :: r, s, h => by
    have hx := one_mono x d s h
    cases hb : (oneF d x s).2 with
    | true => rw [listF_stop hb]; exact hx
    | false => rw [listF_next hb]; exact list_mono d r _ hx

theorem fin_list : ∀ (m : Nat) (s : Cnt), 0 ≤ s.t → ((listF 1 (List.replicate m .fin) s).mn = true ↔ s.mn = true ∨ s.t < m)
  | 0, s, h => by
    show s.mn = true ↔ _
    constructor
    · exact .inl
    · rintro (h' | h')
      · exact h'
      · omega
  | m + 1, s, h => by
    rw [List.replicate_succ]
    by_cases h0 : s.t - 1 < 0
    · have e : oneF 1 .fin s = (⟨s.t - 1, s.e, true⟩, true) := by unfold oneF; rw [if_pos (.inl h0)]
      rw [listF_stop (by rw [e]), e]
      exact ⟨fun _ => .inr (by omega), fun _ => rfl⟩
    · have e : oneF 1 .fin s = (⟨s.t - 1, s.e, s.mn⟩, false) := by unfold oneF; rw [if_neg (by omega)]
      rw [listF_next (by rw [e]), e, fin_list m _ (by dsimp only; omega)]
      dsimp only
      constructor
      · rintro (h' | h')
        · exact .inl h'
        · exact .inr (by omega)
      · rintro (h' | h')
        · exact .inl h'
        · exact .inr (by omega)

theorem out_list : ∀ (m : Nat) (s : Cnt), 0 ≤ s.t → 0 ≤ s.e ∨ s.mn = true → ((listF 1 (List.replicate m (.out 0)) s).mn = true ↔ s.mn = true ∨ s.t < m ∨ s.e < m)
  | 0, s, h, he => by
    show s.mn = true ↔ _
    constructor
    · exact .inl
    · rintro (h' | h' | h')
      · exact h'
      · omega
      · rcases he with he | he
        · omega
        · exact he
  | m + 1, s, h, he => by
    rw [List.replicate_succ]
    by_cases hm : s.mn = true
    · exact ⟨fun _ => .inl hm, fun _ => list_mono 1 (.out 0 :: List.replicate m (.out 0)) s hm⟩
    have he : 0 ≤ s.e := he.resolve_right hm
    by_cases h0 : s.t - 1 < 0
    · have e : oneF 1 (.out 0) s = (⟨s.t - 1, s.e, true⟩, true) := by unfold oneF; rw [if_pos (.inl h0)]
      rw [listF_stop (by rw [e]), e]
      exact ⟨fun _ => .inr (.inl (by omega)), fun _ => rfl⟩
    · by_cases h1 : s.e - 1 < 0
      · have e : oneF 1 (.out 0) s = (⟨s.t - 1, s.e - 1, true⟩, false) := by
          have e0 : expF 0 1 s.e s.mn = (s.e - 1, true) := by unfold expF; rw [if_pos (.inl h1)]
          unfold oneF
          rw [if_neg (by omega)]
          show (outF (s.t - 1) (expF 0 1 s.e s.mn), false) = _
          rw [e0]; rfl
        rw [listF_next (by rw [e]), e]
        exact ⟨fun _ => .inr (.inr (by omega)), fun _ => list_mono 1 _ _ rfl⟩
      · have e : oneF 1 (.out 0) s = (⟨s.t - 1, s.e - 1, s.mn⟩, false) := by
          have e0 : expF 0 1 s.e s.mn = (s.e - 1, s.mn) := by unfold expF; rw [if_neg (by omega)]
          unfold oneF
          rw [if_neg (by omega)]
          show (outF (s.t - 1) (expF 0 1 s.e s.mn), false) = _
          rw [e0]; rfl
        rw [listF_next (by rw [e]), e, out_list m _ (by dsimp only; omega) (.inl (by dsimp only; omega))]
        dsimp only
        constructor
        · rintro (h' | h' | h')
          · exact .inl h'
          · exact .inr (.inl (by omega))
          · exact .inr (.inr (by omega))
        · rintro (h' | h' | h')
          · exact .inl h'
          · exact .inr (.inl (by omega))
          · exact .inr (.inr (by omega))

theorem in_nest : ∀ j k : Nat, inT (nestT j k) = j
  | 0, _ => rfl
  | j + 1, k => by rw [nestT, inT, in_nest j k, Nat.add_comm]

theorem all_nest : ∀ j k : Nat, allT (nestT j k) = [k]
  | 0, _ => rfl
  | j + 1, k => by rw [nestT, allT, all_nest j k]

theorem rep_sum (tr : Bool) : ∀ m : Nat, sumIn (List.replicate m (itemT tr)) = 0 ∧ maxIn (List.replicate m (itemT tr)) ≤ 1 ∧ allL (List.replicate m (itemT tr)) = if tr then List.replicate m 0 else []
  | 0 => by cases tr <;> exact ⟨rfl, by decide, rfl⟩
  | m + 1 => by
    obtain ⟨h1, h2, h3⟩ := rep_sum tr m
    rw [List.replicate_succ]
    cases tr with
    | true => exact ⟨by simp only [sumIn, h1]; rfl, by simp only [maxIn, itemT, inT, if_true]; exact Nat.max_le.2 ⟨Nat.le_refl _, h2⟩, by show allT (itemT true) ++ allL (List.replicate m (itemT true)) = _; rw [h3]; rfl⟩
    | false => exact ⟨by simp only [sumIn, h1]; rfl, by simp only [maxIn, itemT, inT]; exact Nat.max_le.2 ⟨Nat.le_refl _, h2⟩, by show allT (itemT false) ++ allL (List.replicate m (itemT false)) = _; rw [h3]; rfl⟩

theorem rep_e : ∀ m : Nat, sumE (List.replicate m 0) = 0 ∧ maxE (List.replicate m 0) ≤ 1
  | 0 => ⟨rfl, Nat.zero_le _⟩
  | m + 1 => by
    obtain ⟨h1, h2⟩ := rep_e m
    rw [List.replicate_succ]
    exact ⟨by simp only [sumE, h1], by simp only [maxE]; exact Nat.max_le.2 ⟨Nat.le_refl _, h2⟩⟩

theorem same_count (j k m : Nat) (tr : Bool) (hj : j ≤ 300) (hk : k ≤ 300) :
    (listF 1 (nestT j k :: List.replicate m (itemT tr)) ⟨32768, 32768, false⟩).mn = true ↔ tooMany (nestT j k :: List.replicate m (itemT tr)) := by
  obtain ⟨r1, r2, r3⟩ := rep_sum tr m
  obtain ⟨s1, s2⟩ := rep_e m
  have tm : tooMany (nestT j k :: List.replicate m (itemT tr)) ↔ m + 1 + j > 32768 ∨ j + 1 > 200 ∨ (if tr then m + 1 + k else k + 1) > 32768 ∨ k + 1 > 200 := by
    unfold tooMany
    simp only [sumIn, maxIn, allL, in_nest, all_nest, List.length_cons, List.length_replicate, r1, r3]
    have a1 : max (1 + j) (maxIn (List.replicate m (itemT tr))) = j + 1 := by rw [Nat.max_eq_left (by omega)]; omega
    rw [a1]
    cases tr with
    | true =>
      simp only [if_true, List.cons_append, List.nil_append, List.length_cons, List.length_replicate, sumE, maxE, s1]
      have a2 : max (k + 1) (maxE (List.replicate m 0)) = k + 1 := Nat.max_eq_left (by omega)
      rw [a2]
      omega
    | false =>
      simp only [Bool.false_eq_true, if_false, List.append_nil, List.length_cons, List.length_nil, sumE, maxE, Nat.max_zero]
      omega
  rw [tm]
  by_cases hbad : 1 + (j : Int) > 200 ∨ k + 1 > 200
  · have h := one_bad j k 1 ⟨32768, 32768, false⟩ hbad
    have hl : (listF 1 (nestT j k :: List.replicate m (itemT tr)) ⟨32768, 32768, false⟩).mn = true := by
      cases hb : (oneF 1 (nestT j k) ⟨32768, 32768, false⟩).2 with
      | true => rw [listF_stop hb]; exact h
      | false => rw [listF_next hb]; exact list_mono 1 _ _ h
    exact ⟨fun _ => by omega, fun _ => hl⟩
  · have e := one_ok j k 1 ⟨32768, 32768, false⟩ (by omega) (by omega) (by dsimp only; omega) (by dsimp only; omega)
    rw [listF_next (by rw [e]), e]
    cases tr with
    | true =>
      rw [show itemT true = .out 0 from rfl, out_list m _ (by dsimp only; omega) (.inl (by dsimp only; omega))]
      simp only [Bool.false_eq_true, false_or, if_true]
      omega
    | false =>
      rw [show itemT false = .fin from rfl, fin_list m _ (by dsimp only; omega)]
      simp only [Bool.false_eq_true, false_or, if_false]
      omega

end Go.Proofs.YtiphaojaolcidaaDoor.N
