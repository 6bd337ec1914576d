/-
  Lists of numbers and of instructions in cells: what stands at a place; how many parts there are.
-/
import Derived.Test.YtjjloibfhgofcaaDoorInsA
import Derived.Test.YtjjloibfhgofcaaDoorAm22
namespace Go.Am

theorem encT_getD (k : IntKind) (l : List Int) (n : Nat) (h : n < l.length) : (encT k l).getD n .bad = .sc (.int k (l.getD n 0)) := by
  simp [encT, List.getD_eq_getElem?_getD, List.getElem?_eq_getElem h]

theorem encT_bad (k : IntKind) (l : List Int) (n : Nat) (h : l.length ≤ n) : (encT k l).getD n .bad = .bad := by
  simp [encT, List.getD_eq_getElem?_getD, List.getElem?_eq_none h]

@[simp] theorem pvInt_encT (k : IntKind) (l : List Int) (n : Nat) : pvInt ((encT k l).getD n .bad) = l.getD n 0 := by
  rcases Nat.lt_or_ge n l.length with h | h
  · rw [encT_getD k l n h]; rfl
  · rw [encT_bad k l n h]
    simp [List.getD_eq_getElem?_getD, List.getElem?_eq_none h]
    rfl

@[simp] theorem isInt_encT (k : IntKind) (l : List Int) (n : Nat) : isInt k ((encT k l).getD n .bad) = decide (n < l.length) := by
  rcases Nat.lt_or_ge n l.length with h | h
  · rw [encT_getD k l n h]; simp [isInt, h]
  · rw [encT_bad k l n h]; simp [isInt]; omega

theorem encT_inj {k : IntKind} : ∀ {l m : List Int}, encT k l = encT k m → l = m
  | [], [], _ => rfl
  | [], _ :: _, h => by simp [encT] at h
  | _ :: _, [], h => by simp [encT] at h
  | a :: l, b :: m, h => by
    simp only [encT, List.map_cons, List.cons.injEq, PV.sc.injEq, Value.int.injEq, true_and] at h
    rw [h.1, encT_inj (l := l) (m := m) h.2]

mutual
theorem encI_inj : ∀ {x y : Ins}, encI x = encI y → x = y
  | .mk op r a b n tags l e, .mk op' r' a' b' n' tags' l' e', h => by
    simp only [encI, List.cons.injEq, PV.sc.injEq, Value.int.injEq, PV.ps.injEq, true_and, and_true] at h
    obtain ⟨rfl, rfl, rfl, rfl, rfl, ⟨_, h5⟩, ⟨_, h6⟩, _, h7⟩ := h
    rw [encT_inj h5, encL_inj h6, encL_inj h7]
theorem encL_inj : ∀ {l m : List Ins}, encL l = encL m → l = m
  | [], [], _ => rfl
  | [], .mk .. :: _, h => by simp [encL, encI] at h
  | .mk .. :: _, [], h => by simp [encL, encI] at h
  | x :: l, y :: m, h => by
    simp only [encL] at h
    obtain ⟨h1, h2⟩ := List.append_inj h (by rw [encI_length, encI_length])
    rw [encI_inj h1, encL_inj h2]
end

/-- The cells of the instruction at a place. -/
theorem encL_getD : ∀ {l : List Ins} {k : Nat} {x : Ins}, l[k]? = some x → ∀ c, c < 8 → (encL l).getD (k * 8 + c) .bad = (encI x).getD c .bad
  | [], _, _, h, _, _ => by simp at h
  | y :: l, 0, x, h, c, hc => by
    simp only [List.getElem?_cons_zero, Option.some.injEq] at h; subst h
    rw [encL, Nat.zero_mul, Nat.zero_add, List.getD_eq_getElem?_getD, List.getD_eq_getElem?_getD, List.getElem?_append_left (by rw [encI_length]; exact hc)]
  | y :: l, k + 1, x, h, c, hc => by
    have ih := encL_getD (l := l) (k := k) (x := x) (by simpa using h) c hc
    rw [List.getD_eq_getElem?_getD] at ih
    rw [encL, List.getD_eq_getElem?_getD, List.getElem?_append_right (by rw [encI_length]; omega), encI_length, show (k + 1) * 8 + c - 8 = k * 8 + c by omega]
    exact ih

theorem encL_append : ∀ l m : List Ins, encL (l ++ m) = encL l ++ encL m
  | [], _ => rfl
  | x :: l, m => by rw [List.cons_append, encL, encL, encL_append l m, List.append_assoc]

theorem encL_one (x : Ins) : encL [x] = encI x := by simp [encL]

theorem wfL_mem : ∀ {l : List Ins} {x : Ins}, wfL l → x ∈ l → wfI x
  | _ :: _, _, h, .head _ => h.1
  | _ :: _, _, h, .tail _ hx => wfL_mem h.2 hx

mutual
/-- How many instructions and labels there are. -/
def cntI : Ins → Nat
  | .mk _ _ _ _ _ tags l e => 1 + tags.length + cntL l + cntL e
def cntL : List Ins → Nat
  | [] => 0
  | x :: r => cntI x + cntL r
end

theorem cntL_length : ∀ l : List Ins, l.length ≤ cntL l
  | [] => Nat.zero_le _
  | .mk _ _ _ _ _ t l e :: r => by have := cntL_length r; simp only [cntL, cntI, List.length_cons]; omega

theorem cntL_mem : ∀ {l : List Ins} {x : Ins}, x ∈ l → cntI x ≤ cntL l
  | y :: l, x, h => by
    simp only [cntL]
    cases h with
    | head => omega
    | tail _ h => have := cntL_mem h; omega

mutual
/-- How many 'Instrs' tells, from a number on: as far as they are no more than so many. -/
def insF : List Ins → Int → Int → Int
  | [], _, n => n
  | x :: r, most, n => if n ≤ most then insF r most (insX x most n) else n
def insX : Ins → Int → Int → Int
  | .mk _ _ _ _ _ tags l e, most, n =>
    let n1 := n + 1 + min (tags.length : Int) most
    let n2 := if n1 ≤ most then n1 + insF l (most - n1) 0 else n1
    if n2 ≤ most then n2 + insF e (most - n2) 0 else n2
end

mutual
theorem insX_range : ∀ (x : Ins) (most n : Int), 0 ≤ n → n ≤ most → n ≤ insX x most n ∧ insX x most n ≤ 2 * most + 1
  | .mk _ _ _ _ _ tags l e, most, n, h0, h => by
    simp only [insX]
    generalize hn1 : n + 1 + min (tags.length : Int) most = n1
    have h1 : n + 1 ≤ n1 ∧ n1 ≤ 2 * most + 1 := by omega
    generalize hn2 : (if n1 ≤ most then n1 + insF l (most - n1) 0 else n1) = n2
    have h2 : n1 ≤ n2 ∧ n2 ≤ 2 * most + 1 := by
      rw [← hn2]
      split
      · have := insF_range l (most - n1) 0 (by omega) (by omega) (by omega); omega
      · omega
    split
    · have := insF_range e (most - n2) 0 (by omega) (by omega) (by omega); omega
    · omega
theorem insF_range : ∀ (l : List Ins) (most n : Int), 0 ≤ most → 0 ≤ n → n ≤ 2 * most + 1 → n ≤ insF l most n ∧ insF l most n ≤ 2 * most + 1
  | [], most, n, _, _, h => by simp only [insF]; omega
  | x :: r, most, n, hm, h0, h => by
    simp only [insF]
    split
    · have h1 := insX_range x most n h0 (by omega)
      have h2 := insF_range r most (insX x most n) hm (by omega) (by omega)
      omega
    · omega
end

mutual
theorem insX_cnt : ∀ (x : Ins) (most n : Int), 0 ≤ n → n ≤ most → insX x most n ≤ most → insX x most n = n + cntI x
  | .mk _ _ _ _ _ tags l e, most, n, h0, h => by
    simp only [insX, cntI]
    generalize hn1 : n + 1 + min (tags.length : Int) most = n1
    generalize hn2 : (if n1 ≤ most then n1 + insF l (most - n1) 0 else n1) = n2
    intro h3
    have hle : n2 ≤ most := by
      split at h3
      · rename_i q; exact q
      · exact h3
    rw [if_pos hle] at h3 ⊢
    have hr2 := insF_range e (most - n2) 0 (by omega) (by omega) (by omega)
    have hle1 : n1 ≤ most := by
      rw [← hn2] at hle
      split at hle
      · rename_i q; exact q
      · exact hle
    rw [if_pos hle1] at hn2
    have hr1 := insF_range l (most - n1) 0 (by omega) (by omega) (by omega)
    have e1 := insF_cnt l (most - n1) 0 (by omega) (by omega) (by omega)
    have e2 := insF_cnt e (most - n2) 0 (by omega) (by omega) (by omega)
    have : min (tags.length : Int) most = tags.length := by omega
    push_cast
    omega
theorem insF_cnt : ∀ (l : List Ins) (most n : Int), 0 ≤ most → 0 ≤ n → insF l most n ≤ most → insF l most n = n + cntL l
  | [], most, n, _, _, h => by simp [insF, cntL]
  | x :: r, most, n, hm, h0, h => by
    simp only [insF, cntL] at h ⊢
    split at h
    · rename_i hn
      rw [if_pos hn]
      have hr := insX_range x most n h0 hn
      have hr2 := insF_range r most (insX x most n) hm (by omega) (by omega)
      have e1 := insX_cnt x most n h0 hn (by omega)
      have e2 := insF_cnt r most (insX x most n) hm (by omega) h
      push_cast
      omega
    · omega
end

end Go.Am
