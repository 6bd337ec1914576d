/-
  Blocks that are lent to a call, and come back.
-/
import Derived.Test.YtiphaojaolcidaaDoorAm13
namespace Go.Am
open Go.RowKit

theorem allLt_mem : ∀ {l : List Nat} {n : Nat}, allLt l n = true → ∀ i ∈ l, i < n
  | [], _, _, _, h => by cases h
  | j :: l, n, h, i, hi => by
    simp only [allLt, Bool.and_eq_true] at h
    cases hi with
    | head => simpa [Nat.blt_eq] using h.1
    | tail _ hi => exact allLt_mem h.2 i hi

theorem backMem_get (ρ : Nat → Option Nat) : ∀ (ord : List Nat) (m1 m : Mem), ord.Nodup → (∀ i ∈ ord, i < m.length) → ord.length ≤ m1.length → ∀ (i : Nat) (b : Blk), (backMem ρ ord m1 m)[i]? = some b →
    (i < m.length ∧ i ∉ ord ∧ m[i]? = some b) ∨ (∃ (k : Nat) (b1 : Blk), ord[k]? = some i ∧ m1[k]? = some b1 ∧ b = renB ρ b1) ∨ (m.length ≤ i ∧ ∃ b1 : Blk, m1[ord.length + (i - m.length)]? = some b1 ∧ b = renB ρ b1)
  | [], m1, m, _, _, _, i, b, h => by
    simp only [backMem, List.getElem?_append] at h
    by_cases hi : i < m.length
    · rw [if_pos hi] at h; exact .inl ⟨hi, by simp, h⟩
    · rw [if_neg hi, List.getElem?_map, Option.map_eq_some_iff] at h
      obtain ⟨b1, h1, h2⟩ := h
      exact .inr (.inr ⟨by omega, b1, by simpa using h1, h2.symm⟩)
  | j :: ord, [], m, _, _, hl, _, _, _ => by simp at hl
  | j :: ord, b0 :: m1, m, hnd, hlt, hl, i, b, h => by
    simp only [backMem] at h
    have hnd' := List.nodup_cons.1 hnd
    rcases backMem_get ρ ord m1 (m.set j (renB ρ b0)) hnd'.2 (fun i hi => by simpa using hlt i (.tail _ hi)) (by simpa using hl) i b h with ⟨h1, h2, h3⟩ | ⟨k, b1, h1, h2, h3⟩ | ⟨h1, b1, h2, h3⟩
    · rw [List.length_set] at h1
      rcases get_set h3 with ⟨rfl, e⟩ | ⟨hne, e⟩
      · exact .inr (.inl ⟨0, b0, rfl, rfl, e⟩)
      · exact .inl ⟨h1, fun hm => by cases hm with
          | head => exact hne rfl
          | tail _ hm => exact h2 hm, e⟩
    · exact .inr (.inl ⟨k + 1, b1, h1, h2, h3⟩)
    · rw [List.length_set] at h1 h2
      exact .inr (.inr ⟨h1, b1, by rw [show (j :: ord).length + (i - m.length) = (ord.length + (i - m.length)) + 1 by simp; omega]; exact h2, h3⟩)

theorem backMem_length (ρ : Nat → Option Nat) : ∀ (ord : List Nat) (m1 m : Mem), ord.length ≤ m1.length → (backMem ρ ord m1 m).length = m.length + (m1.length - ord.length)
  | [], m1, m, _ => by simp [backMem]
  | _ :: _, [], _, h => by simp at h
  | j :: ord, b :: m1, m, h => by
    simp only [backMem]
    rw [backMem_length ρ ord m1 _ (by simpa using h)]
    simp

theorem idx_of_get : ∀ {ord : List Nat} {k i : Nat}, ord.Nodup → ord[k]? = some i → idx ord i = some k
  | [], _, _, _, h => by simp at h
  | j :: ord, 0, i, _, h => by
    simp only [List.getElem?_cons_zero, Option.some.injEq] at h; subst h
    simp [idx, Nat.beq_refl]
  | j :: ord, k + 1, i, hnd, h => by
    have hnd' := List.nodup_cons.1 hnd
    simp only [List.getElem?_cons_succ] at h
    have hne : Nat.beq i j = false := by
      rw [Bool.eq_false_iff]; intro e
      have := Nat.eq_of_beq_eq_true e
      subst this
      exact hnd'.1 (List.mem_of_getElem? h)
    simp [idx, hne, idx_of_get hnd'.2 h]

theorem idx_none {ord : List Nat} {i : Nat} (h : i ∉ ord) : idx ord i = none := by
  cases hq : idx ord i with
  | none => rfl
  | some k => exact absurd (List.mem_of_getElem? (idx_get hq)) h

/-- What is where behind a call: 'g' of the caller's, 'g1' of the call's, behind it. -/
def Gh.back (g g1 : Gh) (ord : List Nat) (n : Nat) : Gh where
  blk i := match idx ord i with | some k => g1.blk k | none => if i < n then g.blk i else g1.blk (ord.length + (i - n))
  lo i := match idx ord i with | some k => g1.lo k | none => if i < n then g.lo i else g1.lo (ord.length + (i - n))
  hi i := match idx ord i with | some k => g1.hi k | none => if i < n then g.hi i else g1.hi (ord.length + (i - n))
  pure := g1.pure

def Fixed (g g' : Gh) (n : Nat) : Prop := ∀ k c, k < n → g.blk k = some c → g'.blk k = some c ∧ g'.lo k = g.lo k ∧ g'.hi k = g.hi k

theorem Fixed.refl (g : Gh) (n : Nat) : Fixed g g n := fun _ _ _ h => ⟨h, rfl, rfl⟩
theorem Fixed.trans {g g' g'' : Gh} {n : Nat} (h : Fixed g g' n) (k : Fixed g' g'' n) : Fixed g g'' n := fun i c hi hc =>
  let ⟨h1, h2, h3⟩ := h i c hi hc
  let ⟨k1, k2, k3⟩ := k i c hi h1
  ⟨k1, k2.trans h2, k3.trans h3⟩
theorem Fixed.ofExt {g g' : Gh} {w w' : World} (h : Ext g w g' w') (n : Nat) : Fixed g g' n := fun i c _ hc => h.blk i c hc

theorem Rel.back {g g1' : Gh} {m m1' : Mem} {w w' : World} (h : Rel g m w) {ord : List Nat} (hnd : ord.Nodup) (hlt : ∀ i ∈ ord, i < m.length)
    (h1 : Rel g1' m1' w') (hs : Stp (g.pack ord) (Am.pack m ord) w g1' m1' w') (hf : Fixed (g.pack ord) g1' ord.length) (hl : ord.length ≤ m1'.length) :
    Rel (g.back g1' ord m.length) (backMem (backIdx ord m.length) ord m1' m) w' ∧ Ext g w (g.back g1' ord m.length) w' ∧ Stp g m w (g.back g1' ord m.length) (backMem (backIdx ord m.length) ord m1' m) w' ∧
      Renames (backIdx ord m.length) g1' (g.back g1' ord m.length) := by
  obtain ⟨hp1, hp2⟩ := h.pack hnd
  have lentA : ∀ k i, ord[k]? = some i → i < m.length ∧ k < ord.length ∧ (g.back g1' ord m.length).blk i = g1'.blk k ∧ (g.back g1' ord m.length).lo i = g1'.lo k ∧ (g.back g1' ord m.length).hi i = g1'.hi k := by
    intro k i hk
    have hx := idx_of_get hnd hk
    exact ⟨hlt i (List.mem_of_getElem? hk), lt_of_get hk, by simp only [Gh.back, hx], by simp only [Gh.back, hx], by simp only [Gh.back, hx]⟩
  have ownB : ∀ i, i ∉ ord → i < m.length → (g.back g1' ord m.length).blk i = g.blk i ∧ (g.back g1' ord m.length).lo i = g.lo i ∧ (g.back g1' ord m.length).hi i = g.hi i := by
    intro i hi hlt
    have hx := idx_none hi
    simp only [Gh.back, hx, hlt, if_true, and_self]
  have newC : ∀ i, m.length ≤ i → (g.back g1' ord m.length).blk i = g1'.blk (ord.length + (i - m.length)) ∧ (g.back g1' ord m.length).lo i = g1'.lo (ord.length + (i - m.length)) ∧ (g.back g1' ord m.length).hi i = g1'.hi (ord.length + (i - m.length)) := by
    intro i hi
    have hx := idx_none (ord := ord) (i := i) fun hm => by have := hlt i hm; omega
    simp only [Gh.back, hx, Nat.not_lt.2 hi, if_false, and_self]
  have hren : Renames (backIdx ord m.length) g1' (g.back g1' ord m.length) := by
    refine ⟨fun j k hj => ?_, rfl⟩
    unfold backIdx at hj
    cases ho : ord[j]? with
    | some i =>
      simp only [ho, Option.some.injEq] at hj; subst hj
      exact (lentA j i ho).2.2
    | none =>
      simp only [ho, Option.some.injEq] at hj; subst hj
      have : ord.length ≤ j := List.getElem?_eq_none_iff.1 ho
      have e : ord.length + (m.length + (j - ord.length) - m.length) = j := by omega
      have := newC (m.length + (j - ord.length)) (by omega)
      rwa [e] at this
  have hext : Ext g w (g.back g1' ord m.length) w' := by
    refine ⟨fun i c hc => ?_, fun c o p => hs.pure c o p⟩
    have hi : i < m.length := by
      rcases Nat.lt_or_ge i m.length with q | q
      · exact q
      · rw [h.far i q] at hc; cases hc
    by_cases hm : i ∈ ord
    · obtain ⟨k, hk1, hk2⟩ := List.getElem_of_mem hm
      have hk : ord[k]? = some i := by rw [List.getElem?_eq_getElem hk1, hk2]
      obtain ⟨_, _, e1, e2, e3⟩ := lentA k i hk
      obtain ⟨f1, f2, f3⟩ := hf k c hk1 (by simpa [Gh.pack, hk] using hc)
      rw [e1, e2, e3, f1, f2, f3]
      simp [Gh.pack, hk]
    · obtain ⟨e1, e2, e3⟩ := ownB i hm hi
      exact ⟨e1.trans hc, e2, e3⟩
  have notOwned : ∀ i b c, i ∉ ord → m[i]? = some b → b.owns = true → g.blk i = some c → ¬ Owned (g.pack ord) (Am.pack m ord) c := by
    intro i b c hi hb ho hc hO
    obtain ⟨k, b', hk, ho', hc'⟩ := hO
    obtain ⟨i', q1, rfl⟩ := pack_get hk
    rw [renB_owns] at ho'
    have hc' : g.blk i' = some c := by simpa [Gh.pack, q1] using hc'
    have := h.inj i i' _ _ c hb (getD_owns ho') ho ho' hc hc'
    subst this
    exact hi (List.mem_of_getElem? q1)
  have notPure : ∀ i b c, i ∉ ord → m[i]? = some b → b.owns = true → g.blk i = some c → ∀ o, g1'.pure c o → g.pure c o := by
    intro i b c hi hb ho hc o p
    rcases hs.fresh c o p with q | q | q
    · exact q
    · exact absurd q (notOwned i b c hi hb ho hc)
    · exact absurd (h.owned_lt ⟨i, b, hb, ho, hc⟩) (Nat.not_lt.2 q)
  have get := backMem_get (backIdx ord m.length) ord m1' m hnd hlt hl
  have own2 : ∀ i b c, (backMem (backIdx ord m.length) ord m1' m)[i]? = some b → b.owns = true → (g.back g1' ord m.length).blk i = some c →
      (i ∉ ord ∧ m[i]? = some b ∧ g.blk i = some c) ∨ (∃ k b1, backIdx ord m.length k = some i ∧ m1'[k]? = some b1 ∧ b1.owns = true ∧ g1'.blk k = some c) := by
    intro i b c hi ho hc
    rcases get i b hi with ⟨q1, q2, q3⟩ | ⟨k, b1, q1, q2, rfl⟩ | ⟨q1, b1, q2, rfl⟩
    · exact .inl ⟨q2, q3, by rw [(ownB i q2 q1).1] at hc; exact hc⟩
    · rw [renB_owns] at ho
      exact .inr ⟨k, b1, by simp [backIdx, q1], q2, ho, by rw [(lentA k i q1).2.2.1] at hc; exact hc⟩
    · rw [renB_owns] at ho
      rw [(newC i q1).1] at hc
      have hn : ord[ord.length + (i - m.length)]? = none := List.getElem?_eq_none (by omega)
      refine .inr ⟨_, b1, ?_, q2, ho, hc⟩
      simp only [backIdx, hn, Option.some.injEq]; omega
  refine ⟨⟨fun i hi => ?_, fun i hi => ?_, fun i b l hi hb => ?_, fun i c hi hc => ?_, fun i j b b' c hi hj ho ho' hc hc' => ?_, h1.there, fun i ob l hi => ?_⟩, hext, ⟨hs.size, fun c hc hn => hs.keep c hc fun ho => hn (hp2 c ho), hs.pure, fun c o p => ?_, fun c ho => ?_, hs.os, hs.tape, hs.output⟩, hren⟩
  · rw [backMem_length _ _ _ _ hl] at hi
    rw [(newC i (by omega)).1]
    exact h1.far _ (by omega)
  · rcases get i _ hi with ⟨q1, q0, q3⟩ | ⟨k, b1, q1, q2, q3⟩ | ⟨q1, b1, q2, q3⟩
    · rw [(ownB i q0 q1).1]; exact h.free i q3
    · have q3 := renB_free q3.symm
      subst q3
      rw [(lentA k i q1).2.2.1]; exact h1.free k q2
    · have q3 := renB_free q3.symm
      subst q3
      rw [(newC i q1).1]; exact h1.free _ q2
  · have back : ∀ k b1, backIdx ord m.length k = some i → m1'[k]? = some b1 → b = renB (backIdx ord m.length) b1 →
        ∃ c cs e n, (g.back g1' ord m.length).blk i = some c ∧ w'.heap[c]? = some (.cells cs e n) ∧ n.2 ≤ n.1 ∧ CAs (g.back g1' ord m.length) w' l cs.toList ∧ ∀ o, ¬ (g.back g1' ord m.length).pure c o := by
      rintro k b1 hk hb1 rfl
      obtain ⟨l0, q, rfl⟩ := renB_cells hb
      obtain ⟨c, cs, e, n, k1, k2, k3, k4, k5⟩ := h1.cells k b1 l0 hb1 q
      exact ⟨c, cs, e, n, (hren.at' k i hk).1.trans k1, k2, k3, ⟨k4.1.ren hren, k4.2⟩, k5⟩
    rcases get i _ hi with ⟨q1, q2, q3⟩ | ⟨k, b1, q1, q2, q3⟩ | ⟨q1, b1, q2, q3⟩
    · obtain ⟨c, cs, e, n, k1, k2, k3, k4, k5⟩ := h.cells i b l q3 hb
      have ho := owns_of_cells hb
      exact ⟨c, cs, e, n, (ownB i q2 q1).1.trans k1, (hs.keep c (lt_of_heap k2) (notOwned i b c q2 q3 ho k1)).trans k2, k3, k4.mono hext, fun o p => k5 o (notPure i b c q2 q3 ho k1 o p)⟩
    · exact back k b1 (by simp [backIdx, q1]) q2 q3
    · have hn : ord[ord.length + (i - m.length)]? = none := List.getElem?_eq_none (by omega)
      exact back _ b1 (by simp only [backIdx, hn, Option.some.injEq]; omega) q2 q3
  · have back : ∀ k b1, backIdx ord m.length k = some i → m1'[k]? = some b1 → Blk.tok = renB (backIdx ord m.length) b1 →
        ∃ cs e n, w'.heap[c]? = some (.cells cs e n) ∧ (g.back g1' ord m.length).hi i ≤ cs.size ∧ (n.2 ≤ n.1 ∨ (g.back g1' ord m.length).hi i ≤ n.1) ∧ ∀ o, (g.back g1' ord m.length).lo i ≤ o → o < (g.back g1' ord m.length).hi i → ¬ (g.back g1' ord m.length).pure c o := by
      intro k b1 hk hb1 hq
      have hq := renB_tok hq.symm
      subst hq
      obtain ⟨e1, e2, e3⟩ := hren.at' k i hk
      rw [e2, e3]
      rw [e1] at hc
      exact h1.tok k c hb1 hc
    rcases get i _ hi with ⟨q1, q2, q3⟩ | ⟨k, b1, q1, q2, q3⟩ | ⟨q1, b1, q2, q3⟩
    · obtain ⟨e0, e2, e1⟩ := ownB i q2 q1
      have hc : g.blk i = some c := e0.symm.trans hc
      obtain ⟨cs, e, n, k2, k3, k4, k5⟩ := h.tok i c q3 hc
      rw [e1, e2]
      exact ⟨cs, e, n, (hs.keep c (lt_of_heap k2) (notOwned i _ c q2 q3 rfl hc)).trans k2, k3, k4, fun o a b p => k5 o a b (notPure i _ c q2 q3 rfl hc o p)⟩
    · exact back k b1 (by simp [backIdx, q1]) q2 q3
    · have hn : ord[ord.length + (i - m.length)]? = none := List.getElem?_eq_none (by omega)
      exact back _ b1 (by simp only [backIdx, hn, Option.some.injEq]; omega) q2 q3
  · have apart : ∀ i b, i ∉ ord → m[i]? = some b → b.owns = true → g.blk i = some c → ∀ k b1, m1'[k]? = some b1 → b1.owns = true → g1'.blk k = some c → False := by
      intro i b q2 q3 ho hc k b1 hk ho1 hc1
      rcases hs.owned c ⟨k, b1, hk, ho1, hc1⟩ with q | q
      · exact notOwned i b c q2 q3 ho hc q
      · exact absurd (h.owned_lt ⟨i, b, q3, ho, hc⟩) (Nat.not_lt.2 q)
    rcases own2 i b c hi ho hc with ⟨p1, p2, p3⟩ | ⟨k, b1, p1, p2, p3, p4⟩ <;> rcases own2 j b' c hj ho' hc' with ⟨q1, q2, q3⟩ | ⟨k', b1', q1, q2, q3, q4⟩
    · exact h.inj i j b b' c p2 q2 ho ho' p3 q3
    · exact (apart i b p1 p2 ho p3 k' b1' q2 q3 q4).elim
    · exact (apart j b' q1 q2 ho' q3 k b1 p2 p3 p4).elim
    · have := h1.inj k k' b1 b1' c p2 q2 p3 q3 p4 q4
      subst this
      rw [p1] at q1; exact Option.some.inj q1
  · have back : ∀ k b1, backIdx ord m.length k = some i → m1'[k]? = some b1 → Blk.ob ob l = renB (backIdx ord m.length) b1 →
        ∃ c o vs, (g.back g1' ord m.length).blk i = some c ∧ w'.heap[c]? = some o ∧ VAs (g.back g1' ord m.length) w' l vs ∧ ob.is o vs ∧ (∀ o', ¬ (g.back g1' ord m.length).pure c o') ∧ ob.room o ((g.back g1' ord m.length).hi i) := by
      intro k b1 hk hb1 hq
      obtain ⟨l0, rfl, hl0⟩ := renB_ob hq.symm
      obtain ⟨c, o, vs, k1, k2, k3, k4, k5, k6⟩ := h1.obs k ob l0 hb1
      exact ⟨c, o, vs, (hren.at' k i hk).1.trans k1, k2, k3.renOr hren hl0, k4, k5, by rw [(hren.at' k i hk).2.2]; exact k6⟩
    rcases get i _ hi with ⟨q1, q2, q3⟩ | ⟨k, b1, q1, q2, q3⟩ | ⟨q1, b1, q2, q3⟩
    · obtain ⟨c, o, vs, k1, k2, k3, k4, k5, k6⟩ := h.obs i ob l q3
      exact ⟨c, o, vs, (ownB i q2 q1).1.trans k1, (hs.keep c (lt_of_heap k2) (notOwned i _ c q2 q3 rfl k1)).trans k2, k3.mono hext, k4, fun o' p => k5 o' (notPure i _ c q2 q3 rfl k1 o' p), by rw [(ownB i q2 q1).2.2]; exact k6⟩
    · exact back k b1 (by simp [backIdx, q1]) q2 q3
    · have hn : ord[ord.length + (i - m.length)]? = none := List.getElem?_eq_none (by omega)
      exact back _ b1 (by simp only [backIdx, hn, Option.some.injEq]; omega) q2 q3
  · rcases hs.fresh c o p with q | q | q
    · exact .inl q
    · exact .inr (.inl (hp2 c q))
    · exact .inr (.inr q)
  · obtain ⟨i, b, hi, hb, hc⟩ := ho
    rcases own2 i b c hi hb hc with ⟨_, p2, p3⟩ | ⟨k, b1, p1, p2, p3, p4⟩
    · exact .inl ⟨i, b, p2, hb, p3⟩
    · rcases hs.owned c ⟨k, b1, p2, p3, p4⟩ with q | q
      · exact .inl (hp2 c q)
      · exact .inr q

end Go.Am
