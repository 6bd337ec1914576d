/-
  What becomes of the relations when a block is made, written, lent: facts on worlds.
-/
import Derived.Test.YtiphaojaolcidaaDoorAm3b
namespace Go.Am
open Go.RowKit

theorem allP_map : ∀ {l : List AV}, allP l = true → (l.map pvOf).map AV.p = l
  | [], _ => rfl
  | .p v :: r, h => by
    simp only [allP] at h
    have := allP_map h
    simp only [List.map_cons, pvOf]
    rw [this]
  | .junk :: _, h | .os .. :: _, h | .mp .. :: _, h | .ms .. :: _, h | .fn .. :: _, h | .agg _ :: _, h | .tup _ :: _, h | .ifc .. :: _, h | .vm _ :: _, h | .vy _ :: _, h => by simp [allP] at h

theorem psOf_map {l : List AV} {vs : List PV} (h : psOf l = some vs) : vs.map AV.p = l := by
  unfold psOf at h
  cases hp : allP l with
  | false => simp [hp] at h
  | true =>
    simp only [hp, cond_true, Option.some.injEq] at h
    subst h
    exact allP_map hp

theorem mkBlk_cells (l : List AV) : (mkBlk l).cells? = some l := by
  unfold mkBlk
  cases h : psOf l with
  | none => rfl
  | some vs => simp [Blk.cells?, psOf_map h]

theorem owns_of_cells {b : Blk} {l : List AV} (h : b.cells? = some l) : b.owns = true := by cases b <;> simp_all [Blk.cells?, Blk.owns]

def Gh.put (g : Gh) (i c lo hi : Nat) : Gh :=
  { g with blk := fun j => if j = i then some c else g.blk j, lo := fun j => if j = i then lo else g.lo j, hi := fun j => if j = i then hi else g.hi j }

def Gh.more (g : Gh) (c lo hi : Nat) : Gh := { g with pure := fun c' o => g.pure c' o ∨ (c' = c ∧ lo ≤ o ∧ o < hi) }

theorem getElem?_set' {α : Type} (l : List α) (i j : Nat) (a : α) : (l.set i a)[j]? = if i = j ∧ i < l.length then some a else l[j]? := by
  rw [List.getElem?_set]
  by_cases h : i = j
  · subst h; by_cases h2 : i < l.length <;> simp [h2]
  · simp [h]

theorem lt_of_get {α : Type} {l : List α} {i : Nat} {a : α} (h : l[i]? = some a) : i < l.length := (List.getElem?_eq_some_iff.1 h).1

theorem cell?_of_heap {w w' : World} {c o : Nat} (h : w'.heap[c]? = w.heap[c]?) : w'.cell? ⟨c, o, none⟩ = w.cell? ⟨c, o, none⟩ := by
  simp only [World.cell?, h]

theorem cell?_cells {w : World} {c o : Nat} {cs : Array Value} {e : TypeId} {n : Nat × Nat} (h : w.heap[c]? = some (.cells cs e n)) : w.cell? ⟨c, o, none⟩ = cs[o]? := by
  simp [World.cell?, h]

theorem lt_of_heap {w : World} {c : Nat} {o : Obj} (h : w.heap[c]? = some o) : c < w.heap.size := by
  rcases Nat.lt_or_ge c w.heap.size with k | k
  · exact k
  · simp [Array.getElem?_eq_none k] at h

theorem owned_set {g : Gh} {m : Mem} {i : Nat} {b : Blk} {c : Nat} (h : Owned g (m.set i b) c) : (b.owns = true ∧ g.blk i = some c) ∨ (∃ j b', j ≠ i ∧ m[j]? = some b' ∧ b'.owns = true ∧ g.blk j = some c) := by
  obtain ⟨j, b', hj, ho, hc⟩ := h
  rw [getElem?_set'] at hj
  by_cases e : i = j ∧ i < m.length
  · rw [if_pos e] at hj; cases hj; exact .inl ⟨ho, e.1 ▸ hc⟩
  · rw [if_neg e] at hj
    refine .inr ⟨j, b', fun h => ?_, hj, ho, hc⟩
    subst h
    exact e ⟨rfl, lt_of_get hj⟩

/-- A block that is no longer used. -/
theorem Rel.kill {g : Gh} {m : Mem} {w : World} (h : Rel g m w) (i : Nat) : Rel g (m.set i .dead) w ∧ Stp g m w g (m.set i .dead) w := by
  have get : ∀ j b, (m.set i .dead)[j]? = some b → b = .dead ∨ (j ≠ i ∧ m[j]? = some b) := by
    intro j b hj
    rw [getElem?_set'] at hj
    by_cases e : i = j ∧ i < m.length
    · rw [if_pos e] at hj; exact .inl (Option.some.inj hj).symm
    · rw [if_neg e] at hj
      by_cases e2 : i = j
      · subst e2; exact absurd ⟨rfl, lt_of_get hj⟩ e
      · exact .inr ⟨fun h => e2 h.symm, hj⟩
  refine ⟨⟨fun j hj => h.far j (by simpa using hj), fun j hj => ?_, fun j b l hj hl => ?_, fun j c hj hc => ?_, fun j k b b' c hj hk ho ho' hc hc' => ?_, h.there, fun j kk ll hj => ?_⟩, Stp.less fun c ho => ?_⟩
  · rcases get j _ hj with e | ⟨_, e⟩
    · cases e
    · exact h.free j e
  · rcases get j _ hj with e | ⟨_, e⟩
    · subst e; cases hl
    · exact h.cells j b l e hl
  · rcases get j _ hj with e | ⟨_, e⟩
    · cases e
    · exact h.tok j c e hc
  · rcases get j _ hj with e | ⟨_, e⟩
    · subst e; simp [Blk.owns] at ho
    rcases get k _ hk with e' | ⟨_, e'⟩
    · subst e'; simp [Blk.owns] at ho'
    exact h.inj j k b b' c e e' ho ho' hc hc'
  · rcases get j _ hj with e | ⟨_, e⟩
    · cases e
    · exact h.obs j kk ll e
  · obtain ⟨j, b, hj, hb, hc⟩ := ho
    rcases get j _ hj with e | ⟨_, e⟩
    · subst e; simp [Blk.owns] at hb
    · exact ⟨j, b, e, hb, hc⟩

/-- A block that is written: by its owner. -/
theorem Rel.write {g : Gh} {m : Mem} {w w' : World} (h : Rel g m w) {i c : Nat} {b b' : Blk} {l l' : List AV} {cs' : Array Value} {e' : TypeId} {n' : Nat × Nat}
    (hi : m[i]? = some b) (hl : b.cells? = some l) (hc : g.blk i = some c) (hl' : b'.cells? = some l')
    (hw : ∀ k, k ≠ c → w'.heap[k]? = w.heap[k]?) (hs : w'.heap.size = w.heap.size) (ho : w'.os = w.os) (ht : w'.tape = w.tape) (hu : w'.output = w.output)
    (hh : w'.heap[c]? = some (.cells cs' e' n')) (hn : n'.2 ≤ n'.1) (hv : CAs g w l' cs'.toList) :
    Rel g (m.set i b') w' ∧ Ext g w g w' ∧ Stp g m w g (m.set i b') w' := by
  obtain ⟨c0, cs, e, n, h1, h2, h3, h4, h5⟩ := h.cells i b l hi hl
  rw [hc] at h1; cases h1
  have hp : ∀ c' o, g.pure c' o → w'.cell? ⟨c', o, none⟩ = w.cell? ⟨c', o, none⟩ := fun c' o p => cell?_of_heap (hw c' fun e => h5 o (e ▸ p))
  have ext : Ext g w g w' := ⟨fun _ _ h => ⟨h, rfl, rfl⟩, fun c' o p => ⟨p, hp c' o p⟩⟩
  have get : ∀ j x, (m.set i b')[j]? = some x → (j = i ∧ x = b') ∨ (j ≠ i ∧ m[j]? = some x) := by
    intro j x hj
    rw [getElem?_set'] at hj
    by_cases e : i = j ∧ i < m.length
    · rw [if_pos e] at hj; exact .inl ⟨e.1.symm, (Option.some.inj hj).symm⟩
    · rw [if_neg e] at hj
      by_cases e2 : i = j
      · subst e2; exact absurd ⟨rfl, lt_of_get hj⟩ e
      · exact .inr ⟨fun h => e2 h.symm, hj⟩
  have ne : ∀ j x c', j ≠ i → m[j]? = some x → x.owns = true → g.blk j = some c' → c' ≠ c := fun j x c' hji hj ho hc' e => hji (h.inj j i x b c hj hi ho (owns_of_cells hl) (e ▸ hc') hc)
  refine ⟨⟨fun j hj => h.far j (by simpa using hj), fun j hj => ?_, fun j x k hj hk => ?_, fun j c' hj hc' => ?_, fun j k x x' c' hj hk ho ho' hc1 hc2 => ?_, fun c' o p => ?_, fun j kk ll hj => ?_⟩, ext, ⟨by omega, fun k hk hn => ?_, fun c' o p => ⟨p, hp c' o p⟩, fun _ _ p => .inl p, fun c' ho' => ?_, ho, ht, hu⟩⟩
  · rcases get j _ hj with ⟨rfl, e⟩ | ⟨_, e⟩
    · subst e; cases hl'
    · exact h.free j e
  · rcases get j _ hj with ⟨rfl, e⟩ | ⟨hji, e⟩
    · subst e
      rw [hl'] at hk; cases hk
      exact ⟨c, cs', e', n', hc, hh, hn, hv.mono ext, h5⟩
    · obtain ⟨c1, cs1, e1, n1, k1, k2, k3, k4, k5⟩ := h.cells j x k e hk
      exact ⟨c1, cs1, e1, n1, k1, (hw c1 (ne j x c1 hji e (owns_of_cells hk) k1)).trans k2, k3, k4.mono ext, k5⟩
  · rcases get j _ hj with ⟨rfl, e⟩ | ⟨hji, e⟩
    · subst e; cases hl'
    · obtain ⟨cs1, e1, n1, k2, k3, k4, k5⟩ := h.tok j c' e hc'
      exact ⟨cs1, e1, n1, (hw c' (ne j _ c' hji e rfl hc')).trans k2, k3, k4, k5⟩
  · rcases get j _ hj with ⟨rfl, e⟩ | ⟨hji, e⟩ <;> rcases get k _ hk with ⟨rfl, e'⟩ | ⟨hki, e'⟩
    · rfl
    · rw [hc] at hc1; cases hc1
      exact absurd rfl (ne k x' _ hki e' ho' hc2)
    · rw [hc] at hc2; cases hc2
      exact absurd rfl (ne j x _ hji e ho hc1)
    · exact h.inj j k x x' c' e e' ho ho' hc1 hc2
  · obtain ⟨v, hv⟩ := h.there c' o p
    exact ⟨v, (hp c' o p).trans hv⟩
  · rcases get j _ hj with ⟨rfl, e⟩ | ⟨hji, e⟩
    · subst e; cases hl'
    · obtain ⟨c1, ob1, vs1, k1, k2, k3, k6, k7, k8⟩ := h.obs j kk ll e
      exact ⟨c1, ob1, vs1, k1, (hw c1 (ne j _ c1 hji e rfl k1)).trans k2, k3.mono ext, k6, k7, k8⟩
  · exact hw k fun e => hn ⟨i, b, hi, owns_of_cells hl, e ▸ hc⟩
  · rcases owned_set ho' with ⟨_, k⟩ | ⟨j, x, _, k1, k2, k3⟩
    · exact .inl ⟨i, b, hi, owns_of_cells hl, k⟩
    · exact .inl ⟨j, x, k1, k2, k3⟩

theorem get_set {m : Mem} {i : Nat} {b' : Blk} {j : Nat} {x : Blk} (hj : (m.set i b')[j]? = some x) : (j = i ∧ x = b') ∨ (j ≠ i ∧ m[j]? = some x) := by
  rw [getElem?_set'] at hj
  by_cases e : i = j ∧ i < m.length
  · rw [if_pos e] at hj; exact .inl ⟨e.1.symm, (Option.some.inj hj).symm⟩
  · rw [if_neg e] at hj
    by_cases e2 : i = j
    · subst e2; exact absurd ⟨rfl, lt_of_get hj⟩ e
    · exact .inr ⟨fun h => e2 h.symm, hj⟩

/-- The world with a new block, and draws. -/
structure Grew (w w' : World) (o : Obj) : Prop where
  heap : w'.heap = w.heap.push o
  os : w'.os = w.os
  tape : w'.tape = w.tape
  output : w'.output = w.output

theorem Grew.old {w w' : World} {o : Obj} (h : Grew w w' o) {k : Nat} (hk : k < w.heap.size) : w'.heap[k]? = w.heap[k]? := by
  rw [h.heap, Array.getElem?_push, if_neg (by omega)]

theorem Grew.new {w w' : World} {o : Obj} (h : Grew w w' o) : w'.heap[w.heap.size]? = some o := by
  rw [h.heap, Array.getElem?_push, if_pos rfl]

theorem Grew.size {w w' : World} {o : Obj} (h : Grew w w' o) : w'.heap.size = w.heap.size + 1 := by rw [h.heap]; simp

/-- A new block of cells. -/
theorem Rel.alloc {g : Gh} {m : Mem} {w w' : World} (h : Rel g m w) {i : Nat} {b : Blk} {l : List AV} {cs : Array Value} {e : TypeId}
    (hi : m[i]? = some .free) (hl : b.cells? = some l) (hv : CAs g w l cs.toList) (hw : Grew w w' (.cells cs e)) :
    Rel (g.put i w.heap.size 0 0) (m.set i b) w' ∧ Ext g w (g.put i w.heap.size 0 0) w' ∧ Stp g m w (g.put i w.heap.size 0 0) (m.set i b) w' := by
  have hf := h.free i hi
  have hil := lt_of_get hi
  have hp : ∀ c o, g.pure c o → w'.cell? ⟨c, o, none⟩ = w.cell? ⟨c, o, none⟩ := fun c o p => cell?_of_heap (hw.old (h.pure_lt p))
  have bo : ∀ j, j ≠ i → (g.put i w.heap.size 0 0).blk j = g.blk j := fun j hj => by simp [Gh.put, hj]
  have bi : (g.put i w.heap.size 0 0).blk i = some w.heap.size := by simp [Gh.put]
  have ext : Ext g w (g.put i w.heap.size 0 0) w' := ⟨fun j c hc => by
    have : j ≠ i := fun e => by subst e; rw [hf] at hc; cases hc
    simp [Gh.put, this, hc], fun c o p => ⟨p, hp c o p⟩⟩
  have lt : ∀ j x c, m[j]? = some x → x.owns = true → g.blk j = some c → c < w.heap.size := fun j x c hj ho hc => h.owned_lt ⟨j, x, hj, ho, hc⟩
  refine ⟨⟨fun j hj => ?_, fun j hj => ?_, fun j x k hj hk => ?_, fun j c hj hc => ?_, fun j k x x' c hj hk ho ho' hc1 hc2 => ?_, fun c o p => ?_, fun j kk ll hj => ?_⟩, ext, ⟨by rw [hw.size]; omega, fun k hk _ => hw.old hk, fun c o p => ⟨p, hp c o p⟩, fun _ _ p => .inl p, fun c ho => ?_, hw.os, hw.tape, hw.output⟩⟩
  · rw [List.length_set] at hj
    rw [bo j (by omega)]; exact h.far j hj
  · rcases get_set hj with ⟨rfl, e⟩ | ⟨hji, e⟩
    · subst e; cases hl
    · rw [bo j hji]; exact h.free j e
  · rcases get_set hj with ⟨rfl, e⟩ | ⟨hji, e⟩
    · subst e; rw [hl] at hk; cases hk
      refine ⟨_, cs, _, (0, 0), bi, hw.new, Nat.le_refl _, hv.mono ext, fun o p => ?_⟩
      have := h.pure_lt p
      omega
    · obtain ⟨c1, cs1, e1, n1, k1, k2, k3, k4, k5⟩ := h.cells j x k e hk
      exact ⟨c1, cs1, e1, n1, (bo j hji).trans k1, (hw.old (lt_of_heap k2)).trans k2, k3, k4.mono ext, k5⟩
  · rcases get_set hj with ⟨rfl, e⟩ | ⟨hji, e⟩
    · subst e; cases hl
    · rw [bo j hji] at hc
      obtain ⟨cs1, e1, n1, k2, k3, k4, k5⟩ := h.tok j c e hc
      have h1 : (g.put i w.heap.size 0 0).hi j = g.hi j := by simp [Gh.put, hji]
      have h2 : (g.put i w.heap.size 0 0).lo j = g.lo j := by simp [Gh.put, hji]
      rw [h1, h2]
      exact ⟨cs1, e1, n1, (hw.old (lt_of_heap k2)).trans k2, k3, k4, k5⟩
  · rcases get_set hj with ⟨rfl, e⟩ | ⟨hji, e⟩ <;> rcases get_set hk with ⟨rfl, e'⟩ | ⟨hki, e'⟩
    · rfl
    · rw [bi] at hc1; cases hc1
      rw [bo k hki] at hc2
      exact absurd (lt k x' _ e' ho' hc2) (Nat.lt_irrefl _)
    · rw [bi] at hc2; cases hc2
      rw [bo j hji] at hc1
      exact absurd (lt j x _ e ho hc1) (Nat.lt_irrefl _)
    · rw [bo j hji] at hc1; rw [bo k hki] at hc2
      exact h.inj j k x x' c e e' ho ho' hc1 hc2
  · obtain ⟨v, hv⟩ := h.there c o p
    exact ⟨v, (hp c o p).trans hv⟩
  · rcases get_set hj with ⟨rfl, e⟩ | ⟨hji, e⟩
    · subst e; cases hl
    · obtain ⟨c1, ob1, vs1, k1, k2, k3, k6, k7, k8⟩ := h.obs j kk ll e
      exact ⟨c1, ob1, vs1, (bo j hji).trans k1, (hw.old (lt_of_heap k2)).trans k2, k3.mono ext, k6, k7, by simpa [Gh.put, hji] using k8⟩
  · obtain ⟨j, x, hj, hx, hc⟩ := ho
    rcases get_set hj with ⟨rfl, e⟩ | ⟨hji, e⟩
    · rw [bi] at hc; cases hc; exact .inr (Nat.le_refl _)
    · rw [bo j hji] at hc; exact .inl ⟨j, x, e, hx, hc⟩

/-- A new block of which the first cells are pure, and the others spare room. -/
theorem Rel.fresh {g : Gh} {m : Mem} {w w' : World} (h : Rel g m w) {i k : Nat} {cs : Array Value} {e : TypeId} {n : Nat × Nat}
    (hi : m[i]? = some .free) (hw : Grew w w' (.cells cs e n)) (hk : k ≤ cs.size) (hn : n.2 ≤ n.1 ∨ cs.size ≤ n.1) :
    let g' := (g.put i w.heap.size k cs.size).more w.heap.size 0 k
    Rel g' (m.set i .tok) w' ∧ Ext g w g' w' ∧ Stp g m w g' (m.set i .tok) w' := by
  intro g'
  have hf := h.free i hi
  have hil := lt_of_get hi
  have hp : ∀ c o, g.pure c o → w'.cell? ⟨c, o, none⟩ = w.cell? ⟨c, o, none⟩ := fun c o p => cell?_of_heap (hw.old (h.pure_lt p))
  have bo : ∀ j, j ≠ i → g'.blk j = g.blk j := fun j hj => by simp [g', Gh.put, Gh.more, hj]
  have bi : g'.blk i = some w.heap.size := by simp [g', Gh.put, Gh.more]
  have ext : Ext g w g' w' := ⟨fun j c hc => by
    have : j ≠ i := fun e => by subst e; rw [hf] at hc; cases hc
    simp [g', Gh.put, Gh.more, this, hc], fun c o p => ⟨.inl p, hp c o p⟩⟩
  have lt : ∀ j x c, m[j]? = some x → x.owns = true → g.blk j = some c → c < w.heap.size := fun j x c hj ho hc => h.owned_lt ⟨j, x, hj, ho, hc⟩
  refine ⟨⟨fun j hj => ?_, fun j hj => ?_, fun j x l hj hl => ?_, fun j c hj hc => ?_, fun j k x x' c hj hk ho ho' hc1 hc2 => ?_, fun c o p => ?_, fun j kk ll hj => ?_⟩, ext, ⟨by rw [hw.size]; omega, fun k hk _ => hw.old hk, fun c o p => ⟨.inl p, hp c o p⟩, fun c o p => ?_, fun c ho => ?_, hw.os, hw.tape, hw.output⟩⟩
  · rw [List.length_set] at hj
    rw [bo j (by omega)]; exact h.far j hj
  · rcases get_set hj with ⟨rfl, e⟩ | ⟨hji, e⟩
    · cases e
    · rw [bo j hji]; exact h.free j e
  · rcases get_set hj with ⟨rfl, e⟩ | ⟨hji, e⟩
    · subst e; cases hl
    · obtain ⟨c1, cs1, e1, n1, k1, k2, k3, k4, k5⟩ := h.cells j x l e hl
      refine ⟨c1, cs1, e1, n1, (bo j hji).trans k1, (hw.old (lt_of_heap k2)).trans k2, k3, k4.mono ext, fun o p => ?_⟩
      rcases p with p | ⟨rfl, _⟩
      · exact k5 o p
      · exact absurd (lt_of_heap k2) (Nat.lt_irrefl _)
  · rcases get_set hj with ⟨rfl, _⟩ | ⟨hji, e⟩
    · rw [bi] at hc; cases hc
      refine ⟨cs, _, n, hw.new, by simp [g', Gh.put, Gh.more], by simpa [g', Gh.put, Gh.more] using hn, fun o h1 _ p => ?_⟩
      have h1' : k ≤ o := by simpa [g', Gh.put, Gh.more] using h1
      rcases p with p | ⟨_, _, p⟩
      · exact absurd (h.pure_lt p) (Nat.lt_irrefl _)
      · omega
    · rw [bo j hji] at hc
      obtain ⟨cs1, e1, n1, k2, k3, k4, k5⟩ := h.tok j c e hc
      have h1 : g'.hi j = g.hi j := by simp [g', Gh.put, Gh.more, hji]
      have h2 : g'.lo j = g.lo j := by simp [g', Gh.put, Gh.more, hji]
      rw [h1, h2]
      refine ⟨cs1, e1, n1, (hw.old (lt_of_heap k2)).trans k2, k3, k4, fun o a b p => ?_⟩
      rcases p with p | ⟨rfl, _⟩
      · exact k5 o a b p
      · exact absurd (lt_of_heap k2) (Nat.lt_irrefl _)
  · rcases get_set hj with ⟨rfl, e⟩ | ⟨hji, e⟩ <;> rcases get_set hk with ⟨rfl, e'⟩ | ⟨hki, e'⟩
    · rfl
    · rw [bi] at hc1; cases hc1
      rw [bo k hki] at hc2
      exact absurd (lt k x' _ e' ho' hc2) (Nat.lt_irrefl _)
    · rw [bi] at hc2; cases hc2
      rw [bo j hji] at hc1
      exact absurd (lt j x _ e ho hc1) (Nat.lt_irrefl _)
    · rw [bo j hji] at hc1; rw [bo k hki] at hc2
      exact h.inj j k x x' c e e' ho ho' hc1 hc2
  · rcases p with p | ⟨rfl, _, p⟩
    · obtain ⟨v, hv⟩ := h.there c o p
      exact ⟨v, (hp c o p).trans hv⟩
    · exact ⟨cs[o], by rw [cell?_cells hw.new, Array.getElem?_eq_getElem (by omega)]⟩
  · rcases get_set hj with ⟨rfl, e⟩ | ⟨hji, e⟩
    · cases e
    · obtain ⟨c1, ob1, vs1, k1, k2, k3, k6, k7, k8⟩ := h.obs j kk ll e
      exact ⟨c1, ob1, vs1, (bo j hji).trans k1, (hw.old (lt_of_heap k2)).trans k2, k3.mono ext, k6, fun o p => p.elim (k7 o) fun q => absurd (lt_of_heap k2) (by rw [q.1]; exact Nat.lt_irrefl _), by simpa [g', Gh.put, Gh.more, hji] using k8⟩
  · rcases p with p | ⟨rfl, _⟩
    · exact .inl p
    · exact .inr (.inr (Nat.le_refl _))
  · obtain ⟨j, x, hj, hx, hc⟩ := ho
    rcases get_set hj with ⟨rfl, e⟩ | ⟨hji, e⟩
    · rw [bi] at hc; cases hc; exact .inr (Nat.le_refl _)
    · rw [bo j hji] at hc; exact .inl ⟨j, x, e, hx, hc⟩

/-- Spare room is filled in place: by the one who has the right to it. -/
theorem Rel.spare {g : Gh} {m : Mem} {w w' : World} (h : Rel g m w) {t i c k : Nat} {cs cs' : Array Value} {e e' : TypeId} {n : Nat × Nat}
    (ht : m[t]? = some .tok) (hc : g.blk t = some c) (hi : m[i]? = some .free) (hcs : w.heap[c]? = some (.cells cs e n)) (hk : g.lo t + k ≤ g.hi t)
    (hw : ∀ j, j ≠ c → w'.heap[j]? = w.heap[j]?) (hs : w'.heap.size = w.heap.size) (ho : w'.os = w.os) (htp : w'.tape = w.tape) (hu : w'.output = w.output)
    (hh : w'.heap[c]? = some (.cells cs' e' n)) (hcz : cs'.size = cs.size) (hout : ∀ o, o < g.lo t ∨ g.hi t ≤ o → cs'[o]? = cs[o]?) :
    let g' := (g.put i c (g.lo t + k) (g.hi t)).more c (g.lo t) (g.lo t + k)
    Rel g' ((m.set t .dead).set i .tok) w' ∧ Ext g w g' w' ∧ Stp g m w g' ((m.set t .dead).set i .tok) w' := by
  intro g'
  have hf := h.free i hi
  have hil := lt_of_get hi
  have hti : t ≠ i := fun e => by subst e; rw [ht] at hi; cases hi
  obtain ⟨cs0, e0, n0, q1, q2, q3, q4⟩ := h.tok t c ht hc
  rw [hcs] at q1; cases q1
  have hp : ∀ c' o, g.pure c' o → w'.cell? ⟨c', o, none⟩ = w.cell? ⟨c', o, none⟩ := by
    intro c' o p
    by_cases e : c' = c
    · subst e
      rw [cell?_cells hh, cell?_cells hcs]
      refine hout o ?_
      rcases Nat.lt_or_ge o (g.lo t) with a | a
      · exact .inl a
      · rcases Nat.lt_or_ge o (g.hi t) with b | b
        · exact absurd p (q4 o a b)
        · exact .inr b
    · exact cell?_of_heap (hw c' e)
  have bo : ∀ j, j ≠ i → g'.blk j = g.blk j := fun j hj => by simp [g', Gh.put, Gh.more, hj]
  have bi : g'.blk i = some c := by simp [g', Gh.put, Gh.more]
  have ext : Ext g w g' w' := ⟨fun j c hc => by
    have : j ≠ i := fun e => by subst e; rw [hf] at hc; cases hc
    simp [g', Gh.put, Gh.more, this, hc], fun c o p => ⟨.inl p, hp c o p⟩⟩
  have get : ∀ j x, ((m.set t .dead).set i .tok)[j]? = some x → (j = i ∧ x = .tok) ∨ x = .dead ∨ (j ≠ i ∧ j ≠ t ∧ m[j]? = some x) := by
    intro j x hj
    rcases get_set hj with e | ⟨hji, e⟩
    · exact .inl e
    · rcases get_set e with ⟨_, e'⟩ | ⟨hjt, e'⟩
      · exact .inr (.inl e')
      · exact .inr (.inr ⟨hji, hjt, e'⟩)
  have ne : ∀ j x c', j ≠ t → m[j]? = some x → x.owns = true → g.blk j = some c' → c' ≠ c := fun j x c' hjt hj ho hc' e => hjt (h.inj j t x _ c hj ht ho rfl (e ▸ hc') hc)
  refine ⟨⟨fun j hj => ?_, fun j hj => ?_, fun j x l hj hl => ?_, fun j c' hj hc' => ?_, fun j k x x' c' hj hk ho ho' hc1 hc2 => ?_, fun c' o p => ?_, fun j kk ll hj => ?_⟩, ext, ⟨by omega, fun j _ hn => ?_, fun c o p => ⟨.inl p, hp c o p⟩, fun c' o p => ?_, fun c' ho' => ?_, ho, htp, hu⟩⟩
  · simp only [List.length_set] at hj
    rw [bo j (by omega)]; exact h.far j hj
  · rcases get j _ hj with ⟨_, e⟩ | e | ⟨hji, _, e⟩
    · cases e
    · cases e
    · rw [bo j hji]; exact h.free j e
  · rcases get j _ hj with ⟨_, e⟩ | e | ⟨hji, hjt, e⟩
    · subst e; cases hl
    · subst e; cases hl
    · obtain ⟨c1, cs1, e1, n1, k1, k2, k3, k4, k5⟩ := h.cells j x l e hl
      refine ⟨c1, cs1, e1, n1, (bo j hji).trans k1, (hw c1 (ne j x c1 hjt e (owns_of_cells hl) k1)).trans k2, k3, k4.mono ext, fun o p => ?_⟩
      rcases p with p | ⟨rfl, _⟩
      · exact k5 o p
      · exact ne j x _ hjt e (owns_of_cells hl) k1 rfl
  · rcases get j _ hj with ⟨rfl, _⟩ | e | ⟨hji, hjt, e⟩
    · rw [bi] at hc'; cases hc'
      refine ⟨cs', e', n, hh, by simp only [g', Gh.put, Gh.more, if_true]; omega, by simpa [g', Gh.put, Gh.more] using q3, fun o h1 h2 p => ?_⟩
      have h1' : g.lo t + k ≤ o := by simpa [g', Gh.put, Gh.more] using h1
      have h2' : o < g.hi t := by simpa [g', Gh.put, Gh.more] using h2
      rcases p with p | ⟨_, _, p⟩
      · exact q4 o (by omega) h2' p
      · omega
    · cases e
    · rw [bo j hji] at hc'
      obtain ⟨cs1, e1, n1, k2, k3, k4, k5⟩ := h.tok j c' e hc'
      have h1 : g'.hi j = g.hi j := by simp [g', Gh.put, Gh.more, hji]
      have h2 : g'.lo j = g.lo j := by simp [g', Gh.put, Gh.more, hji]
      rw [h1, h2]
      refine ⟨cs1, e1, n1, (hw c' (ne j _ c' hjt e rfl hc')).trans k2, k3, k4, fun o a b p => ?_⟩
      rcases p with p | ⟨rfl, _⟩
      · exact k5 o a b p
      · exact ne j _ _ hjt e rfl hc' rfl
  · rcases get j _ hj with ⟨rfl, e⟩ | e | ⟨hji, hjt, e⟩
    · rcases get k _ hk with ⟨rfl, e'⟩ | e' | ⟨hki, hkt, e'⟩
      · rfl
      · subst e'; simp [Blk.owns] at ho'
      · rw [bi] at hc1; cases hc1
        rw [bo k hki] at hc2
        exact absurd rfl (ne k x' _ hkt e' ho' hc2)
    · subst e; simp [Blk.owns] at ho
    · rcases get k _ hk with ⟨rfl, e'⟩ | e' | ⟨hki, hkt, e'⟩
      · rw [bi] at hc2; cases hc2
        rw [bo j hji] at hc1
        exact absurd rfl (ne j x _ hjt e ho hc1)
      · subst e'; simp [Blk.owns] at ho'
      · rw [bo j hji] at hc1; rw [bo k hki] at hc2
        exact h.inj j k x x' c' e e' ho ho' hc1 hc2
  · rcases p with p | ⟨rfl, p1, p2⟩
    · obtain ⟨v, hv⟩ := h.there c' o p
      exact ⟨v, (hp c' o p).trans hv⟩
    · exact ⟨cs'[o], by rw [cell?_cells hh, Array.getElem?_eq_getElem (by omega)]⟩
  · rcases get j _ hj with ⟨_, e⟩ | e | ⟨hji, hjt, e⟩
    · cases e
    · cases e
    · obtain ⟨c1, ob1, vs1, k1, k2, k3, k6, k7, k8⟩ := h.obs j kk ll e
      exact ⟨c1, ob1, vs1, (bo j hji).trans k1, (hw c1 (ne j _ c1 hjt e rfl k1)).trans k2, k3.mono ext, k6, fun o p => p.elim (k7 o) fun q => ne j _ c1 hjt e rfl k1 q.1, by simpa [g', Gh.put, Gh.more, hji] using k8⟩
  · exact hw j fun e => hn ⟨t, _, ht, rfl, e ▸ hc⟩
  · rcases p with p | ⟨rfl, _⟩
    · exact .inl p
    · exact .inr (.inl ⟨t, _, ht, rfl, hc⟩)
  · obtain ⟨j, x, hj, hx, hcj⟩ := ho'
    rcases get j _ hj with ⟨rfl, e⟩ | e | ⟨hji, _, e⟩
    · rw [bi] at hcj; cases hcj; exact .inl ⟨t, _, ht, rfl, hc⟩
    · subst e; simp [Blk.owns] at hx
    · rw [bo j hji] at hcj; exact .inl ⟨j, x, e, hx, hcj⟩

/-- A new block of which all cells are pure. -/
theorem Rel.allPure {g : Gh} {m : Mem} {w w' : World} (h : Rel g m w) {cs : Array Value} {e : TypeId} (hw : Grew w w' (.cells cs e)) :
    Rel (g.more w.heap.size 0 cs.size) m w' ∧ Ext g w (g.more w.heap.size 0 cs.size) w' ∧ Stp g m w (g.more w.heap.size 0 cs.size) m w' := by
  have hp : ∀ c o, g.pure c o → w'.cell? ⟨c, o, none⟩ = w.cell? ⟨c, o, none⟩ := fun c o p => cell?_of_heap (hw.old (h.pure_lt p))
  have ext : Ext g w (g.more w.heap.size 0 cs.size) w' := ⟨fun j c hc => ⟨hc, rfl, rfl⟩, fun c o p => ⟨.inl p, hp c o p⟩⟩
  refine ⟨⟨h.far, h.free, fun j x l hj hl => ?_, fun j c hj hc => ?_, h.inj, fun c o p => ?_, fun j kk ll hj => ?_⟩, ext, ⟨by rw [hw.size]; omega, fun k hk _ => hw.old hk, fun c o p => ⟨.inl p, hp c o p⟩, fun c o p => ?_, fun c ho => .inl ho, hw.os, hw.tape, hw.output⟩⟩
  · obtain ⟨c1, cs1, e1, n1, k1, k2, k3, k4, k5⟩ := h.cells j x l hj hl
    refine ⟨c1, cs1, e1, n1, k1, (hw.old (lt_of_heap k2)).trans k2, k3, k4.mono ext, fun o p => ?_⟩
    rcases p with p | ⟨rfl, _⟩
    · exact k5 o p
    · exact absurd (lt_of_heap k2) (Nat.lt_irrefl _)
  · obtain ⟨cs1, e1, n1, k2, k3, k4, k5⟩ := h.tok j c hj hc
    refine ⟨cs1, e1, n1, (hw.old (lt_of_heap k2)).trans k2, k3, k4, fun o a b p => ?_⟩
    rcases p with p | ⟨rfl, _⟩
    · exact k5 o a b p
    · exact absurd (lt_of_heap k2) (Nat.lt_irrefl _)
  · rcases p with p | ⟨rfl, _, p⟩
    · obtain ⟨v, hv⟩ := h.there c o p
      exact ⟨v, (hp c o p).trans hv⟩
    · exact ⟨cs[o], by rw [cell?_cells hw.new, Array.getElem?_eq_getElem (by omega)]⟩
  · obtain ⟨c1, ob1, vs1, k1, k2, k3, k6, k7, k8⟩ := h.obs j kk ll hj
    exact ⟨c1, ob1, vs1, k1, (hw.old (lt_of_heap k2)).trans k2, k3.mono ext, k6, fun o p => p.elim (k7 o) fun q => absurd (lt_of_heap k2) (by rw [q.1]; exact Nat.lt_irrefl _), k8⟩
  · rcases p with p | ⟨rfl, _⟩
    · exact .inl p
    · exact .inr (.inr (Nat.le_refl _))

/-- A right to no room. -/
theorem Rel.tokNone {g : Gh} {m : Mem} {w : World} (h : Rel g m w) {i : Nat} (hi : m[i]? = some .free) : Rel g (m.set i .tok) w ∧ Stp g m w g (m.set i .tok) w := by
  have hf := h.free i hi
  refine ⟨⟨fun j hj => h.far j (by simpa using hj), fun j hj => ?_, fun j x l hj hl => ?_, fun j c hj hc => ?_, fun j k x x' c hj hk ho ho' hc1 hc2 => ?_, h.there, fun j kk ll hj => ?_⟩, Stp.less fun c ho => ?_⟩
  · rcases get_set hj with ⟨_, e⟩ | ⟨_, e⟩
    · cases e
    · exact h.free j e
  · rcases get_set hj with ⟨_, e⟩ | ⟨_, e⟩
    · subst e; cases hl
    · exact h.cells j x l e hl
  · rcases get_set hj with ⟨rfl, _⟩ | ⟨_, e⟩
    · rw [hf] at hc; cases hc
    · exact h.tok j c e hc
  · rcases get_set hj with ⟨rfl, _⟩ | ⟨_, e⟩
    · rw [hf] at hc1; cases hc1
    · rcases get_set hk with ⟨rfl, _⟩ | ⟨_, e'⟩
      · rw [hf] at hc2; cases hc2
      · exact h.inj j k x x' c e e' ho ho' hc1 hc2
  · rcases get_set hj with ⟨_, e⟩ | ⟨_, e⟩
    · cases e
    · exact h.obs j kk ll e
  · obtain ⟨j, x, hj, hx, hc⟩ := ho
    rcases get_set hj with ⟨rfl, _⟩ | ⟨_, e⟩
    · rw [hf] at hc; cases hc
    · exact ⟨j, x, e, hx, hc⟩

/-- The same heap, the same memory. -/
theorem Rel.sameHeap {g : Gh} {m : Mem} {w w' : World} (h : Rel g m w) (hh : w'.heap = w.heap) (ho : w'.os = w.os) (ht : w'.tape = w.tape) (hu : w'.output = w.output) :
    Rel g m w' ∧ Ext g w g w' ∧ Stp g m w g m w' := by
  have hc : ∀ a : Addr, w'.cell? a = w.cell? a := fun a => by simp [World.cell?, hh]
  have ext : Ext g w g w' := ⟨fun _ _ h => ⟨h, rfl, rfl⟩, fun _ _ p => ⟨p, hc _⟩⟩
  refine ⟨⟨h.far, h.free, fun j x l hj hl => ?_, fun j c hj hcc => ?_, h.inj, fun c o p => ?_, fun j kk ll hj => ?_⟩, ext, ⟨by rw [hh]; exact Nat.le_refl _, fun k _ _ => by rw [hh], fun c o p => ⟨p, hc _⟩, fun _ _ p => .inl p, fun _ ho => .inl ho, ho, ht, hu⟩⟩
  · obtain ⟨c1, cs1, e1, n1, k1, k2, k3, k4, k5⟩ := h.cells j x l hj hl
    exact ⟨c1, cs1, e1, n1, k1, by rw [hh]; exact k2, k3, k4.mono ext, k5⟩
  · obtain ⟨cs1, e1, n1, k2, k3⟩ := h.tok j c hj hcc
    exact ⟨cs1, e1, n1, by rw [hh]; exact k2, k3⟩
  · obtain ⟨v, hv⟩ := h.there c o p
    exact ⟨v, (hc _).trans hv⟩
  · obtain ⟨c1, ob1, vs1, k1, k2, k3, k6, k7, k8⟩ := h.obs j kk ll hj
    exact ⟨c1, ob1, vs1, k1, by rw [hh]; exact k2, k3.mono ext, k6, k7, k8⟩

/-- One more block that is not yet in use. -/
theorem Rel.reserve {g : Gh} {m : Mem} {w : World} (h : Rel g m w) : Rel g (m ++ [.free]) w ∧ Stp g m w g (m ++ [.free]) w := by
  have get : ∀ j x, (m ++ [Blk.free])[j]? = some x → m[j]? = some x ∨ (j = m.length ∧ x = .free) := by
    intro j x hj
    rw [List.getElem?_append] at hj
    by_cases e : j < m.length
    · rw [if_pos e] at hj; exact .inl hj
    · rw [if_neg e] at hj
      have := lt_of_get hj
      simp at this
      have e2 : j = m.length := by omega
      subst e2
      simp at hj
      exact .inr ⟨rfl, hj.symm⟩
  refine ⟨⟨fun j hj => h.far j (by simp at hj; omega), fun j hj => ?_, fun j x l hj hl => ?_, fun j c hj hc => ?_, fun j k x x' c hj hk ho ho' hc1 hc2 => ?_, h.there, fun j kk ll hj => ?_⟩, Stp.less fun c ho => ?_⟩
  · rcases get j _ hj with e | ⟨rfl, _⟩
    · exact h.free j e
    · exact h.far _ (Nat.le_refl _)
  · rcases get j _ hj with e | ⟨_, e⟩
    · exact h.cells j x l e hl
    · subst e; cases hl
  · rcases get j _ hj with e | ⟨_, e⟩
    · exact h.tok j c e hc
    · cases e
  · rcases get j _ hj with e | ⟨_, e⟩
    · rcases get k _ hk with e' | ⟨_, e'⟩
      · exact h.inj j k x x' c e e' ho ho' hc1 hc2
      · subst e'; simp [Blk.owns] at ho'
    · subst e; simp [Blk.owns] at ho
  · rcases get j _ hj with e | ⟨_, e⟩
    · exact h.obs j kk ll e
    · cases e
  · obtain ⟨j, x, hj, hx, hc⟩ := ho
    rcases get j _ hj with e | ⟨_, e⟩
    · exact ⟨j, x, e, hx, hc⟩
    · subst e; simp [Blk.owns] at hx

/-- A new object. -/
theorem Rel.allocObH (hi0 : Nat) {g : Gh} {m : Mem} {w w' : World} (h : Rel g m w) {i : Nat} {ob : ObK} {l : List AV} {vs : List Value} {o : Obj}
    (hi : m[i]? = some .free) (hv : VAs g w l vs) (hw : Grew w w' o) (his : ob.is o vs) (hroom : ob.room o hi0) :
    Rel (g.put i w.heap.size 0 hi0) (m.set i (.ob ob l)) w' ∧ Ext g w (g.put i w.heap.size 0 hi0) w' ∧ Stp g m w (g.put i w.heap.size 0 hi0) (m.set i (.ob ob l)) w' := by
  have hf := h.free i hi
  have hp : ∀ c o, g.pure c o → w'.cell? ⟨c, o, none⟩ = w.cell? ⟨c, o, none⟩ := fun c o p => cell?_of_heap (hw.old (h.pure_lt p))
  have bo : ∀ j, j ≠ i → (g.put i w.heap.size 0 hi0).blk j = g.blk j := fun j hj => by simp [Gh.put, hj]
  have bi : (g.put i w.heap.size 0 hi0).blk i = some w.heap.size := by simp [Gh.put]
  have ext : Ext g w (g.put i w.heap.size 0 hi0) w' := ⟨fun j c hc => by
    have : j ≠ i := fun e => by subst e; rw [hf] at hc; cases hc
    simp [Gh.put, this, hc], fun c o p => ⟨p, hp c o p⟩⟩
  have lt : ∀ j x c, m[j]? = some x → x.owns = true → g.blk j = some c → c < w.heap.size := fun j x c hj ho hc => h.owned_lt ⟨j, x, hj, ho, hc⟩
  have hil := lt_of_get hi
  refine ⟨⟨fun j hj => ?_, fun j hj => ?_, fun j x k hj hk => ?_, fun j c hj hc => ?_, fun j k x x' c hj hk ho ho' hc1 hc2 => ?_, fun c o p => ?_, fun j kk ll hj => ?_⟩, ext, ⟨by rw [hw.size]; omega, fun k hk _ => hw.old hk, fun c o p => ⟨p, hp c o p⟩, fun _ _ p => .inl p, fun c ho => ?_, hw.os, hw.tape, hw.output⟩⟩
  · rw [List.length_set] at hj
    rw [bo j (by omega)]; exact h.far j hj
  · rcases get_set hj with ⟨rfl, e⟩ | ⟨hji, e⟩
    · cases e
    · rw [bo j hji]; exact h.free j e
  · rcases get_set hj with ⟨rfl, e⟩ | ⟨hji, e⟩
    · subst e; cases hk
    · obtain ⟨c1, cs1, e1, n1, k1, k2, k3, k4, k5⟩ := h.cells j x k e hk
      exact ⟨c1, cs1, e1, n1, (bo j hji).trans k1, (hw.old (lt_of_heap k2)).trans k2, k3, k4.mono ext, k5⟩
  · rcases get_set hj with ⟨rfl, e⟩ | ⟨hji, e⟩
    · cases e
    · rw [bo j hji] at hc
      obtain ⟨cs1, e1, n1, k2, k3, k4, k5⟩ := h.tok j c e hc
      have h1 : (g.put i w.heap.size 0 hi0).hi j = g.hi j := by simp [Gh.put, hji]
      have h2 : (g.put i w.heap.size 0 hi0).lo j = g.lo j := by simp [Gh.put, hji]
      rw [h1, h2]
      exact ⟨cs1, e1, n1, (hw.old (lt_of_heap k2)).trans k2, k3, k4, k5⟩
  · rcases get_set hj with ⟨rfl, e⟩ | ⟨hji, e⟩ <;> rcases get_set hk with ⟨rfl, e'⟩ | ⟨hki, e'⟩
    · rfl
    · rw [bi] at hc1; cases hc1
      rw [bo k hki] at hc2
      exact absurd (lt k x' _ e' ho' hc2) (Nat.lt_irrefl _)
    · rw [bi] at hc2; cases hc2
      rw [bo j hji] at hc1
      exact absurd (lt j x _ e ho hc1) (Nat.lt_irrefl _)
    · rw [bo j hji] at hc1; rw [bo k hki] at hc2
      exact h.inj j k x x' c e e' ho ho' hc1 hc2
  · obtain ⟨v, hv⟩ := h.there c o p
    exact ⟨v, (hp c o p).trans hv⟩
  · rcases get_set hj with ⟨rfl, e⟩ | ⟨hji, e⟩
    · cases e
      exact ⟨_, _, vs, bi, hw.new, hv.mono ext, his, fun o p => absurd (h.pure_lt p) (Nat.lt_irrefl _), by simpa [Gh.put] using hroom⟩
    · obtain ⟨c1, ob1, vs1, k1, k2, k3, k6, k7, k8⟩ := h.obs j kk ll e
      exact ⟨c1, ob1, vs1, (bo j hji).trans k1, (hw.old (lt_of_heap k2)).trans k2, k3.mono ext, k6, k7, by simpa [Gh.put, hji] using k8⟩
  · obtain ⟨j, x, hj, hx, hc⟩ := ho
    rcases get_set hj with ⟨rfl, e⟩ | ⟨hji, e⟩
    · rw [bi] at hc; cases hc; exact .inr (Nat.le_refl _)
    · rw [bo j hji] at hc; exact .inl ⟨j, x, e, hx, hc⟩

theorem Rel.allocOb {g : Gh} {m : Mem} {w w' : World} (h : Rel g m w) {i : Nat} {ob : ObK} {l : List AV} {vs : List Value} {o : Obj}
    (hi : m[i]? = some .free) (hv : VAs g w l vs) (hw : Grew w w' o) (his : ob.is o vs) (hroom : ob.room o 0 := by trivial) :
    Rel (g.put i w.heap.size 0 0) (m.set i (.ob ob l)) w' ∧ Ext g w (g.put i w.heap.size 0 0) w' ∧ Stp g m w (g.put i w.heap.size 0 0) (m.set i (.ob ob l)) w' :=
  Rel.allocObH 0 h hi hv hw his hroom

/-- An object that is changed. -/
theorem Rel.writeOb {g : Gh} {m : Mem} {w w' : World} (h : Rel g m w) {i c : Nat} {ob ob' : ObK} {l l' : List AV} {vs' : List Value} {o' : Obj}
    (hi : m[i]? = some (.ob ob l)) (hc : g.blk i = some c)
    (hw : ∀ k, k ≠ c → w'.heap[k]? = w.heap[k]?) (hs : w'.heap.size = w.heap.size) (ho : w'.os = w.os) (ht : w'.tape = w.tape) (hu : w'.output = w.output)
    (hh : w'.heap[c]? = some o') (his : ob'.is o' vs') (hv : VAs g w l' vs') (hroom : ob'.room o' (g.hi i) := by trivial) :
    Rel g (m.set i (.ob ob' l')) w' ∧ Ext g w g w' ∧ Stp g m w g (m.set i (.ob ob' l')) w' := by
  obtain ⟨c0, ob0, vs0, h1, _, _, _, hnp, _⟩ := h.obs i ob l hi
  rw [hc] at h1; cases h1
  have hp : ∀ c' o, g.pure c' o → w'.cell? ⟨c', o, none⟩ = w.cell? ⟨c', o, none⟩ := fun c' o p => cell?_of_heap (hw c' fun e => hnp o (e ▸ p))
  have ext : Ext g w g w' := ⟨fun _ _ h => ⟨h, rfl, rfl⟩, fun c' o p => ⟨p, hp c' o p⟩⟩
  have ne : ∀ j x c', j ≠ i → m[j]? = some x → x.owns = true → g.blk j = some c' → c' ≠ c := fun j x c' hji hj ho hc' e => hji (h.inj j i x _ c hj hi ho rfl (e ▸ hc') hc)
  refine ⟨⟨fun j hj => h.far j (by simpa using hj), fun j hj => ?_, fun j x k hj hk => ?_, fun j c' hj hc' => ?_, fun j k x x' c' hj hk ho ho' hc1 hc2 => ?_, fun c' o p => ?_, fun j kk ll hj => ?_⟩, ext, ⟨by omega, fun k hk hn => ?_, fun c' o p => ⟨p, hp c' o p⟩, fun _ _ p => .inl p, fun c' ho' => ?_, ho, ht, hu⟩⟩
  · rcases get_set hj with ⟨rfl, e⟩ | ⟨_, e⟩
    · cases e
    · exact h.free j e
  · rcases get_set hj with ⟨rfl, e⟩ | ⟨hji, e⟩
    · subst e; cases hk
    · obtain ⟨c1, cs1, e1, n1, k1, k2, k3, k4, k5⟩ := h.cells j x k e hk
      exact ⟨c1, cs1, e1, n1, k1, (hw c1 (ne j x c1 hji e (owns_of_cells hk) k1)).trans k2, k3, k4.mono ext, k5⟩
  · rcases get_set hj with ⟨rfl, e⟩ | ⟨hji, e⟩
    · cases e
    · obtain ⟨cs1, e1, n1, k2, k3, k4, k5⟩ := h.tok j c' e hc'
      exact ⟨cs1, e1, n1, (hw c' (ne j _ c' hji e rfl hc')).trans k2, k3, k4, k5⟩
  · rcases get_set hj with ⟨rfl, e⟩ | ⟨hji, e⟩ <;> rcases get_set hk with ⟨rfl, e'⟩ | ⟨hki, e'⟩
    · rfl
    · rw [hc] at hc1; cases hc1
      exact absurd rfl (ne k x' _ hki e' ho' hc2)
    · rw [hc] at hc2; cases hc2
      exact absurd rfl (ne j x _ hji e ho hc1)
    · exact h.inj j k x x' c' e e' ho ho' hc1 hc2
  · obtain ⟨v, hv⟩ := h.there c' o p
    exact ⟨v, (hp c' o p).trans hv⟩
  · rcases get_set hj with ⟨rfl, e⟩ | ⟨hji, e⟩
    · cases e
      exact ⟨c, _, vs', hc, hh, hv.mono ext, his, hnp, hroom⟩
    · obtain ⟨c1, ob1, vs1, k1, k2, k3, k6, k7, k8⟩ := h.obs j kk ll e
      exact ⟨c1, ob1, vs1, k1, (hw c1 (ne j _ c1 hji e rfl k1)).trans k2, k3.mono ext, k6, k7, k8⟩
  · exact hw k fun e => hn ⟨i, _, hi, rfl, e ▸ hc⟩
  · rcases owned_set ho' with ⟨_, k⟩ | ⟨j, x, _, k1, k2, k3⟩
    · exact .inl ⟨i, _, hi, rfl, k⟩
    · exact .inl ⟨j, x, k1, k2, k3⟩

end Go.Am
