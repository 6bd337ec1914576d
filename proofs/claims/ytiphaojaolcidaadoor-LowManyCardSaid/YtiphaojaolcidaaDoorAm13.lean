/-
  Blocks by other numbers: the relations last.
-/
import Derived.Test.YtiphaojaolcidaaDoorAm12
namespace Go.Am
open Go.RowKit

/-- By new numbers the same lies at the same places. -/
structure Renames (ρ : Nat → Option Nat) (g g' : Gh) : Prop where
  at' : ∀ i k, ρ i = some k → g'.blk k = g.blk i ∧ g'.lo k = g.lo i ∧ g'.hi k = g.hi i
  pure : g'.pure = g.pure

theorem VP.pureEq {g g' : Gh} {w : World} (h : g'.pure = g.pure) {v : PV} {cv : Value} (hv : VP g w v cv) : VP g' w v cv := hv.mono fun c o p => ⟨by rw [h]; exact p, rfl⟩

theorem renL_length (ρ : Nat → Option Nat) : ∀ l : List AV, (renL ρ l).length = l.length
  | [] => rfl
  | a :: l => by simp [renL, renL_length ρ l]

theorem renL_get (ρ : Nat → Option Nat) : ∀ (l : List AV) (i : Nat) (h : i < (renL ρ l).length) (h' : i < l.length), (renL ρ l)[i] = ren ρ l[i]
  | _ :: _, 0, _, _ => rfl
  | _ :: l, i + 1, h, h' => renL_get ρ l i (Nat.lt_of_succ_lt_succ h) (Nat.lt_of_succ_lt_succ h')
  | [], _, _, h' => absurd h' (Nat.not_lt_zero _)

theorem VA.ren {ρ : Nat → Option Nat} {g g' : Gh} {w : World} (hr : Renames ρ g g') {a : AV} {v : Value} (h : VA g w a v) : VA g' w (Am.ren ρ a) v := by
  induction h with
  | junk v => exact .junk v
  | p v cv h => exact .p v cv (h.pureEq hr.pure)
  | os tok len sz cells a cap h ht =>
    have h' := h.pureEq hr.pure
    cases tok with
    | none => exact .os none len sz cells a cap h' (ht.imp id fun ⟨t, _, _, e, _⟩ => by cases e)
    | some t =>
      simp only [Am.ren]
      cases hρ : ρ t with
      | none => exact .p _ _ h'
      | some k =>
        obtain ⟨e1, e2, e3⟩ := hr.at' t k hρ
        refine .os (some k) len sz cells a cap h' (ht.imp id ?_)
        rintro ⟨t', b, o, e, rfl, q1, q2, q3, q4⟩
        cases e
        exact ⟨k, b, o, rfl, rfl, e1.trans q1, e2.trans q2, e3.trans q3, q4⟩
  | mp b off c h =>
    simp only [Am.ren]
    cases hρ : ρ b with
    | none => exact .junk _
    | some k => exact .mp k off c ((hr.at' b k hρ).1.trans h)
  | ms b off len sz cap c h hc =>
    simp only [Am.ren]
    cases hρ : ρ b with
    | none => exact .junk _
    | some k => exact .ms k off len sz cap c ((hr.at' b k hρ).1.trans h) hc
  | mg b off len sz cap c h hc hh =>
    simp only [Am.ren]
    cases hρ : ρ b with
    | none => exact .junk _
    | some k => exact .mg k off len sz cap c ((hr.at' b k hρ).1.trans h) hc (by rw [(hr.at' b k hρ).2.2]; exact hh)
  | vm b c h =>
    simp only [Am.ren]
    cases hρ : ρ b with
    | none => exact .junk _
    | some k => exact .vm k c ((hr.at' b k hρ).1.trans h)
  | vy b c h =>
    simp only [Am.ren]
    cases hρ : ρ b with
    | none => exact .junk _
    | some k => exact .vy k c ((hr.at' b k hρ).1.trans h)
  | fn f l k fa ca hl hk h h2 ih ih2 =>
    simp only [Am.ren]
    exact .fn f _ _ fa ca (by rw [renL_length]; exact hl) (by rw [renL_length]; exact hk)
      (fun i a b => by rw [renL_get ρ l i a (by rwa [renL_length] at a)]; exact ih i _ b) (fun i a b => by rw [renL_get ρ k i a (by rwa [renL_length] at a)]; exact ih2 i _ b)
  | agg l cs hl h ih =>
    simp only [Am.ren]
    exact .agg _ cs (by rw [renL_length]; exact hl) (fun i a b => by rw [renL_get ρ l i a (by rwa [renL_length] at a)]; exact ih i _ b)
  | tup l cs hl h ih =>
    simp only [Am.ren]
    exact .tup _ cs (by rw [renL_length]; exact hl) (fun i a b => by rw [renL_get ρ l i a (by rwa [renL_length] at a)]; exact ih i _ b)
  | ifc t v cv h ih => exact .ifc t _ cv ih

theorem VAs.ren {ρ : Nat → Option Nat} {g g' : Gh} {w : World} (hr : Renames ρ g g') : ∀ {l : List AV} {vs : List Value}, VAs g w l vs → VAs g' w (renL ρ l) vs
  | [], [], _ => trivial
  | _ :: _, _ :: _, h => ⟨h.1.ren hr, VAs.ren hr h.2⟩
  | [], _ :: _, h => h.elim
  | _ :: _, [], h => h.elim

theorem VAs.keepP {ρ : Nat → Option Nat} {g g' : Gh} {w : World} (hr : Renames ρ g g') : ∀ {l : List AV} {vs : List Value}, VAs g w l vs → VAs g' w (l.map keepP) vs
  | [], [], _ => trivial
  | a :: _, _ :: _, h => ⟨by
      cases a with
      | p v => exact h.1.ren hr
      | _ => exact .junk _, VAs.keepP hr h.2⟩
  | [], _ :: _, h => h.elim
  | _ :: _, [], h => h.elim

theorem VAs.renOr {ρ : Nat → Option Nat} {g g' : Gh} {w : World} (hr : Renames ρ g g') {l l' : List AV} {vs : List Value} (h : VAs g w l vs) (hl : l' = renL ρ l ∨ l' = l.map Am.keepP) : VAs g' w l' vs := by
  rcases hl with rfl | rfl
  · exact h.ren hr
  · exact VAs.keepP hr h

theorem renL_p (ρ : Nat → Option Nat) : ∀ l : List PV, renL ρ (l.map .p) = l.map .p
  | [] => rfl
  | v :: l => by simp [renL, Am.ren, renL_p ρ l]

theorem renB_isOb (ρ : Nat → Option Nat) (k : ObK) (vals : List AV) : ∃ l, renB ρ (.ob k vals) = .ob k l := by
  cases k with
  | gr t q => cases q <;> exact ⟨_, rfl⟩
  | _ => exact ⟨_, rfl⟩

theorem renB_cells {ρ : Nat → Option Nat} {b : Blk} {l' : List AV} (h : (renB ρ b).cells? = some l') : ∃ l, b.cells? = some l ∧ l' = renL ρ l := by
  cases b with
  | pc l => simp only [renB, Blk.cells?, Option.some.injEq] at h; exact ⟨_, rfl, by rw [renL_p]; exact h.symm⟩
  | ac l => simp only [renB, Blk.cells?, Option.some.injEq] at h; exact ⟨l, rfl, h.symm⟩
  | ob k vals =>
    obtain ⟨l0, e⟩ := renB_isOb ρ k vals
    rw [e] at h
    cases h
  | _ => simp [renB, Blk.cells?] at h

theorem cells_renB {ρ : Nat → Option Nat} {b : Blk} {l : List AV} (h : b.cells? = some l) : (renB ρ b).cells? = some (renL ρ l) := by
  cases b with
  | pc l => simp only [Blk.cells?, Option.some.injEq] at h; subst h; simp [renB, Blk.cells?, renL_p]
  | ac l => simp only [Blk.cells?, Option.some.injEq] at h; subst h; simp [renB, Blk.cells?]
  | _ => simp [Blk.cells?] at h

theorem renB_owns {ρ : Nat → Option Nat} {b : Blk} : (renB ρ b).owns = b.owns := by unfold renB; split <;> rfl

theorem renB_ob {ρ : Nat → Option Nat} {b : Blk} {k : ObK} {l : List AV} (h : renB ρ b = .ob k l) : ∃ l0, b = .ob k l0 ∧ (l = renL ρ l0 ∨ l = l0.map keepP) := by
  unfold renB at h
  split at h <;> cases h
  · exact ⟨_, rfl, .inr rfl⟩
  · exact ⟨_, rfl, .inl rfl⟩
  · rename_i hne
    exact (hne _ _ rfl).elim

theorem renB_free {ρ : Nat → Option Nat} {b : Blk} (h : renB ρ b = .free) : b = .free := by unfold renB at h; split at h <;> first | exact h | cases h
theorem renB_tok {ρ : Nat → Option Nat} {b : Blk} (h : renB ρ b = .tok) : b = .tok := by unfold renB at h; split at h <;> first | exact h | cases h

theorem idx_get {ord : List Nat} {i k : Nat} (h : idx ord i = some k) : ord[k]? = some i := by
  induction ord generalizing k with
  | nil => simp [idx] at h
  | cons j ord ih =>
    simp only [idx] at h
    cases hb : Nat.beq i j with
    | true => simp only [hb, cond_true, Option.some.injEq] at h; subst h; rw [Nat.eq_of_beq_eq_true hb]; rfl
    | false =>
      simp only [hb, cond_false, Option.map_eq_some_iff] at h
      obtain ⟨k', h1, rfl⟩ := h
      exact ih h1

def Gh.pack (g : Gh) (ord : List Nat) : Gh where
  blk k := (ord[k]?).bind g.blk
  lo k := match ord[k]? with | some i => g.lo i | none => 0
  hi k := match ord[k]? with | some i => g.hi i | none => 0
  pure := g.pure

theorem Renames.pack (g : Gh) (ord : List Nat) : Renames (idx ord) g (g.pack ord) :=
  ⟨fun i k h => by have := idx_get h; simp [Gh.pack, this], rfl⟩

theorem pack_get {m : Mem} {ord : List Nat} {k : Nat} {b : Blk} (h : (pack m ord)[k]? = some b) : ∃ i, ord[k]? = some i ∧ b = renB (idx ord) (m.getD i .dead) := by
  simp only [pack, List.getElem?_map, Option.map_eq_some_iff] at h
  obtain ⟨i, h1, h2⟩ := h
  exact ⟨i, h1, h2.symm⟩

theorem getD_cells {m : Mem} {i : Nat} {l : List AV} (h : (m.getD i .dead).cells? = some l) : m[i]? = some (m.getD i .dead) :=
  getD_some rfl fun e => by rw [e] at h; cases h

theorem getD_owns {m : Mem} {i : Nat} (h : (m.getD i .dead).owns = true) : m[i]? = some (m.getD i .dead) :=
  getD_some rfl fun e => by rw [e] at h; cases h

theorem nodup_inj {l : List Nat} (h : l.Nodup) {j k i : Nat} (hj : l[j]? = some i) (hk : l[k]? = some i) : j = k := by
  obtain ⟨a, ha⟩ := List.getElem?_eq_some_iff.1 hj
  obtain ⟨b, hb⟩ := List.getElem?_eq_some_iff.1 hk
  rcases Nat.lt_trichotomy j k with q | q | q
  · exact absurd (ha.trans hb.symm) (List.pairwise_iff_getElem.1 h j k a b q)
  · exact q
  · exact absurd (hb.trans ha.symm) (List.pairwise_iff_getElem.1 h k j b a q)

/-- Some blocks alone. -/
theorem Rel.pack {g : Gh} {m : Mem} {w : World} (h : Rel g m w) {ord : List Nat} (hnd : ord.Nodup) :
    Rel (g.pack ord) (Am.pack m ord) w ∧ (∀ c, Owned (g.pack ord) (Am.pack m ord) c → Owned g m c) := by
  have own : ∀ k b c, (Am.pack m ord)[k]? = some b → b.owns = true → (g.pack ord).blk k = some c → ∃ i, ord[k]? = some i ∧ m[i]? = some (m.getD i .dead) ∧ (m.getD i .dead).owns = true ∧ g.blk i = some c := by
    intro k b c hk ho hc
    obtain ⟨i, h1, rfl⟩ := pack_get hk
    rw [renB_owns] at ho
    exact ⟨i, h1, getD_owns ho, ho, by simpa [Gh.pack, h1] using hc⟩
  refine ⟨⟨fun k hk => ?_, fun k hk => ?_, fun k b l hk hl => ?_, fun k c hk hc => ?_, fun j k b b' c hj hk ho ho' hc hc' => ?_, h.there, fun k ob l hk => ?_⟩, fun c ho => ?_⟩
  · have : ord[k]? = none := List.getElem?_eq_none (by simpa [Am.pack] using hk)
    simp [Gh.pack, this]
  · obtain ⟨i, h1, h2⟩ := pack_get hk
    have h2 := renB_free h2.symm
    have := h.free i (getD_some h2 (by simp))
    simp [Gh.pack, h1, this]
  · obtain ⟨i, h1, rfl⟩ := pack_get hk
    obtain ⟨l0, h2, rfl⟩ := renB_cells hl
    obtain ⟨c, cs, e, n, k1, k2, k3, k4, k5⟩ := h.cells i _ _ (getD_cells h2) h2
    exact ⟨c, cs, e, n, by simpa [Gh.pack, h1] using k1, k2, k3, ⟨k4.1.ren (Renames.pack g ord), k4.2⟩, k5⟩
  · obtain ⟨i, h1, h2⟩ := pack_get hk
    have h2 := renB_tok h2.symm
    have hc : g.blk i = some c := by simpa [Gh.pack, h1] using hc
    have := h.tok i c (getD_some h2 (by simp)) hc
    simpa [Gh.pack, h1] using this
  · obtain ⟨i, h1, h2, h3, h4⟩ := own j b c hj ho hc
    obtain ⟨i', h1', h2', h3', h4'⟩ := own k b' c hk ho' hc'
    have := h.inj i i' _ _ c h2 h2' h3 h3' h4 h4'
    subst this
    exact nodup_inj hnd h1 h1'
  · obtain ⟨i, h1, h2⟩ := pack_get hk
    obtain ⟨l0, h3, hl0⟩ := renB_ob h2.symm
    obtain ⟨c, o, vs, k1, k2, k3, k4, k5, k6⟩ := h.obs i ob l0 (getD_some h3 (by simp))
    exact ⟨c, o, vs, by simpa [Gh.pack, h1] using k1, k2, k3.renOr (Renames.pack g ord) hl0, k4, k5, by simpa [Gh.pack, h1] using k6⟩
  · obtain ⟨k, b, hk, ho, hc⟩ := ho
    obtain ⟨i, _, h2, h3, h4⟩ := own k b c hk ho hc
    exact ⟨i, _, h2, h3, h4⟩

theorem has_iff {l : List Nat} {i : Nat} : has l i = true ↔ i ∈ l := by
  induction l with
  | nil => simp [has]
  | cons j l ih =>
    simp only [has]
    cases hb : Nat.beq j i with
    | true => simp [Nat.eq_of_beq_eq_true hb]
    | false =>
      have : j ≠ i := fun e => by subst e; simp [Nat.beq_refl] at hb
      simp [ih, Ne.symm this]

theorem addAll_spec : ∀ (l ord : List Nat), ord.Nodup → (addAll ord l).Nodup ∧ ∃ t, addAll ord l = ord ++ t
  | [], ord, h => ⟨h, [], by simp [addAll]⟩
  | i :: l, ord, h => by
    simp only [addAll]
    cases hb : has ord i with
    | true => exact addAll_spec l ord h
    | false =>
      have hni : i ∉ ord := fun k => by rw [has_iff.2 k] at hb; cases hb
      obtain ⟨h1, t, h2⟩ := addAll_spec l (ord ++ [i]) (List.nodup_append.2 ⟨h, by simp, fun a ha b hb => by simp at hb; subst hb; exact fun e => hni (e ▸ ha)⟩)
      exact ⟨h1, i :: t, by simp only [cond_false, h2, List.append_assoc, List.singleton_append]⟩

theorem reach_spec (m : Mem) : ∀ (f : Nat) (ord : List Nat) (k : Nat), ord.Nodup → (reach m f ord k).Nodup ∧ ∃ t, reach m f ord k = ord ++ t
  | 0, ord, _, h => ⟨h, [], by simp [reach]⟩
  | f + 1, ord, k, h => by
    simp only [reach]
    cases hk : ord[k]? with
    | none => exact ⟨h, [], by simp⟩
    | some i =>
      obtain ⟨h1, t, h2⟩ := addAll_spec (bRefs (m.getD i .dead)) ord h
      obtain ⟨h3, t', h4⟩ := reach_spec m f (addAll ord (bRefs (m.getD i .dead))) (k + 1) h1
      refine ⟨h3, t ++ t', ?_⟩
      show reach m f (addAll ord (bRefs (m.getD i .dead))) (k + 1) = _
      rw [h4, h2, List.append_assoc]

theorem upTo_length : ∀ n, (upTo n).length = n
  | 0 => rfl
  | n + 1 => by simp [upTo, upTo_length n]

theorem upTo_get : ∀ (n k : Nat), k < n → (upTo n)[k]? = some k
  | 0, _, h => absurd h (Nat.not_lt_zero _)
  | n + 1, k, h => by
    simp only [upTo, List.getElem?_append, upTo_length]
    by_cases hk : k < n
    · rw [if_pos hk, upTo_get n k hk]
    · have : k = n := by omega
      subst this; simp

theorem upTo_mem {n i : Nat} (h : i ∈ upTo n) : i < n := by
  induction n with
  | zero => simp [upTo] at h
  | succ n ih =>
    simp only [upTo, List.mem_append, List.mem_singleton] at h
    rcases h with h | rfl
    · have := ih h; omega
    · omega

theorem upTo_nodup : ∀ n, (upTo n).Nodup
  | 0 => by simp [upTo]
  | n + 1 => List.nodup_append.2 ⟨upTo_nodup n, by simp, fun a ha b hb => by simp at hb; subst hb; have := upTo_mem ha; omega⟩

theorem close_spec (m : Mem) (fix : Nat) (vs : List AV) : (close m fix vs).Nodup ∧ ∀ k, k < fix → (close m fix vs)[k]? = some k := by
  obtain ⟨h1, t, h2⟩ := addAll_spec (refsL vs) (upTo fix) (upTo_nodup fix)
  obtain ⟨h3, t', h4⟩ := reach_spec m (m.length + 1) (addAll (upTo fix) (refsL vs)) 0 h1
  refine ⟨h3, fun k hk => ?_⟩
  unfold close
  rw [h4, h2, List.append_assoc, List.getElem?_append_left (by rw [upTo_length]; exact hk), upTo_get fix k hk]

end Go.Am
