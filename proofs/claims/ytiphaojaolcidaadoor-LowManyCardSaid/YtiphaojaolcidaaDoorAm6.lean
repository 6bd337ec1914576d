/-
  Operations that change no memory: addresses, parts, slices, arithmetic, comparisons.
-/
import Derived.Test.YtiphaojaolcidaaDoorAm5
namespace Go.Am
open Go.RowKit

section ops
variable {P : Program} {g : Gh} {m : Mem} {w : World} {ρ : Operand → AV} {ρc : Operand → Value} {o : Oper}

theorem addrAdd_sound {x a : AV} {cx : Value} {n : Nat} (h : addrAdd x n = some a) (hx : VA g w x cx) :
    ∃ c o, cx = .pointer (some ⟨c, o, none⟩) ∧ VA g w a (.pointer (some ⟨c, o + n, none⟩)) := by
  cases hx with
  | p v cv hv =>
    cases hv with
    | pp off cells b o f hp hv =>
      simp only [addrAdd, Option.some.injEq] at h; subst h
      exact ⟨b, o + off, rfl, .p _ _ (by rw [Nat.add_assoc]; exact .pp (off + n) cells b o f hp hv)⟩
    | _ => simp [addrAdd] at h
  | mp b off c hc =>
    simp only [addrAdd, Option.some.injEq] at h; subst h
    exact ⟨c, off, rfl, .mp b (off + n) c hc⟩
  | _ => simp [addrAdd] at h

theorem run_fieldPlace {c o : Nat} {f : Field} {n : Nat} (h : szOf P f.type = some n) (hn : n ≠ 0) :
    (fieldPlace ⟨c, o, none⟩ f).run P w = .ok ⟨c, o + f.offset, none⟩ w := by
  simp [fieldPlace, run_sizeOf' h, hn, addr_add]

theorem fieldAddrOp_sound {t : TypeId} {x a : AV} {cx : Value} {f : Nat} (h : fieldAddrOp P t x f = some a) (hx : VA g w x cx) :
    ∃ v, (Instr.fieldAt t cx f).run P w = .ok v w ∧ VA g w a v := by
  unfold fieldAddrOp at h
  split at h
  · rename_i fields hu
    split at h
    · rename_i fd hf
      split at h
      · rename_i n hn
        cases hb : Nat.ble 1 n with
        | false => simp [hb] at h
        | true =>
          simp only [hb, cond_true] at h
          have h1 := Nat.le_of_ble_eq_true hb
          obtain ⟨c, o, rfl, ha⟩ := addrAdd_sound h hx
          refine ⟨_, ?_, ha⟩
          simp [Instr.fieldAt, run_underlying hu, hf, Instr.sureAddr, run_fieldPlace hn (by omega : n ≠ 0)]
      · cases h
    · cases h
  · cases h

theorem inB_iff {i : Int} {n : Nat} : inB i n = true ↔ 0 ≤ i ∧ i < n := by simp [inB]

theorem indexAddrOp_sound {t : TypeId} {x i a : AV} {cx ci : Value} (h : indexAddrOp P t x i = some (a, true)) (hx : VA g w x cx) (hi : VA g w i ci) :
    ∃ v, (Instr.indexAt t cx ci).run P w = .ok v w ∧ VA g w a v := by
  unfold indexAddrOp at h
  split at h
  · rename_i k n len elem hu
    rw [VA.pv] at hi; cases hi
    split at h
    · rename_i size hsz
      simp only [Option.map_eq_some_iff, Prod.mk.injEq] at h
      obtain ⟨a', h1, rfl, h2⟩ := h
      obtain ⟨c, o, rfl, ha⟩ := addrAdd_sound h1 hx
      rw [inB_iff] at h2
      refine ⟨_, ?_, ha⟩
      simp [Instr.indexAt, asIntOf, run_underlying hu, Instr.sureAddr, h2, run_sizeOf' hsz, addr_add]
    · cases h
  · rename_i k n elem hu
    rw [VA.pv] at hi; cases hi
    split at h
    · rename_i size len sz cs hsz
      simp only [Option.some.injEq, Prod.mk.injEq, Bool.and_eq_true] at h
      obtain ⟨rfl, h2, _⟩ := h
      rw [inB_iff] at h2
      rw [VA.pv] at hx
      cases hx with
      | ps _ _ _ b o cap f hl hc hz hp hv =>
        refine ⟨_, ?_, .p _ _ (.pp (n.toNat * size) cs b o f hp hv)⟩
        simp [Instr.indexAt, asIntOf, run_underlying hu, h2, run_sizeOf' hsz, addr_add]
      | psE sz a cap => simp at h2; omega
    · rename_i size tok len sz cs hsz
      simp only [Option.some.injEq, Prod.mk.injEq, Bool.and_eq_true] at h
      obtain ⟨rfl, h2, _⟩ := h
      rw [inB_iff] at h2
      cases hx with
      | os _ _ _ _ ad cap hx hr =>
        cases hx with
        | ps _ _ _ b o cap f hl hc hz hp hv =>
          refine ⟨_, ?_, .p _ _ (.pp (n.toNat * size) cs b o f hp hv)⟩
          simp [Instr.indexAt, asIntOf, run_underlying hu, h2, run_sizeOf' hsz, addr_add]
        | psE sz a cap => simp at h2; omega
    · rename_i size b off len sz cap hsz
      simp only [Option.some.injEq, Prod.mk.injEq, Bool.and_eq_true] at h
      obtain ⟨rfl, h2, _⟩ := h
      rw [inB_iff] at h2
      cases hx with
      | ms _ _ _ _ cap c hb hc =>
        refine ⟨_, ?_, .mp b _ c hb⟩
        simp [Instr.indexAt, asIntOf, run_underlying hu, h2, run_sizeOf' hsz, addr_add]
      | mg _ _ _ _ cap c hb hc =>
        refine ⟨_, ?_, .mp b _ c hb⟩
        simp [Instr.indexAt, asIntOf, run_underlying hu, h2, run_sizeOf' hsz, addr_add]
    · cases h
  · cases h

theorem getN_take {α : Type} (d : α) : ∀ (n : Nat) (l : List α) (off : Nat), off + n ≤ l.length → getN d l off n = (l.drop off).take n
  | 0, _, _, _ => by simp [getN]
  | n + 1, l, off, h => by
    have hlt : off < l.length := by omega
    rw [getN, getN_take d n l (off + 1) (by omega), List.drop_eq_getElem_cons hlt, List.take_succ_cons, List.getD_eq_getElem?_getD, List.getElem?_eq_getElem hlt]
    rfl

theorem partOf_sound {t : TypeId} {cs : List AV} {ca : Array Value} {off : Nat} {a : AV} (h : partOf P t cs off = some (a, true)) (hc : VAs g w cs ca.toList) :
    ∃ v, (part t ca off).run P w = .ok v w ∧ VA g w a v := by
  have hlen := hc.len
  unfold partOf at h
  split at h
  · rename_i n hag hsz
    simp only [Option.some.injEq, Prod.mk.injEq] at h
    obtain ⟨rfl, h2⟩ := h
    have h2 := Nat.le_of_ble_eq_true h2
    refine ⟨_, by simp [part, run_isAgg' hag, run_sizeOf' hsz]; rfl, VA.aggs.2 ?_⟩
    rw [getN_take _ _ _ _ h2]
    have := (hc.drop off).take n
    simpa [List.drop_take] using this
  · rename_i n hag hsz
    simp only [Option.some.injEq, Prod.mk.injEq] at h
    obtain ⟨rfl, h2⟩ := h
    have h2 : off < cs.length := by simpa [Nat.blt_eq] using h2
    have h3 : off < ca.size := by simp at hlen; omega
    refine ⟨ca[off], by simp [part, run_isAgg' hag, Array.getElem?_eq_getElem h3], ?_⟩
    rw [List.getD_eq_getElem?_getD, List.getElem?_eq_getElem h2]
    exact hc.get off h2 (by simpa using h3)
  · cases h

theorem fieldOp_sound {t : TypeId} {x a : AV} {cx : Value} {f : Nat} (h : fieldOp P t x f = some (a, true)) (hx : VA g w x cx) :
    ∃ v, (Instr.field t cx f).run P w = .ok v w ∧ VA g w a v := by
  unfold fieldOp at h
  split at h
  · rename_i fields cs hu
    split at h
    · rename_i fd hf
      cases hx with
      | agg _ ca hl hh =>
        obtain ⟨v, h1, h2⟩ := partOf_sound h (VA.aggs.1 (.agg cs ca hl hh))
        exact ⟨v, by simp [Instr.field, run_underlying hu, hf, asAgg, h1], h2⟩
    · cases h
  · cases h

theorem byteArray_get? (s : ByteArray) (i : Nat) : s[i]? = s.data.toList[i]? := by
  rcases Nat.lt_or_ge i s.size with h | h
  · have h2 : i < s.data.toList.length := by rw [Array.length_toList]; exact h
    rw [getElem?_pos s i h, List.getElem?_eq_getElem h2]
    rfl
  · have h2 : s.data.toList.length ≤ i := by rw [Array.length_toList]; exact h
    rw [getElem?_neg s i (Nat.not_lt.2 h), List.getElem?_eq_none h2]

theorem indexOp_sound {t : TypeId} {x i a : AV} {cx ci : Value} (h : indexOp P t x i = some (a, true)) (hx : VA g w x cx) (hi : VA g w i ci) :
    ∃ v, (Instr.index t cx ci).run P w = .ok v w ∧ VA g w a v := by
  unfold indexOp at h
  split at h
  · rename_i cs k n
    rw [VA.pv] at hi; cases hi
    split at h
    · rename_i len elem hu
      split at h
      · rename_i size v ok hsz hp
        simp only [Option.some.injEq, Prod.mk.injEq, Bool.and_eq_true] at h
        obtain ⟨rfl, h1, rfl⟩ := h
        rw [inB_iff] at h1
        cases hx with
        | agg _ ca hl hh =>
          simp only [hsz, Option.getD_some] at hp
          obtain ⟨v, h2, h3⟩ := partOf_sound hp (VA.aggs.1 (.agg cs ca hl hh))
          refine ⟨v, ?_, h3⟩
          simp [Instr.index, asIntOf, run_underlying hu, h1, run_sizeOf' hsz, h2]
      · cases h
    · cases h
  · rename_i s k n
    rw [VA.pv] at hi hx; cases hi; cases hx
    split at h
    · rename_i hu
      simp only [Option.some.injEq, Prod.mk.injEq] at h
      obtain ⟨rfl, h1⟩ := h
      rw [inB_iff] at h1
      have hlt : n.toNat < s.data.toList.length := by omega
      refine ⟨_, ?_, .p _ _ (.sc _)⟩
      simp only [Instr.index, asIntOf, run_underlying hu, Sem.run_bind, Sem.run_pure, Result.andThen_ok, h1.1, if_true, byteArray_get?, List.getElem?_eq_getElem hlt, List.getD_eq_getElem?_getD, Option.getD_some]
    · cases h
  · cases h

theorem bound_eq (hr : ∀ x, VA g w (ρ x) (ρc x)) {x : Option Operand} {d n : Nat} (h : bound ρ x d = some (n, true)) :
    (x = none ∧ n = d) ∨ (∃ y k i, x = some y ∧ ρc y = .int k i ∧ 0 ≤ i ∧ n = i.toNat) := by
  unfold bound at h
  split at h
  · simp only [Option.some.injEq, Prod.mk.injEq, and_true] at h; exact .inl ⟨rfl, h.symm⟩
  · rename_i y
    split at h
    · rename_i k i he
      simp only [Option.some.injEq, Prod.mk.injEq, decide_eq_true_eq] at h
      have := hr y
      rw [he, VA.pv] at this
      refine .inr ⟨y, k, i, rfl, ?_, h.2, h.1.symm⟩
      generalize ρc y = cv at this
      cases this; rfl
    · cases h

theorem run_sliceBound {k : IntKind} {i : Int} {y : Nat} {code : BoundsCode} (h0 : 0 ≤ i) (h1 : i.toNat ≤ y) : (Instr.sliceBound (.int k i) y code).run P w = .ok i.toNat w := by
  have : i ≤ y := by omega
  simp [Instr.sliceBound, asIntOf, h0, this]

theorem run_sliceBounds_none (hr : ∀ x, VA g w (ρ x) (ρc x)) {isS : Bool} {len cap l h : Nat} {low high : Option Operand}
    (hl : bound ρ low 0 = some (l, true)) (hh : bound ρ high len = some (h, true)) (h1 : l ≤ h) (h2 : h ≤ cap) :
    (Instr.sliceBounds isS len cap (low.map ρc) (high.map ρc) none).run P w = .ok (l, h, cap) w := by
  rcases bound_eq hr hl with ⟨rfl, rfl⟩ | ⟨y, k, i, rfl, hy, hi, rfl⟩ <;> rcases bound_eq hr hh with ⟨rfl, rfl⟩ | ⟨y', k', i', rfl, hy', hi', rfl⟩
  · simp [Instr.sliceBounds]
  · simp [Instr.sliceBounds, hy', run_sliceBound hi' h2]
  · simp [Instr.sliceBounds, hy, run_sliceBound hi h1]
  · simp [Instr.sliceBounds, hy, hy', run_sliceBound hi h1, run_sliceBound hi' h2]

theorem run_sliceBounds_some (hr : ∀ x, VA g w (ρ x) (ρc x)) {isS : Bool} {len cap l h : Nat} {low : Option Operand} {hx mx : Operand}
    (hl : bound ρ low 0 = some (l, true)) (hh : bound ρ (some hx) len = some (h, true)) (hm : bound ρ (some mx) 0 = some (h, true)) (h1 : l ≤ h) (h2 : h ≤ cap) :
    (Instr.sliceBounds isS len cap (low.map ρc) (some (ρc hx)) (some (ρc mx))).run P w = .ok (l, h, h) w := by
  rcases bound_eq hr hh with ⟨e, _⟩ | ⟨y', k', i', e, hy', hi', rfl⟩
  · cases e
  cases e
  rcases bound_eq hr hm with ⟨e, _⟩ | ⟨y2, k2, i2, e, hy2, hi2, e2⟩
  · cases e
  cases e
  rw [e2] at h2
  rcases bound_eq hr hl with ⟨rfl, rfl⟩ | ⟨y, k, i, rfl, hy, hi, rfl⟩
  · simp only [Instr.sliceBounds, Sem.run_bind, hy', hy2, run_sliceBound hi2 h2, Result.andThen_ok, Option.map_none, Sem.run_pure]
    rw [run_sliceBound hi' (by omega)]; simp [e2]
  · simp only [Instr.sliceBounds, Sem.run_bind, hy, hy', hy2, run_sliceBound hi2 h2, Result.andThen_ok, Option.map_some]
    rw [run_sliceBound hi' (by omega)]
    simp only [Result.andThen_ok]
    rw [run_sliceBound hi (by omega)]; simp [e2]

theorem run_sliceBounds_max (hr : ∀ x, VA g w (ρ x) (ρc x)) {isS : Bool} {len cap l h m' : Nat} {low : Option Operand} {hx mx : Operand}
    (hl : bound ρ low 0 = some (l, true)) (hh : bound ρ (some hx) len = some (h, true)) (hm : bound ρ (some mx) 0 = some (m', true)) (h1 : l ≤ h) (h2 : h ≤ m') (h3 : m' ≤ cap) :
    (Instr.sliceBounds isS len cap (low.map ρc) (some (ρc hx)) (some (ρc mx))).run P w = .ok (l, h, m') w := by
  rcases bound_eq hr hh with ⟨e, _⟩ | ⟨y', k', i', e, hy', hi', rfl⟩
  · cases e
  cases e
  rcases bound_eq hr hm with ⟨e, _⟩ | ⟨y2, k2, i2, e, hy2, hi2, rfl⟩
  · cases e
  cases e
  rcases bound_eq hr hl with ⟨rfl, rfl⟩ | ⟨y, k, i, rfl, hy, hi, rfl⟩
  · simp only [Instr.sliceBounds, Sem.run_bind, hy', hy2, run_sliceBound hi2 h3, Result.andThen_ok, Option.map_none, Sem.run_pure]
    rw [run_sliceBound hi' h2]; simp
  · simp only [Instr.sliceBounds, Sem.run_bind, hy, hy', hy2, run_sliceBound hi2 h3, Result.andThen_ok, Option.map_some]
    rw [run_sliceBound hi' h2]
    simp only [Result.andThen_ok]
    rw [run_sliceBound hi h1]; simp

theorem cut_spec {α : Type} (cs : List α) {len l h size : Nat} {low high : Option Operand} (hl : cs.length = len * size) (h1 : l ≤ h) (h2 : h ≤ len) (e1 : low = none → l = 0) (e2 : high = none → h = len) :
    cut cs (times low l size) (times high h size) = (cs.drop (l * size)).take ((h - l) * size) := by
  have hlh : (h - l) * size = h * size - l * size := Nat.sub_mul _ _ _
  have hhl : h * size ≤ len * size := Nat.mul_le_mul_right _ h2
  have hll : l * size ≤ h * size := Nat.mul_le_mul_right _ h1
  unfold cut times
  cases low with
  | none =>
    have := e1 rfl; subst this
    cases high with
    | none => have := e2 rfl; subst this; simp [hl, List.take_of_length_le]
    | some _ => simp
  | some _ =>
    cases high with
    | none =>
      have := e2 rfl; subst this
      simp only [Option.map_some, Option.map_none]
      rw [List.take_of_length_le]
      simp [hl, hlh]
    | some _ => simp only [Option.map_some]; rw [List.drop_take, hlh]

/-- A part of a pure slice. -/
theorem ps_part {len sz : Nat} {cs : List PV} {a : Option Addr} {cap l h m' : Nat} (hx : VP g w (.ps len sz cs) (.slice a len cap)) (h1 : l ≤ h) (h2 : h ≤ len) (h3 : h ≤ m') (h4 : m' ≤ cap) :
    VP g w (.ps (h - l) sz ((cs.drop (l * sz)).take ((h - l) * sz))) (.slice (if m' = l then a else a.map (·.add (l * sz))) (h - l) (m' - l)) := by
  cases hx with
  | ps _ _ _ b o cap f hl hc hz hp hv =>
    have hlh : (h - l) * sz = h * sz - l * sz := Nat.sub_mul _ _ _
    have hhl : h * sz ≤ len * sz := Nat.mul_le_mul_right _ h2
    have hll : l * sz ≤ h * sz := Nat.mul_le_mul_right _ h1
    by_cases e : m' = l
    · have : h - l = 0 := by omega
      simp only [this, Nat.zero_mul, List.take_zero]
      exact .psE _ _ _ (.inl hz)
    · simp only [if_neg e, Option.map_some, addr_add]
      refine .ps _ _ _ b (o + l * sz) _ (fun k => f (l * sz + k)) (by simp [hl, hlh]; omega) (by omega) hz (fun k hk => ?_) (fun k hk => ?_)
      · simp only [List.length_take, List.length_drop, hl] at hk
        have := hp (l * sz + k) (by omega)
        rw [Nat.add_assoc]; exact this
      · simp only [List.length_take, List.length_drop, hl] at hk
        have := hv (l * sz + k) (by omega)
        simpa using this
  | psE sz a cap hz =>
    have : h - l = 0 := by omega
    simp only [this, List.drop_nil, List.take_nil]
    exact .psE _ _ _ (hz.imp id fun ⟨e, e2⟩ => by subst e; subst e2; exact ⟨by split <;> rfl, by omega⟩)

/-- The element's size of an empty slice is any. -/
theorem ps_size {len sz size : Nat} {cs : List PV} {a : Option Addr} {cap : Nat} (hx : VP g w (.ps len sz cs) (.slice a len cap)) (h : (Nat.beq sz size || (Nat.beq len 0 && Nat.ble 1 size)) = true) : VP g w (.ps len size cs) (.slice a len cap) := by
  simp only [Bool.or_eq_true, Bool.and_eq_true, Nat.beq_eq] at h
  rcases h with rfl | ⟨rfl, h1⟩
  · exact hx
  · have h1 := Nat.le_of_ble_eq_true h1
    cases hx with
    | ps _ _ _ b o cap f hl hc hz hp hv =>
      simp at hl; subst hl
      exact .psE _ _ _ (.inl h1)
    | psE => exact .psE _ _ _ (.inl h1)

theorem ps_len {len sz : Nat} {cs : List PV} {cv : Value} (hx : VP g w (.ps len sz cs) cv) : cs.length = len * sz ∧ ∃ a cap, cv = .slice a len cap ∧ (len ≤ cap) := by
  cases hx with
  | ps _ _ _ b o cap f hl hc hz hp hv => exact ⟨hl, _, _, rfl, hc⟩
  | psE => exact ⟨by simp, _, _, rfl, Nat.zero_le _⟩

end ops
end Go.Am
