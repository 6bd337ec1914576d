/-
  Operations that change no memory, more: slices, arithmetic, comparisons, conversions of numbers, lengths.
-/
import Derived.Test.YtiphaojaolcidaaDoorAm6
namespace Go.Am
open Go.RowKit

theorem bound_none {ρ : Operand → AV} {d n : Nat} {b : Bool} (h : bound ρ none d = some (n, b)) : n = d := by
  simp only [bound, Option.some.injEq, Prod.mk.injEq] at h; exact h.1.symm

section ops
variable {P : Program} {g : Gh} {m : Mem} {w : World} {ρ : Operand → AV} {ρc : Operand → Value} {o : Oper}

theorem sliceOp_sound (hr : ∀ x, VA g w (ρ x) (ρc x)) {t : TypeId} {x a : AV} {cx : Value} {low high mx : Option Operand} (h : sliceOp P ρ t x low high mx = some (a, true)) (hx : VA g w x cx) :
    ∃ v, (Instr.sliceAt t cx (low.map ρc) (high.map ρc) (mx.map ρc)).run P w = .ok v w ∧ VA g w a v := by
  unfold sliceOp at h
  split at h
  · rename_i n elem hu
    split at h
    · rename_i size l a' h' b' i off hsz hl hh
      simp only [Option.some.injEq, Prod.mk.injEq, Bool.and_eq_true] at h
      obtain ⟨rfl, ⟨⟨rfl, rfl⟩, h1⟩, h2⟩ := h
      have h1 := Nat.le_of_ble_eq_true h1
      have h2 := Nat.le_of_ble_eq_true h2
      cases hx with
      | mp _ _ c hc =>
        have e : (if n = l then (⟨c, off, none⟩ : Addr) else (⟨c, off, none⟩ : Addr).add (l * size)) = ⟨c, cond (Nat.beq n l) off (off + l * size), none⟩ := by
          by_cases e : n = l
          · simp [e]
          · have : Nat.beq n l = false := by rw [Bool.eq_false_iff]; intro k; exact e (Nat.eq_of_beq_eq_true k)
            simp [e, this, addr_add]
        refine ⟨_, ?_, .ms i (cond (Nat.beq n l) off (off + l * size)) (h' - l) size (n - l) c hc (by omega)⟩
        simp only [Instr.sliceAt, Sem.run_bind, run_underlying hu, Result.andThen_ok, Instr.sureAddr, Option.map_none, run_sliceBounds_none hr hl hh h1 h2, run_sizeOf' hsz, Sem.run_pure, e]
    · cases h
  · rename_i elem hu
    split at h
    · rename_i size l a' len sz cs hsz hl
      rw [VA.pv] at hx
      obtain ⟨hlen, ad, cap, rfl, hcap⟩ := ps_len hx
      split at h
      · rename_i h' b' hh
        simp only [Option.some.injEq, Prod.mk.injEq, Bool.and_eq_true, Nat.beq_eq] at h
        obtain ⟨rfl, ⟨⟨⟨rfl, rfl⟩, h1⟩, h2⟩, rfl⟩ := h
        have h1 := Nat.le_of_ble_eq_true h1
        have h2 := Nat.le_of_ble_eq_true h2
        refine ⟨_, ?_, .p _ _ (by rw [cut_spec cs hlen h1 h2 (fun e : low = none => bound_none (e ▸ hl)) (fun e => bound_none (e ▸ hh))]; exact ps_part hx h1 h2 (Nat.le_trans h2 hcap) (Nat.le_refl _))⟩
        simp only [Instr.sliceAt, Instr.slice, Sem.run_bind, run_underlying hu, Result.andThen_ok, Option.map_none, run_sliceBounds_none hr hl hh h1 (Nat.le_trans h2 hcap), run_sizeOf' hsz, Sem.run_pure]
      · rename_i h' b' mo hh
        split at h
        · rename_i m' c' hm
          simp only [Option.some.injEq, Prod.mk.injEq, Bool.and_eq_true, Nat.beq_eq] at h
          obtain ⟨rfl, ⟨⟨⟨⟨⟨rfl, rfl⟩, rfl⟩, h1⟩, h2⟩, rfl⟩, h3, rfl⟩ := h
          have h1 := Nat.le_of_ble_eq_true h1
          have h2 := Nat.le_of_ble_eq_true h2
          obtain ⟨hx', rfl⟩ := Option.isSome_iff_exists.1 h3
          have hv := ps_part (m' := m') hx h1 h2 (Nat.le_refl _) (Nat.le_trans h2 hcap)
          refine ⟨_, ?_, .os none (m' - l) sz _ _ _ (by rw [cut_spec cs hlen h1 h2 (fun e : low = none => bound_none (e ▸ hl)) (fun e => by cases e)]; exact hv) (.inl rfl)⟩
          simp only [Instr.sliceAt, Instr.slice, Sem.run_bind, run_underlying hu, Result.andThen_ok, Option.map_some, run_sliceBounds_some hr hl hh hm h1 (Nat.le_trans h2 hcap), run_sizeOf' hsz, Sem.run_pure]
        · cases h
      · cases h
    · rename_i size l a' tok len sz cs hsz hl
      cases hx with
      | os _ _ _ _ ad cap hx htok =>
      obtain ⟨hlen, ad', cap', he, hcap⟩ := ps_len hx
      cases he
      split at h
      · rename_i h' b' hh
        split at h
        · simp only [Option.some.injEq, Prod.mk.injEq, Bool.and_eq_true] at h
          obtain ⟨rfl, ⟨⟨rfl, rfl⟩, h1⟩, h3⟩ := h
          have h1 := Nat.le_of_ble_eq_true h1
          have := bound_none hh; subst this
          have hsz' : (Nat.beq sz size || (Nat.beq h' 0 && Nat.ble 1 size)) = true := by
            rw [Bool.or_eq_true] at h3 ⊢
            refine h3.imp id fun k => ?_
            simp only [Bool.and_eq_true] at k ⊢
            exact ⟨k.1, k.2.1⟩
          have hx' := ps_size hx hsz'
          have hlen' := (ps_len hx').1
          have hv := ps_part (m' := cap) hx' h1 (Nat.le_refl _) hcap (Nat.le_refl _)
          have hc := cut_spec (low := low) (high := none) cs hlen' h1 (Nat.le_refl _) (fun e : low = none => bound_none (e ▸ hl)) (fun _ => rfl)
          simp only [times, Option.map_none] at hc
          refine ⟨_, ?_, .os tok (h' - l) size _ _ _ (by simp only [times]; rw [hc]; exact hv) ?_⟩
          · have hb := run_sliceBounds_none (P := P) (isS := true) hr hl hh h1 hcap
            simp only [Option.map_none] at hb
            simp only [Instr.sliceAt, Instr.slice, Sem.run_bind, run_underlying hu, Result.andThen_ok, Option.map_none, hb, run_sizeOf' hsz, Sem.run_pure]
          · rcases htok with rfl | ⟨t, b, o', rfl, rfl, q1, q2, q3, q4⟩
            · exact .inl rfl
            · have : sz = size := by simpa [Nat.beq_eq] using h3
              subst this
              by_cases e : cap = l
              · exact .inl (by omega)
              · refine .inr ⟨t, b, o' + l * sz, rfl, by simp [e, addr_add], q1, ?_, ?_, by omega⟩
                · rw [q2, Nat.sub_mul]; have := Nat.mul_le_mul_right sz h1; omega
                · rw [q3, Nat.sub_mul]; have := Nat.mul_le_mul_right sz (Nat.le_trans h1 hcap); omega
        · rename_i hy
          have hcut : ∀ {sz : Nat}, VP g w (.ps len sz cs) (.slice ad len cap) → cs.length = len * size → l ≤ h' → h' ≤ len → cut cs (times low l size) (some (h' * size)) = (cs.drop (l * size)).take ((h' - l) * size) := fun _ hlen' h1 h2 => by
            have hc := cut_spec (low := low) (high := some hy) cs hlen' h1 h2 (fun e : low = none => bound_none (e ▸ hl)) (fun e => by cases e)
            simpa only [times, Option.map_some] using hc
          split at h
          · rename_i heq
            simp only [Option.some.injEq, Prod.mk.injEq, Bool.and_eq_true] at h
            obtain ⟨rfl, ⟨⟨⟨rfl, rfl⟩, h1⟩, h2⟩, h3⟩ := h
            have heq := Nat.eq_of_beq_eq_true heq
            have h1 := Nat.le_of_ble_eq_true h1
            have h2 := Nat.le_of_ble_eq_true h2
            have hcap2 : cap = len := by
              rcases htok with e | ⟨t, b, o', e, _⟩
              · exact e
              · cases e
            have hx' := ps_size hx h3
            have hlen' := (ps_len hx').1
            have hv := ps_part (m' := cap) hx' h1 h2 (Nat.le_trans h2 hcap) (Nat.le_refl _)
            refine ⟨_, ?_, .os none (h' - l) size _ _ _ (by rw [hcut hx hlen' h1 h2]; exact hv) (.inl (by omega))⟩
            simp only [Instr.sliceAt, Instr.slice, Sem.run_bind, run_underlying hu, Result.andThen_ok, Option.map_none, run_sliceBounds_none hr hl hh h1 (Nat.le_trans h2 hcap), run_sizeOf' hsz, Sem.run_pure]
          · simp only [Option.some.injEq, Prod.mk.injEq, Bool.and_eq_true] at h
            obtain ⟨rfl, ⟨⟨⟨rfl, rfl⟩, h1⟩, h2⟩, h3⟩ := h
            have h1 := Nat.le_of_ble_eq_true h1
            have h2 := Nat.le_of_ble_eq_true h2
            have hx' := ps_size hx h3
            have hlen' := (ps_len hx').1
            refine ⟨_, ?_, .p _ _ (by rw [hcut hx hlen' h1 h2]; exact ps_part hx' h1 h2 (Nat.le_trans h2 hcap) (Nat.le_refl _))⟩
            simp only [Instr.sliceAt, Instr.slice, Sem.run_bind, run_underlying hu, Result.andThen_ok, Option.map_none, run_sliceBounds_none hr hl hh h1 (Nat.le_trans h2 hcap), run_sizeOf' hsz, Sem.run_pure]
      · rename_i h' b' mo hh
        split at h
        · rename_i m' c' hm
          simp only [Option.some.injEq, Prod.mk.injEq, Bool.and_eq_true, Nat.beq_eq] at h
          obtain ⟨rfl, ⟨⟨⟨⟨⟨rfl, rfl⟩, rfl⟩, h1⟩, h2⟩, rfl⟩, h3, h4⟩ := h
          have h1 := Nat.le_of_ble_eq_true h1
          have h2 := Nat.le_of_ble_eq_true h2
          obtain ⟨hx', rfl⟩ := Option.isSome_iff_exists.1 h3
          have hx2 := ps_size hx h4
          have hlen' := (ps_len hx2).1
          have hv := ps_part (m' := m') hx2 h1 h2 (Nat.le_refl _) (Nat.le_trans h2 hcap)
          refine ⟨_, ?_, .os none (m' - l) size _ _ _ (by rw [cut_spec cs hlen' h1 h2 (fun e : low = none => bound_none (e ▸ hl)) (fun e => by cases e)]; exact hv) (.inl rfl)⟩
          simp only [Instr.sliceAt, Instr.slice, Sem.run_bind, run_underlying hu, Result.andThen_ok, Option.map_some, run_sliceBounds_some hr hl hh hm h1 (Nat.le_trans h2 hcap), run_sizeOf' hsz, Sem.run_pure]
        · cases h
      · cases h
    · rename_i size l a' i off len sz hsz hl
      cases hx with
      | mg _ _ _ _ cap c hc hcap hroom =>
      split at h
      · rename_i h' b' hh
        simp only [Option.some.injEq, Prod.mk.injEq, Bool.and_eq_true, Bool.or_eq_true, Nat.beq_eq, Nat.blt_eq] at h
        obtain ⟨rfl, ⟨⟨⟨⟨rfl, rfl⟩, h1⟩, h2⟩, rfl⟩, h3⟩ := h
        have h1 := Nat.le_of_ble_eq_true h1
        have h2 := Nat.le_of_ble_eq_true h2
        have e : (if cap = l then some (⟨c, off, none⟩ : Addr) else (some (⟨c, off, none⟩ : Addr)).map (·.add (l * sz))) = some ⟨c, off + l * sz, none⟩ := by
          by_cases e : cap = l
          · have : l = 0 := by omega
            simp [e, this]
          · simp [e, addr_add]
        refine ⟨_, ?_, .mg i (off + l * sz) (h' - l) sz (cap - l) c hc (by omega) ?_⟩
        · simp only [Instr.sliceAt, Instr.slice, Sem.run_bind, run_underlying hu, Result.andThen_ok, Option.map_none, run_sliceBounds_none hr hl hh h1 (Nat.le_trans h2 hcap), run_sizeOf' hsz, Sem.run_pure, e]
        · rw [Nat.sub_mul]
          have := Nat.mul_le_mul_right sz (Nat.le_trans (Nat.le_trans h1 h2) hcap)
          omega
      · rename_i h' b' mo hh
        split at h
        · rename_i m' c' hm
          simp only [Option.some.injEq, Prod.mk.injEq, Bool.and_eq_true, Nat.beq_eq] at h
          obtain ⟨rfl, ⟨⟨⟨⟨⟨rfl, rfl⟩, rfl⟩, h1⟩, h2⟩, h4⟩, h3, rfl⟩ := h
          have h1 := Nat.le_of_ble_eq_true h1
          have h2 := Nat.le_of_ble_eq_true h2
          have h4 := Nat.le_of_ble_eq_true h4
          obtain ⟨hx', rfl⟩ := Option.isSome_iff_exists.1 h3
          have e : (if m' = l then some (⟨c, off, none⟩ : Addr) else some ((⟨c, off, none⟩ : Addr).add (l * sz))) = some ⟨c, cond (Nat.beq m' l) off (off + l * sz), none⟩ := by
            by_cases e : m' = l
            · simp [e]
            · have : Nat.beq m' l = false := by rw [Bool.eq_false_iff]; intro k; exact e (Nat.eq_of_beq_eq_true k)
              simp [e, this, addr_add]
          refine ⟨_, ?_, .ms i (cond (Nat.beq m' l) off (off + l * sz)) (h' - l) sz (m' - l) c hc (by omega)⟩
          simp only [Instr.sliceAt, Instr.slice, Sem.run_bind, run_underlying hu, Result.andThen_ok, Option.map_some, run_sliceBounds_max hr hl hh hm h1 h2 (Nat.le_trans h4 hcap), run_sizeOf' hsz, Sem.run_pure, e]
        · cases h
      · cases h
    · rename_i size l a' i off len sz cap hsz hl
      cases hx with
      | ms _ _ _ _ cap c hc hcap =>
      split at h
      · rename_i h' b' hh
        simp only [Option.some.injEq, Prod.mk.injEq, Bool.and_eq_true, Nat.beq_eq] at h
        obtain ⟨rfl, ⟨⟨⟨rfl, rfl⟩, h1⟩, h2⟩, rfl⟩ := h
        have h1 := Nat.le_of_ble_eq_true h1
        have h2 := Nat.le_of_ble_eq_true h2
        have e : (if cap = l then some (⟨c, off, none⟩ : Addr) else (some (⟨c, off, none⟩ : Addr)).map (·.add (l * sz))) = some ⟨c, cond (Nat.beq cap l) off (off + l * sz), none⟩ := by
          by_cases e : cap = l
          · simp [e]
          · have : Nat.beq cap l = false := by rw [Bool.eq_false_iff]; intro k; exact e (Nat.eq_of_beq_eq_true k)
            simp [e, this, addr_add]
        refine ⟨_, ?_, .ms i (cond (Nat.beq cap l) off (off + l * sz)) (h' - l) sz (cap - l) c hc (by omega)⟩
        simp only [Instr.sliceAt, Instr.slice, Sem.run_bind, run_underlying hu, Result.andThen_ok, Option.map_none, run_sliceBounds_none hr hl hh h1 h2, run_sizeOf' hsz, Sem.run_pure, e]
      · cases h
    · cases h
  · rename_i hu
    split at h
    · rename_i l a' s hl
      rw [VA.pv] at hx; cases hx
      split at h
      · rename_i h' b' hh
        simp only [Option.some.injEq, Prod.mk.injEq, Bool.and_eq_true] at h
        obtain ⟨rfl, ⟨⟨rfl, rfl⟩, h1⟩, h2⟩ := h
        have h1 := Nat.le_of_ble_eq_true h1
        have h2 := Nat.le_of_ble_eq_true h2
        have e : s.data.toList.length = s.size := Array.length_toList
        rw [e] at hh h2
        refine ⟨_, ?_, .p _ _ (.sc _)⟩
        simp only [Instr.sliceAt, Instr.slice, Sem.run_bind, run_underlying hu, Result.andThen_ok, Option.map_none, Option.isSome_none, Bool.false_eq_true, if_false, Sem.run_pure, run_sliceBounds_none hr hl hh h1 h2]
      · cases h
    · cases h
  · cases h

theorem run_eqGuard_int (op : BinOp) (t : TypeId) (x y : Operand) (k k' : IntKind) (a b : Int) : (eqGuard op t x y (.int k a) (.int k' b)).run P w = .ok () w := by
  unfold eqGuard; cases op <;> rfl

theorem run_eqGuard_string (op : BinOp) (t : TypeId) (x y : Operand) (a b : ByteArray) : (eqGuard op t x y (.string a) (.string b)).run P w = .ok () w := by
  unfold eqGuard; cases op <;> rfl

theorem intBin_sound {op : BinOp} {t : TypeId} {k k' : IntKind} {a b : Int} {v : Value} (h : intBin op k a k' b = some (v, true)) : (binOp op t (.int k a) (.int k' b)).run P w = .ok v w := by
  cases op <;> simp only [intBin, Option.some.injEq, Prod.mk.injEq, Bool.and_eq_true, beq_iff_eq, Bool.not_eq_true', beq_eq_false_iff_ne, decide_eq_true_eq] at h
  case quo => obtain ⟨rfl, rfl, hb⟩ := h; simp [binOp, Op.intDiv, hb]
  case rem => obtain ⟨rfl, rfl, hb⟩ := h; simp [binOp, Op.intDiv, hb]
  case shl => obtain ⟨rfl, hb⟩ := h; simp [binOp, Op.shift, Int.not_lt.2 hb]
  case shr => obtain ⟨rfl, hb⟩ := h; simp [binOp, Op.shift, Int.not_lt.2 hb]
  all_goals obtain ⟨rfl, rfl⟩ := h
  all_goals simp [binOp, Op.intArith, Op.intBits, Op.intCmp]

theorem strBin_sound {op : BinOp} {t : TypeId} {a b : ByteArray} {v : Value} (h : strBin op a b = some (v, true)) : (binOp op t (.string a) (.string b)).run P w = .ok v w := by
  have e : ∀ s : ByteArray, s.data.toList.length = s.size := fun s => Array.length_toList
  cases op <;> simp only [strBin, Option.some.injEq, Prod.mk.injEq, and_true, reduceCtorEq] at h
  case add =>
    obtain ⟨rfl, h⟩ := h
    have h := Nat.le_of_ble_eq_true h
    rw [e, e] at h
    rw [binOp_string_add, run_string_add_sum w a b (by unfold lim at h; omega)]
  all_goals (subst h; simp [binOp, Op.stringOp, ByteArray.toList_eq])

theorem binOpOp_sound (hr : ∀ x, VA g w (ρ x) (ρc x)) {op : BinOp} {t yt : TypeId} {x y : Operand} (ho : o.op = .binOp op t x y yt) {a : AV} (h : binOpOp P ρ o op (ρ x) (ρ y) = some (a, true)) :
    ∃ v, (execOp ρc o).run P w = .ok (.value v) w ∧ VA g w a v := by
  unfold binOpOp at h
  split at h
  · rename_i k a' k' b' hx hy
    simp only [Option.map_eq_some_iff, Prod.mk.injEq] at h
    obtain ⟨⟨v, ok⟩, h1, rfl, h2⟩ := h
    simp only at h2; subst h2
    have cx : ρc x = .int k a' := by have := hr x; rw [hx, VA.pv] at this; generalize ρc x = z at this; cases this; rfl
    have cy : ρc y = .int k' b' := by have := hr y; rw [hy, VA.pv] at this; generalize ρc y = z at this; cases this; rfl
    exact ⟨v, by simp only [execOp, ho, cx, cy, Sem.run_bind, run_eqGuard_int, Result.andThen_ok, intBin_sound h1, Sem.run_pure], .p _ _ (.sc v)⟩
  · rename_i a' b' hx hy
    simp only [Option.map_eq_some_iff, Prod.mk.injEq] at h
    obtain ⟨⟨v, ok⟩, h1, rfl, h2⟩ := h
    simp only at h2; subst h2
    have cx : ρc x = .string a' := by have := hr x; rw [hx, VA.pv] at this; generalize ρc x = z at this; cases this; rfl
    have cy : ρc y = .string b' := by have := hr y; rw [hy, VA.pv] at this; generalize ρc y = z at this; cases this; rfl
    exact ⟨v, by simp only [execOp, ho, cx, cy, Sem.run_bind, run_eqGuard_string, Result.andThen_ok, strBin_sound h1, Sem.run_pure], .p _ _ (.sc v)⟩
  · have hs : ∀ cs b, o.op ≠ .select cs b := fun _ _ => by rw [ho]; exact fun e => by cases e
    split at h
    · cases hc : (nilLike (ρ x) && refLike (ρ y) || refLike (ρ x) && nilLike (ρ y)) with
      | true => simp [hc] at h
      | false =>
        simp only [hc, cond_false, Option.map_eq_some_iff, Prod.mk.injEq, and_true] at h
        obtain ⟨v, h1, rfl⟩ := h
        exact scalar_sound hr hs h1
    · cases hc : (nilLike (ρ x) && refLike (ρ y) || refLike (ρ x) && nilLike (ρ y)) with
      | true => simp [hc] at h
      | false =>
        simp only [hc, cond_false, Option.map_eq_some_iff, Prod.mk.injEq, and_true] at h
        obtain ⟨v, h1, rfl⟩ := h
        exact scalar_sound hr hs h1
    · cases h

theorem unOpOp_sound (hr : ∀ x, VA g w (ρ x) (ρc x)) {op : UnOp} {t : TypeId} {x : Operand} (ho : o.op = .unOp op t x) {a : AV} (h : unOpOp P ρ o op (ρ x) = some (a, true)) :
    ∃ v, (execOp ρc o).run P w = .ok (.value v) w ∧ VA g w a v := by
  unfold unOpOp at h
  split at h
  · rename_i b hx
    simp only [Option.some.injEq, Prod.mk.injEq, and_true] at h; subst h
    have cx : ρc x = .bool b := by have := hr x; rw [hx, VA.pv] at this; generalize ρc x = z at this; cases this; rfl
    exact ⟨_, by simp only [execOp, ho, cx, Op.unary, Sem.run_bind, Sem.run_pure, Result.andThen_ok], .p _ _ (.sc _)⟩
  · rename_i k n hx
    simp only [Option.some.injEq, Prod.mk.injEq, and_true] at h; subst h
    have cx : ρc x = .int k n := by have := hr x; rw [hx, VA.pv] at this; generalize ρc x = z at this; cases this; rfl
    exact ⟨_, by simp only [execOp, ho, cx, Op.unary, Op.intArith, Sem.run_bind, Sem.run_pure, Result.andThen_ok], .p _ _ (.sc _)⟩
  · simp only [Option.map_eq_some_iff, Prod.mk.injEq, and_true] at h
    obtain ⟨v, h1, rfl⟩ := h
    exact scalar_sound hr (fun _ _ => by rw [ho]; exact fun e => by cases e) h1

theorem makeIfaceOp_sound {t : TypeId} {x a : AV} {cx : Value} (h : makeIfaceOp P t x = some a) (hx : VA g w x cx) :
    ∃ v, (Instr.makeInterface t cx).run P w = .ok v w ∧ VA g w a v := by
  unfold makeIfaceOp at h
  split at h
  · cases h
  · rename_i d hd hu
    have hrun : (Instr.makeInterface t cx).run P w = .ok (.iface t cx) w := by
      cases d <;> first
        | (exact absurd rfl (hd _))
        | simp [Instr.makeInterface, run_underlying hu]
    refine ⟨_, hrun, ?_⟩
    split at h
    · simp only [Option.some.injEq] at h; subst h
      rw [VA.pv] at hx; cases hx
      exact .p _ _ (.sc _)
    · simp only [Option.some.injEq] at h; subst h
      rw [VA.pv] at hx
      exact .p _ _ (.ifc _ _ _ hx)
    · simp only [Option.some.injEq] at h; subst h
      exact .ifc _ _ _ hx
  · cases h

theorem nilCheckOp_sound (hr : ∀ x, VA g w (ρ x) (ρc x)) {x : Operand} (ho : o.op = .nilCheck x) {a : AV} (h : nilCheckOp P ρ o (ρ x) = some a) :
    ∃ v, (execOp ρc o).run P w = .ok (.value v) w ∧ VA g w a v := by
  unfold nilCheckOp at h
  split at h
  · rename_i off cs hx
    simp only [Option.some.injEq] at h; subst h
    have := hr x; rw [hx] at this
    refine ⟨ρc x, ?_, this⟩
    generalize hz : ρc x = z at this
    rw [VA.pv] at this; cases this
    simp [execOp, ho, hz]
  · rename_i b off hx
    simp only [Option.some.injEq] at h; subst h
    have := hr x; rw [hx] at this
    refine ⟨ρc x, ?_, this⟩
    generalize hz : ρc x = z at this
    cases this
    simp [execOp, ho, hz]
  · rename_i f a' b' hx
    simp only [Option.some.injEq] at h; subst h
    have := hr x; rw [hx] at this
    refine ⟨ρc x, ?_, this⟩
    generalize hz : ρc x = z at this
    cases this
    simp [execOp, ho, hz]
  · exact scalar_sound hr (fun _ _ => by rw [ho]; exact fun e => by cases e) h

theorem lenOp_sound {argTypes : Array TypeId} {ty : TypeId} {x a : AV} {cx : Value} (h : lenOp P argTypes x = some a) (hx : VA g w x cx) :
    ∃ v, (Builtin.len_ argTypes ty #[cx]).run P w = .ok v w ∧ VA g w a v := by
  unfold lenOp at h
  split at h
  · rename_i t ht
    split at h
    · rename_i len sz cs hu
      simp only [Option.some.injEq] at h; subst h
      rw [VA.pv] at hx
      obtain ⟨_, ad, cap, rfl, _⟩ := ps_len hx
      exact ⟨_, by simp [Builtin.len_, ht, run_underlying hu, goInt], .p _ _ (.sc _)⟩
    · rename_i tok len sz cs hu
      simp only [Option.some.injEq] at h; subst h
      cases hx with
      | os _ _ _ _ ad cap hx _ => exact ⟨_, by simp [Builtin.len_, ht, run_underlying hu, goInt], .p _ _ (.sc _)⟩
    · rename_i b off len sz cap hu
      simp only [Option.some.injEq] at h; subst h
      cases hx with
      | ms _ _ _ _ cap c _ _ => exact ⟨_, by simp [Builtin.len_, ht, run_underlying hu, goInt], .p _ _ (.sc _)⟩
      | mg _ _ _ _ cap c _ _ _ => exact ⟨_, by simp [Builtin.len_, ht, run_underlying hu, goInt], .p _ _ (.sc _)⟩
    · rename_i s hu
      simp only [Option.some.injEq] at h; subst h
      rw [VA.pv] at hx; cases hx
      rw [show s.data.toList.length = s.size from Array.length_toList]
      exact ⟨_, by simp [Builtin.len_, ht, run_underlying hu, goInt], .p _ _ (.sc _)⟩
    · rename_i n e hu
      simp only [Option.some.injEq] at h; subst h
      exact ⟨_, by simp [Builtin.len_, ht, run_underlying hu, goInt], .p _ _ (.sc _)⟩
    · cases h
  · cases h

end ops
end Go.Am
