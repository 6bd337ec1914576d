/-
  Operations, one by one: what the executor tells of an operation is what the model does. First those that change no memory.
-/
import Derived.Test.YtiphaojaolcidaaDoorAm4
namespace Go.Am
open Go.RowKit

/-- An operation's run: a value that is told, memory that is told. -/
def OpOk (g : Gh) (m : Mem) (w : World) (r : Result Next) (a : AV) (m' : Mem) : Prop :=
  ∃ v w' g', (r = .ok (.value v) w' ∨ (r = .ok .skip w' ∧ v = undef)) ∧ VA g' w' a v ∧ Rel g' m' w' ∧ Ext g w g' w' ∧ Stp g m w g' m' w'

theorem OpOk.quiet {g : Gh} {m : Mem} {w : World} {r : Result Next} {a : AV} {v : Value} (h : Rel g m w) (hr : r = .ok (.value v) w) (ha : VA g w a v) : OpOk g m w r a m :=
  ⟨v, w, g, .inl hr, ha, h, Ext.refl g w, Stp.refl g m w⟩

theorem run_sizeOf' {P : Program} {t : TypeId} {n : Nat} (h : szOf P t = some n) (w : World) : (sizeOf t).run P w = .ok n w := by
  unfold szOf at h
  cases hi : P.info? t with
  | none => simp [hi] at h
  | some i => simp only [hi, Option.map_some, Option.some.injEq] at h; simp [sizeOf, typeInfo, hi, h]

theorem run_typeInfo' {P : Program} {t : TypeId} {i : TypeInfo} (h : P.info? t = some i) (w : World) : (typeInfo t).run P w = .ok i w := by
  simp [typeInfo, h]

theorem run_isAgg' {P : Program} {t : TypeId} {b : Bool} (h : aggB P t = some b) (w : World) : (isAgg t).run P w = .ok b w := by
  unfold aggB at h
  cases hu : P.underlying t with
  | none => simp [hu] at h
  | some d => cases d <;> simp [hu] at h <;> subst h <;> simp [isAgg, run_underlying hu]

theorem scOf_eq {g : Gh} {w : World} {a : AV} {v cv : Value} (h : scOf a = some v) (ha : VA g w a cv) : cv = v := by
  cases ha with
  | p v' _ hp => cases hp <;> simp [scOf] at h; exact h
  | _ => simp [scOf] at h

theorem scsOf_eq {g : Gh} {w : World} : ∀ {l : List AV} {vs cs : List Value}, scsOf l = some vs → VAs g w l cs → cs = vs
  | [], vs, cs, h, ha => by
    cases cs with
    | nil => simp [scsOf] at h; exact h.symm
    | cons _ _ => exact ha.elim
  | a :: l, vs, cs, h, ha => by
    cases cs with
    | nil => exact ha.elim
    | cons c cs =>
      simp only [scsOf] at h
      cases h1 : scOf a with
      | none => simp [h1] at h
      | some v =>
        cases h2 : scsOf l with
        | none => simp [h1, h2] at h
        | some us =>
          simp only [h1, h2, Option.some.injEq] at h
          subst h
          rw [scOf_eq h1 ha.1, scsOf_eq h2 ha.2]

theorem toV_eq {g : Gh} {w : World} {a : AV} {v cv : Value} (h : toV a = some v) (ha : VA g w a cv) : cv = v := by
  cases ha with
  | p v' _ hp => cases hp <;> simp [toV] at h; exact h
  | agg l cs hl hh =>
    simp only [toV, Option.map_eq_some_iff] at h
    obtain ⟨vs, h1, rfl⟩ := h
    rw [← scsOf_eq h1 (All2.of_get hl hh)]
  | tup l cs hl hh =>
    simp only [toV, Option.map_eq_some_iff] at h
    obtain ⟨vs, h1, rfl⟩ := h
    rw [← scsOf_eq h1 (All2.of_get hl hh)]
  | _ => simp [toV] at h

theorem evalPure_run {α : Type} (P : Program) (w : World) : ∀ (s : Sem α) (a : α), evalPure P s = some a → s.run P w = .ok a w := by
  intro s
  induction s with
  | pure b => intro a h; simp [evalPure] at h; subst h; rfl
  | program k ih => intro a h; simp only [evalPure] at h; simp only [Sem.run]; exact ih P a h
  | mark m k ih => intro a h; simp only [evalPure] at h; simp only [Sem.run]; exact ih a h
  | _ => intro a h; simp [evalPure] at h

theorem VA.ofCell {g : Gh} {w : World} (v : Value) : VA g w (ofCell v) v := by
  unfold Am.ofCell
  split
  · exact .os none 0 0 [] none 0 (.psE 0 none 0 (.inr ⟨rfl, rfl⟩)) (.inl rfl)
  · exact .p _ _ (.sc v)

theorem VAs.ofCells {g : Gh} {w : World} : ∀ (l : List Value), VAs g w (l.map Am.ofCell) l
  | [] => trivial
  | v :: l => ⟨VA.ofCell v, VAs.ofCells l⟩

theorem VA.ofV {g : Gh} {w : World} (v : Value) : VA g w (ofV v) v := by
  unfold Am.ofV
  split
  · exact VA.aggs.2 (VAs.ofCells _)
  · exact VA.tups.2 (VAs.ofCells _)
  · exact VA.ofCell _

theorem allSc_mem {ρ : Operand → AV} : ∀ {l : List Operand}, allSc ρ l = true → ∀ x ∈ l, ∃ v, toV (ρ x) = some v
  | [], _, _, hx => by cases hx
  | y :: l, h, x, hx => by
    simp only [allSc, Bool.and_eq_true] at h
    cases hx with
    | head => exact Option.isSome_iff_exists.1 h.1
    | tail _ hx => exact allSc_mem h.2 x hx

theorem getD_some {m : Mem} {b : Nat} {x : Blk} (h : m.getD b .dead = x) (hx : x ≠ .dead) : m[b]? = some x := by
  rw [List.getD_eq_getElem?_getD] at h
  cases hq : m[b]? with
  | none => rw [hq] at h; exact absurd h.symm hx
  | some y => rw [hq] at h; exact congrArg some h

section ops
variable {P : Program} {g : Gh} {m : Mem} {w : World} {ρ : Operand → AV} {ρc : Operand → Value} {o : Oper}

theorem scalar_sound (hr : ∀ x, VA g w (ρ x) (ρc x)) (hs : ∀ cs b, o.op ≠ .select cs b) {a : AV} (h : scalar P ρ o = some a) :
    ∃ v, (execOp ρc o).run P w = .ok (.value v) w ∧ VA g w a v := by
  unfold scalar at h
  cases hb : allSc ρ o.op.operands.toList with
  | false => simp [hb] at h
  | true =>
    simp only [hb, cond_true] at h
    have hc : execOp ρc o = execOp (fun x => (toV (ρ x)).getD undef) o := execOp_congr o hs fun x hx => by
      obtain ⟨v, hv⟩ := allSc_mem hb x (Array.mem_toList_iff.2 hx)
      simp [hv, toV_eq hv (hr x)]
    cases he : evalPure P (execOp (fun x => (toV (ρ x)).getD undef) o) with
    | none => simp [he] at h
    | some nx =>
      cases nx with
      | value v =>
        simp only [he, Option.some.injEq] at h
        subst h
        exact ⟨v, by rw [hc]; exact evalPure_run P w _ _ he, VA.ofV v⟩
      | _ => simp [he] at h

theorem normP_ok {d : Option TypeDesc} {c : PV} (h : (normP d c).2 = true) : (normP d c).1 = c ∧ c ≠ .bad := by
  unfold normP at h ⊢
  split at h
  · cases c with
    | sc v => cases v <;> simp_all [isInt, pvInt]
    | _ => simp [isInt] at h
  · cases c with
    | sc v => cases v <;> simp_all [isBool, pvBool]
    | _ => simp [isBool] at h
  · cases c with
    | sc v => cases v <;> simp_all [isStr, pvStr]
    | _ => simp [isStr] at h
  · cases c <;> simp_all [isPs, psLen, psSz, psCells]
  · cases c <;> simp_all [isOk]

theorem normA_ok {d : Option TypeDesc} {a : AV} (h : (normA d a).2 = true) : (normA d a).1 = a ∧ a ≠ .p .bad := by
  cases a with
  | p c => simp only [normA] at h ⊢; exact ⟨by rw [(normP_ok h).1], fun e => (normP_ok h).2 (AV.p.inj e)⟩
  | _ => exact ⟨rfl, fun e => by cases e⟩

theorem normL_ok : ∀ {ds : List (Option TypeDesc)} {l : List AV}, (normL ds l).2 = true → (normL ds l).1 = l ∧ ∀ x ∈ l, x ≠ .p .bad
  | [], [], _ => ⟨rfl, fun _ h => by cases h⟩
  | d :: ds, a :: l, h => by
    simp only [normL, Bool.and_eq_true] at h ⊢
    obtain ⟨h1, h2⟩ := normL_ok h.2
    refine ⟨by rw [(normA_ok h.1).1, h1], fun x hx => ?_⟩
    cases hx with
    | head => exact (normA_ok h.1).2
    | tail _ hx => exact h2 x hx
  | [], _ :: _, h => by simp [normL] at h
  | _ :: _, [], h => by simp [normL] at h

theorem getN_length {α : Type} (d : α) (l : List α) : ∀ (n off : Nat), (getN d l off n).length = n
  | 0, _ => rfl
  | n + 1, off => by simp [getN, getN_length d l n]

theorem getN_get {α : Type} (d : α) (l : List α) : ∀ (n off j : Nat) (h : j < (getN d l off n).length), (getN d l off n)[j] = l.getD (off + j) d
  | 0, _, _, h => by simp [getN] at h
  | n + 1, off, 0, _ => by simp [getN]
  | n + 1, off, j + 1, h => by
    simp only [getN, List.getElem_cons_succ]
    rw [getN_get d l n (off + 1) j]
    congr 1; omega

/-- A cell of a list that may have more room. -/
theorem Rel.gr_get (h : Rel g m w) {b c : Nat} {k : List AV} {t : TypeId} {pq : Bool} (hb : m[b]? = some (.ob (.gr t pq) k)) (hc : g.blk b = some c) {j : Nat} (hj : j < k.length) : ∃ v, w.cell? ⟨c, j, none⟩ = some v ∧ VA g w k[j] v := by
  obtain ⟨c', ob, vs, h1, h2, h3, h4, _, _⟩ := h.obs b _ _ hb
  rw [hc] at h1; cases h1
  obtain ⟨cs, e, n, rfl, _, _, q1, q2, _⟩ := h4
  have hl := h3.len
  have hjv : j < vs.length := by omega
  have hjc : j < cs.size := by omega
  refine ⟨cs[j], by rw [cell?_cells h2, Array.getElem?_eq_getElem hjc], ?_⟩
  have := h3.get j hj hjv
  have e1 : vs[j]? = some cs[j] := by
    rw [q1, List.getElem?_take, if_pos hjv]
    simp [hjc]
  rw [List.getElem?_eq_getElem hjv] at e1
  rwa [Option.some.inj e1] at this

/-- The cells behind an address, if none is 'bad'. -/
theorem cellsAt_sound (h : Rel g m w) {a : AV} {ca : Value} (ha : VA g w a ca) {n : Nat} {l : List AV} (he : cellsAt (fun i => m.getD i .dead) a n = some (l, true)) (hb : ∀ x ∈ l, x ≠ .p .bad) :
    ∃ c o vs, ca = .pointer (some ⟨c, o, none⟩) ∧ VAs g w l vs ∧ vs.length = n ∧ ∀ j v, vs[j]? = some v → w.cell? ⟨c, o + j, none⟩ = some v := by
  have key : ∀ (c o : Nat), l.length = n → (∀ j (hj : j < l.length), ∃ v, w.cell? ⟨c, o + j, none⟩ = some v ∧ VA g w l[j] v) →
      ∃ vs, VAs g w l vs ∧ vs.length = n ∧ ∀ j v, vs[j]? = some v → w.cell? ⟨c, o + j, none⟩ = some v := by
    intro c o hl hh
    refine ⟨(List.range n).map fun j => (w.cell? ⟨c, o + j, none⟩).getD undef, All2.of_get (by simp [hl]) fun i hi _ => ?_, by simp, fun j v hj => ?_⟩
    · obtain ⟨v, h1, h2⟩ := hh i hi
      simpa [h1] using h2
    · simp only [List.getElem?_map, Option.map_eq_some_iff] at hj
      obtain ⟨k, hk, rfl⟩ := hj
      have hk' := List.getElem?_eq_some_iff.1 hk
      obtain ⟨hlt, hk'⟩ := hk'
      simp at hlt hk'
      subst hk'
      obtain ⟨v, h1, _⟩ := hh j (by omega)
      simp [h1]
  unfold cellsAt at he
  split at he
  · rename_i off cs
    simp only [Option.some.injEq, Prod.mk.injEq, and_true] at he
    subst he
    rw [VA.pv] at ha
    cases ha with
    | pp _ _ b o f hp hv =>
      obtain ⟨vs, h1, h2, h3⟩ := key b (o + off) (by simp [getN_length]) (fun j hj => by
        have hj' : j < (getN PV.bad cs off n).length := by simpa using hj
        have hx := hb _ (List.getElem_mem hj)
        simp only [List.getElem_map, getN_get] at hx ⊢
        rcases Nat.lt_or_ge (off + j) cs.length with hlt | hge
        · refine ⟨f (off + j), by rw [Nat.add_assoc]; exact (hp (off + j) hlt).2.1, ?_⟩
          rw [List.getD_eq_getElem?_getD, List.getElem?_eq_getElem hlt]
          exact .p _ _ (hv (off + j) hlt)
        · exact absurd (by rw [List.getD_eq_getElem?_getD, List.getElem?_eq_none hge]; rfl) hx)
      exact ⟨b, o + off, vs, rfl, h1, h2, h3⟩
  · rename_i b off
    cases ha with
    | mp _ _ c hc =>
      split at he
      · rename_i k hk
        simp only [Option.some.injEq, Prod.mk.injEq, and_true] at he
        subst he
        have hm : m[b]? = some (.pc k) := getD_some hk (by simp)
        obtain ⟨c', cs, e, q, h1, h2, h3, h4, h5⟩ := h.cells b _ _ hm rfl
        rw [hc] at h1; cases h1
        have h4 := h4.1
        have hlen := h4.len
        obtain ⟨vs, k1, k2, k3⟩ := key c off (by simp [getN_length]) (fun j hj => by
          have hx := hb _ (List.getElem_mem hj)
          simp only [List.getElem_map, getN_get] at hx ⊢
          rcases Nat.lt_or_ge (off + j) k.length with hlt | hge
          · have hlt' : off + j < cs.size := by simp at hlen; omega
            refine ⟨cs[off + j], by rw [cell?_cells h2, Array.getElem?_eq_getElem hlt'], ?_⟩
            rw [List.getD_eq_getElem?_getD, List.getElem?_eq_getElem hlt]
            have := h4.get (off + j) (by simpa using hlt) (by simpa using hlt')
            simpa using this
          · exact absurd (by rw [List.getD_eq_getElem?_getD, List.getElem?_eq_none hge]; rfl) hx)
        exact ⟨c, off, vs, rfl, k1, k2, k3⟩
      · rename_i k hk
        simp only [Option.some.injEq, Prod.mk.injEq] at he
        obtain ⟨rfl, hle⟩ := he
        have hle' := Nat.le_of_ble_eq_true hle
        have hm : m[b]? = some (.ac k) := getD_some hk (by simp)
        obtain ⟨c', cs, e, q, h1, h2, h3, h4, h5⟩ := h.cells b _ _ hm rfl
        rw [hc] at h1; cases h1
        have h4 := h4.1
        have hlen := h4.len
        obtain ⟨vs, k1, k2, k3⟩ := key c off (by simp [getN_length]) (fun j hj => by
          simp only [getN_length] at hj
          simp only [getN_get]
          have hlt : off + j < k.length := by omega
          have hlt' : off + j < cs.size := by simp at hlen; omega
          refine ⟨cs[off + j], by rw [cell?_cells h2, Array.getElem?_eq_getElem hlt'], ?_⟩
          rw [List.getD_eq_getElem?_getD, List.getElem?_eq_getElem hlt]
          have := h4.get (off + j) hlt (by simpa using hlt')
          simpa using this)
        exact ⟨c, off, vs, rfl, k1, k2, k3⟩
      · rename_i k hk
        simp only [Option.some.injEq, Prod.mk.injEq] at he
        obtain ⟨rfl, hle⟩ := he
        have hle' := Nat.le_of_ble_eq_true hle
        obtain ⟨vs, k1, k2, k3⟩ := key c off (by simp [getN_length]) (fun j hj => by
          simp only [getN_length] at hj
          simp only [getN_get]
          have hlt : off + j < k.length := by omega
          obtain ⟨v, q1, q2⟩ := h.gr_get (getD_some hk (by simp)) hc hlt
          refine ⟨v, q1, ?_⟩
          rw [List.getD_eq_getElem?_getD, List.getElem?_eq_getElem hlt]
          exact q2)
        exact ⟨c, off, vs, rfl, k1, k2, k3⟩
      · cases he
  · cases he

theorem addr_add (c o j : Nat) : (⟨c, o, none⟩ : Addr).add j = ⟨c, o + j, none⟩ := by unfold Addr.add; split <;> simp_all

theorem loadOp_sound (h : Rel g m w) {a : AV} {ca : Value} (ha : VA g w a ca) {t : TypeId} {v : AV} (he : loadOp P (fun i => m.getD i .dead) t a = some (v, true)) :
    ∃ c o cv, ca = .pointer (some ⟨c, o, none⟩) ∧ (loadVar t ⟨c, o, none⟩).run P w = .ok cv w ∧ VA g w v cv := by
  unfold loadOp at he
  split at he
  · rename_i n hag hsz
    simp only [Option.map_eq_some_iff, Prod.mk.injEq, Bool.and_eq_true] at he
    obtain ⟨⟨l, ok⟩, h1, rfl, hok, h2⟩ := he
    simp only at hok h2
    subst hok
    obtain ⟨e1, e2⟩ := normL_ok h2
    obtain ⟨c, o, vs, rfl, k1, k2, k3⟩ := cellsAt_sound h ha h1 e2
    refine ⟨c, o, .agg vs.toArray, rfl, ?_, ?_⟩
    · have := run_loadCells_list (P := P) w ⟨c, o, none⟩ vs (fun j v hj => by rw [addr_add]; exact k3 j v hj)
      simp only [loadVar, Sem.run_bind, run_isAgg' hag, Result.andThen_ok, if_true, run_sizeOf' hsz, ← k2, this, Sem.run_pure]
    · simp only [e1]; exact VA.aggs.2 (by simpa using k1)
  · rename_i n hag hsz
    split at he
    · rename_i x ok hx
      simp only [Option.some.injEq, Prod.mk.injEq, Bool.and_eq_true] at he
      obtain ⟨rfl, hok, h2⟩ := he
      subst hok
      obtain ⟨e1, e2⟩ := normA_ok h2
      obtain ⟨c, o, vs, rfl, k1, k2, k3⟩ := cellsAt_sound h ha hx (fun y hy => by simp at hy; subst hy; exact e2)
      cases vs with
      | nil => exact k1.elim
      | cons u us =>
        have := k3 0 u rfl
        simp only [Nat.add_zero] at this
        exact ⟨c, o, u, rfl, by simp [loadVar, run_isAgg' hag, this], by rw [e1]; exact k1.1⟩
    · cases he
  · cases he

end ops
end Go.Am
