/-
  What stands in slices; values that are built; blocks that are made and written.
-/
import Derived.Test.YtiphaojaolcidaaDoorAm7
namespace Go.Am
open Go.RowKit

section ops
variable {P : Program} {g : Gh} {m : Mem} {w : World}

theorem toPVs_sound : ∀ {l : List AV} {pvs : List PV} {vs : List Value}, toPVs l = some pvs → VAs g w l vs → VPs g w pvs vs
  | [], pvs, vs, h, hv => by
    simp [toPVs] at h; subst h
    cases vs with
    | nil => trivial
    | cons _ _ => exact hv.elim
  | a :: l, pvs, vs, h, hv => by
    cases vs with
    | nil => exact hv.elim
    | cons v vs =>
      simp only [toPVs] at h
      cases h1 : toPV a with
      | none => simp [h1] at h
      | some pv =>
        cases h2 : toPVs l with
        | none => simp [h1, h2] at h
        | some us =>
          simp only [h1, h2, Option.some.injEq] at h
          subst h
          refine ⟨?_, toPVs_sound h2 hv.2⟩
          have h0 := hv.1
          cases h0 with
          | p pv' _ hp => simp [toPV] at h1; subst h1; exact hp
          | os tok len sz cells ad cap hp _ => simp [toPV] at h1; subst h1; exact hp
          | _ => simp [toPV] at h1

theorem toPVs_length : ∀ {l : List AV} {pvs : List PV}, toPVs l = some pvs → pvs.length = l.length
  | [], pvs, h => by simp [toPVs] at h; subst h; rfl
  | a :: l, pvs, h => by
    simp only [toPVs] at h
    cases h1 : toPV a with
    | none => simp [h1] at h
    | some pv =>
      cases h2 : toPVs l with
      | none => simp [h1, h2] at h
      | some us =>
        simp only [h1, h2, Option.some.injEq] at h
        subst h
        simp [toPVs_length h2]

/-- What stands in a slice: its length, and its cells, as they are loaded. -/
def Stands (P : Program) (g : Gh) (w : World) (sz n : Nat) (pvs : List PV) (cx : Value) : Prop :=
  ∃ vs : List Value, VPs g w pvs vs ∧ vs.length = n * sz ∧ (∀ v ∈ vs, v.oneCell' = true) ∧ (Builtin.lenOf cx).run P w = .ok n w ∧ ∀ k, k ≤ n → (Builtin.firstCells sz k cx).run P w = .ok (vs.take (k * sz)).toArray w

theorem stands_slice {sz n cap : Nat} {pvs : List PV} {b o : Nat} {vs : List Value} (h1 : VPs g w pvs vs) (h2 : vs.length = n * sz) (ho : ∀ v ∈ vs, v.oneCell' = true) (h3 : ∀ j v, vs[j]? = some v → w.cell? ⟨b, o + j, none⟩ = some v) :
    Stands P g w sz n pvs (.slice (some ⟨b, o, none⟩) n cap) := by
  refine ⟨vs, h1, h2, ho, by simp [Builtin.lenOf], fun k hk => ?_⟩
  have hl : (vs.take (k * sz)).length = k * sz := by
    rw [List.length_take, h2]; exact Nat.min_eq_left (Nat.mul_le_mul_right _ hk)
  have := run_loadCells_list (P := P) w ⟨b, o, none⟩ (vs.take (k * sz)) (fun j v hj => by
    rw [addr_add]; exact h3 j v (by rw [List.getElem?_take] at hj; split at hj <;> simp_all))
  rw [hl] at this
  simpa [Builtin.firstCells] using this

theorem stands_ps {sz n : Nat} {pvs : List PV} {cx : Value} (h : VP g w (.ps n sz pvs) cx) : Stands P g w sz n pvs cx := by
  cases h with
  | ps _ _ _ b o cap f hl hc hz hp hv =>
    refine stands_slice (vs := (List.range pvs.length).map f) (All2.of_get (by simp) fun i hi _ => ?_) (by simp [hl]) (fun v hv => ?_) fun j v hj => ?_
    · simpa using hv i hi
    · obtain ⟨k, hk, rfl⟩ := List.mem_map.1 hv
      exact (hp k (by simpa using hk)).2.2
    · simp only [List.getElem?_map, Option.map_eq_some_iff] at hj
      obtain ⟨k, hk, rfl⟩ := hj
      obtain ⟨hlt, hk⟩ := List.getElem?_eq_some_iff.1 hk
      simp at hlt hk; subst hk
      exact (hp j hlt).2.1
  | psE _ a cap =>
    refine ⟨[], trivial, by simp, by simp, by simp [Builtin.lenOf], fun k hk => ?_⟩
    have : k = 0 := by omega
    subst this
    cases a <;> simp [Builtin.firstCells, loadCells, loadCellsFrom]

theorem contents_sound (h : Rel g m w) {sz n : Nat} {x : AV} {cx : Value} {pvs : List PV} (he : contents (fun i => m.getD i .dead) sz x = some (n, pvs, true)) (hx : VA g w x cx) :
    Stands P g w sz n pvs cx := by
  unfold contents at he
  split at he
  · simp only [Option.some.injEq, Prod.mk.injEq] at he
    obtain ⟨rfl, rfl, h1⟩ := he
    rw [VA.pv] at hx
    obtain ⟨_, ad, cap, rfl, _⟩ := ps_len hx
    exact stands_ps (ps_size hx h1)
  · simp only [Option.some.injEq, Prod.mk.injEq] at he
    obtain ⟨rfl, rfl, h1⟩ := he
    cases hx with
    | os _ _ _ _ ad cap hx _ => exact stands_ps (ps_size hx h1)
  · rename_i b off len s cap
    cases hx with
    | ms _ _ _ _ cap c hc hcap =>
    split at he
    · rename_i l hl
      simp only [Option.some.injEq, Prod.mk.injEq, Bool.and_eq_true, Nat.beq_eq] at he
      obtain ⟨rfl, rfl, rfl, h1⟩ := he
      have h1 := Nat.le_of_ble_eq_true h1
      have hm := getD_some hl (by simp)
      obtain ⟨c', cs, e, q, k1, k2, k3, k4, k5⟩ := h.cells b _ _ hm rfl
      rw [hc] at k1; cases k1
      have hone := k4.2
      have k4 := k4.1
      have hlen := k4.len
      simp at hlen
      refine stands_slice (vs := (cs.toList.drop off).take (len * s)) ?_ (by simp; omega) (fun v hv => hone v (List.mem_of_mem_drop (List.mem_of_mem_take hv))) fun j v hj => ?_
      · have := ((k4.drop off).take (len * s))
        rw [← List.map_drop, ← List.map_take] at this
        exact All2.of_get (by simpa using this.len) fun i a b => by
          have := this.get i (by simpa using a) b
          rw [List.getElem_map, VA.pv] at this
          exact this
      · rw [List.getElem?_take] at hj
        split at hj
        · rw [List.getElem?_drop] at hj
          rw [cell?_cells k2]; simpa using hj
        · cases hj
    · rename_i l hl
      simp only [Option.map_eq_some_iff, Prod.mk.injEq, Bool.and_eq_true, Nat.beq_eq] at he
      obtain ⟨us, he, rfl, rfl, rfl, h1⟩ := he
      have h1 := Nat.le_of_ble_eq_true h1
      have hm := getD_some hl (by simp)
      obtain ⟨c', cs, e, q, k1, k2, k3, k4, k5⟩ := h.cells b _ _ hm rfl
      rw [hc] at k1; cases k1
      have hone := k4.2
      have k4 := k4.1
      have hlen := k4.len
      simp at hlen
      refine stands_slice (vs := (cs.toList.drop off).take (len * s)) (toPVs_sound he ((k4.drop off).take (len * s))) (by simp; omega) (fun v hv => hone v (List.mem_of_mem_drop (List.mem_of_mem_take hv))) fun j v hj => ?_
      rw [List.getElem?_take] at hj
      split at hj
      · rw [List.getElem?_drop] at hj
        rw [cell?_cells k2]; simpa using hj
      · cases hj
    · rename_i l hl
      simp only [Option.map_eq_some_iff, Prod.mk.injEq, Bool.and_eq_true, Nat.beq_eq] at he
      obtain ⟨us, he, rfl, rfl, rfl, h1⟩ := he
      have h1 := Nat.le_of_ble_eq_true h1
      obtain ⟨c', ob, vs, k1, k2, k3, k4, _, _⟩ := h.obs b _ _ (getD_some hl (by simp))
      rw [hc] at k1; cases k1
      obtain ⟨cs, e, q, rfl, _, q0, q1, q2, q3⟩ := k4
      have hlen := k3.len
      refine stands_slice (vs := (vs.drop off).take (len * s)) (toPVs_sound he ((k3.drop off).take (len * s))) (by simp; omega) (fun v hv => ?_) fun j v hj => ?_
      · have hv := List.mem_of_mem_drop (List.mem_of_mem_take hv)
        rw [q1] at hv
        exact q3 v (List.mem_of_mem_take hv)
      · rw [List.getElem?_take] at hj
        split at hj
        · rw [List.getElem?_drop, q1, List.getElem?_take] at hj
          split at hj
          · rw [cell?_cells k2]; simpa using hj
          · cases hj
        · cases hj
    · cases he
  · rename_i b off len s
    cases hx with
    | mg _ _ _ _ cap c hc hcap hroom =>
    split at he
    · rename_i l hl
      simp only [Option.map_eq_some_iff, Prod.mk.injEq, Bool.and_eq_true, Nat.beq_eq] at he
      obtain ⟨us, he, rfl, rfl, rfl, h1⟩ := he
      have h1 := Nat.le_of_ble_eq_true h1
      obtain ⟨c', ob, vs, k1, k2, k3, k4, _, _⟩ := h.obs b _ _ (getD_some hl (by simp))
      rw [hc] at k1; cases k1
      obtain ⟨cs, e, q, rfl, _, q0, q1, q2, q3⟩ := k4
      have hlen := k3.len
      refine stands_slice (vs := (vs.drop off).take (len * s)) (toPVs_sound he ((k3.drop off).take (len * s))) (by simp; omega) (fun v hv => ?_) fun j v hj => ?_
      · have hv := List.mem_of_mem_drop (List.mem_of_mem_take hv)
        rw [q1] at hv
        exact q3 v (List.mem_of_mem_take hv)
      · rw [List.getElem?_take] at hj
        split at hj
        · rw [List.getElem?_drop, q1, List.getElem?_take] at hj
          split at hj
          · rw [cell?_cells k2]; simpa using hj
          · cases hj
        · cases hj
    · cases he
  · rename_i s
    simp only [Option.some.injEq, Prod.mk.injEq, Nat.beq_eq] at he
    obtain ⟨rfl, rfl, rfl⟩ := he
    rw [VA.pv] at hx; cases hx
    refine ⟨s.data.toList.map fun b => .int .u8 b.toNat, All2.of_get (by simp) fun i a b => ?_, by simp, by simp [Value.oneCell'], ?_, fun k hk => ?_⟩
    · simp only [List.getElem_map]; exact .sc _
    · rw [show s.data.toList.length = s.size from Array.length_toList]; simp [Builtin.lenOf]
    · simp only [Builtin.firstCells, Sem.run_pure, Result.ok.injEq, and_true]
      apply Array.ext'
      simp [ByteArray.data_extract]
  · cases he

theorem isCell_one {a : AV} {v : Value} (h : isCell a = true) (ha : VA g w a v) : v.oneCell' = true := by
  cases ha with
  | p pv cv hp => cases hp <;> first | rfl | (simpa [isCell] using h)
  | agg => simp [isCell] at h
  | tup => simp [isCell] at h
  | junk => simp [isCell] at h
  | _ => rfl

theorem allCells_one : ∀ {l : List AV} {vs : List Value}, allCells l = true → VAs g w l vs → ∀ u ∈ vs, u.oneCell' = true
  | [], [], _, _, _, hu => by cases hu
  | a :: l, v :: vs, h, hv, u, hu => by
    simp only [allCells, Bool.and_eq_true] at h
    cases hu with
    | head => exact isCell_one h.1 hv.1
    | tail _ hu => exact allCells_one h.2 hv.2 u hu
  | [], _ :: _, _, hv, _, _ => hv.elim
  | _ :: _, [], _, hv, _, _ => hv.elim

theorem cellsOf_sound {a : AV} {v : Value} (h : (cellsOf a).2 = true) (ha : VA g w a v) : VAs g w (cellsOf a).1 v.cells.toList ∧ ∀ u ∈ v.cells.toList, u.oneCell' = true := by
  have cells1 : ∀ {v : Value}, v.oneCell' = true → v.cells = #[v] := by intro v h; cases v <;> first | rfl | (simp [Value.oneCell'] at h)
  cases ha with
  | agg l cs hl hh =>
    have := VA.aggs.1 (.agg l cs hl hh)
    exact ⟨this, allCells_one h this⟩
  | p pv cv hp =>
    have h1 := isCell_one (a := .p pv) (by simpa [cellsOf] using h) (.p pv v hp)
    rw [cells1 h1]
    exact ⟨⟨.p pv v hp, trivial⟩, by simpa using h1⟩
  | os tok len sz cells ad cap hp hr =>
    exact ⟨⟨.os tok len sz cells ad cap hp hr, trivial⟩, by simp [Value.cells, Value.oneCell']⟩
  | mp b off c hc => exact ⟨⟨.mp b off c hc, trivial⟩, by simp [Value.cells, Value.oneCell']⟩
  | ms b off len sz cap c hc hcap => exact ⟨⟨.ms b off len sz cap c hc hcap, trivial⟩, by simp [Value.cells, Value.oneCell']⟩
  | mg b off len sz cap c hc hcap hh => exact ⟨⟨.mg b off len sz cap c hc hcap hh, trivial⟩, by simp [Value.cells, Value.oneCell']⟩
  | vm b c hc => exact ⟨⟨.vm b c hc, trivial⟩, by simp [Value.cells, Value.oneCell']⟩
  | vy b c hc => exact ⟨⟨.vy b c hc, trivial⟩, by simp [Value.cells, Value.oneCell']⟩
  | fn f l k fa ca hl hk h1 h2 => exact ⟨⟨.fn f l k fa ca hl hk h1 h2, trivial⟩, by simp [Value.cells, Value.oneCell']⟩
  | ifc t v cv hv => exact ⟨⟨.ifc t v cv hv, trivial⟩, by simp [Value.cells, Value.oneCell']⟩
  | junk => simp [cellsOf, isCell] at h
  | tup => simp [cellsOf, isCell] at h

theorem foldl_set (off : Nat) : ∀ (l : List Value) (k : Nat) (cs : Array Value),
    ((l.zipIdx k).foldl (fun cs (c, j) => cs.setIfInBounds (off + j) c) cs).toList = setL cs.toList (off + k) l
  | [], k, cs => rfl
  | v :: l, k, cs => by
    simp only [List.zipIdx_cons, List.foldl_cons, setL]
    rw [foldl_set off l (k + 1)]
    simp [Nat.add_assoc]

theorem All2.setL {α β : Type} {r : α → β → Prop} : ∀ {new : List α} {new' : List β} {l : List α} {l' : List β} (off : Nat), All2 r l l' → All2 r new new' → All2 r (setL l off new) (setL l' off new')
  | [], [], _, _, _, h, _ => h
  | _ :: _, _ :: _, _, _, off, h, k => All2.setL (off + 1) (h.set off k.1) k.2
  | [], _ :: _, _, _, _, _, k => k.elim
  | _ :: _, [], _, _, _, _, k => k.elim

theorem setL_mem {α : Type} {p : α → Prop} : ∀ (n l : List α) (o : Nat), (∀ v ∈ l, p v) → (∀ v ∈ n, p v) → ∀ v ∈ setL l o n, p v
  | [], _, _, h, _ => h
  | x :: n, l, o, h, h' => setL_mem n _ (o + 1) (fun v hv => by
      rcases List.mem_or_eq_of_mem_set hv with k | k
      · exact h v k
      · exact k ▸ h' x (.head _)) fun v hv => h' v (.tail _ hv)

theorem fillL_sound {place : Nat → Option (Nat × Nat)} : ∀ {parts : List (Nat × AV)} {cparts : List (Nat × Value)} {cells cs : List AV} {ca : Array Value},
    All2 (fun a b => a.1 = b.1 ∧ VA g w a.2 b.2) parts cparts → CAs g w cells ca.toList → fillL place cells parts = some (cs, true) →
      ∃ ca', Instr.fill place ca cparts = some ca' ∧ CAs g w cs ca'.toList ∧ ca'.size = ca.size
  | [], [], cells, cs, ca, _, hc, h => by
    simp [fillL] at h; subst h
    exact ⟨ca, rfl, hc, rfl⟩
  | (i, a) :: parts, (j, v) :: cparts, cells, cs, ca, hp, hc, h => by
    obtain ⟨⟨rfl, hv⟩, hp⟩ := hp
    simp only [fillL] at h
    cases hpl : place i with
    | none => simp [hpl] at h
    | some q =>
      obtain ⟨off, size⟩ := q
      simp only [hpl] at h
      cases hf : fillL place (setL cells off (cellsOf a).1) parts with
      | none => simp [hf] at h
      | some r =>
        obtain ⟨cs', ok⟩ := r
        simp only [hf, Option.some.injEq, Prod.mk.injEq, Bool.and_eq_true, Nat.beq_eq] at h
        obtain ⟨rfl, ⟨⟨h0, h1⟩, h2⟩, rfl⟩ := h
        have h2 := Nat.le_of_ble_eq_true h2
        have hlc := hc.1.len
        obtain ⟨k1, k2⟩ := cellsOf_sound h0 hv
        have hl1 := k1.len
        have hset : CAs g w (setL cells off (cellsOf a).1) (setL ca.toList off v.cells.toList) := ⟨hc.1.setL off k1, setL_mem _ _ _ hc.2 k2⟩
        have hfold : (v.cells.zipIdx.foldl (fun cs (c, j) => cs.setIfInBounds (off + j) c) ca).toList = setL ca.toList off v.cells.toList := by
          rw [← Array.foldl_toList, Array.toList_zipIdx, foldl_set]; simp
        obtain ⟨ca', q1, q2, q3⟩ := fillL_sound (ca := v.cells.zipIdx.foldl (fun cs (c, j) => cs.setIfInBounds (off + j) c) ca) hp (by rw [hfold]; exact hset) hf
        have hsz : v.cells.size = size := by simp at hl1; omega
        have hroom : ¬ (off + v.cells.size > ca.size) := by simp at hlc; omega
        refine ⟨ca', ?_, q2, ?_⟩
        · simp only [Instr.fill, hpl]
          rw [if_neg (by simp [hsz, hsz ▸ hroom] <;> omega)]
          exact q1
        · rw [q3]
          have := congrArg List.length hfold
          have hsl : ∀ (n : List Value) (l : List Value) (o : Nat), (setL l o n).length = l.length := by
            intro n
            induction n with
            | nil => intro l o; rfl
            | cons x n ih => intro l o; simp [setL, ih]
          simpa [hsl] using this
  | [], _ :: _, _, _, _, h, _, _ => h.elim
  | _ :: _, [], _, _, _, h, _, _ => h.elim

end ops
end Go.Am
