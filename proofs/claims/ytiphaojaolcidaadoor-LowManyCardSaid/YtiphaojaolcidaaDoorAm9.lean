/-
  Values that are built, blocks that are made and written: the operations.
-/
import Derived.Test.YtiphaojaolcidaaDoorAm8
namespace Go.Am
open Go.RowKit

section ops
variable {P : Program} {g : Gh} {m : Mem} {w : World}

theorem checked_eq {l k : List AV} (h : checked l = some k) : k = l ∧ allCells l = true := by
  unfold checked at h
  cases hb : allCells l with
  | false => simp [hb] at h
  | true => simp [hb] at h; exact ⟨h.symm, rfl⟩

theorem zeroCells_sound {t : TypeId} {l : List AV} (h : zeroCells P t = some l) : ∃ z, (∀ w, (zeroValue t).run P w = .ok z w) ∧ CAs g w l z.cells.toList := by
  unfold zeroCells at h
  cases hi : P.info? t with
  | none => simp [hi] at h
  | some i =>
    cases hz : i.zero with
    | none => simp [hi, hz] at h
    | some z =>
      have hrun : ∀ w, (zeroValue t).run P w = .ok z w := fun w => by simp [zeroValue, typeInfo, hi, hz]
      refine ⟨z, hrun, ?_⟩
      simp only [hi, Option.bind_some, hz] at h
      cases z <;> (obtain ⟨rfl, hc⟩ := checked_eq h) <;> first
        | exact ⟨VAs.ofCells _, allCells_one hc (VAs.ofCells (g := g) (w := w) _)⟩
        | exact ⟨⟨VA.ofCell _, trivial⟩, allCells_one (vs := [_]) hc ⟨VA.ofCell (g := g) (w := w) _, trivial⟩⟩

theorem placesOf_sound : ∀ {fs : List Field} {pl : List (Nat × Nat)}, placesOf P fs = some pl → ∀ w, (fs.mapM fun f => do pure (f.offset, ← sizeOf f.type) : Sem (List (Nat × Nat))).run P w = .ok pl w
  | [], pl, h, w => by simp [placesOf] at h; subst h; simp
  | f :: fs, pl, h, w => by
    simp only [placesOf] at h
    cases h1 : szOf P f.type with
    | none => simp [h1] at h
    | some n =>
      cases h2 : placesOf P fs with
      | none => simp [h1, h2] at h
      | some l =>
        simp only [h1, h2, Option.some.injEq] at h
        subst h
        have ih := placesOf_sound h2 w
        simp only [List.mapM_cons, Sem.run_bind, run_sizeOf' h1, Result.andThen_ok, Sem.run_pure, ih]

theorem buildOp_sound {t : TypeId} {parts : List (Nat × AV)} {cparts : Array (Nat × Value)} {a : AV} (h : buildOp P t parts = some (a, true)) (hp : All2 (fun a b => a.1 = b.1 ∧ VA g w a.2 b.2) parts cparts.toList) :
    ∃ v, (Instr.build t cparts).run P w = .ok v w ∧ VA g w a v := by
  unfold buildOp at h
  split at h
  · rename_i z fields hz hu
    split at h
    · rename_i pl hpl
      simp only [Option.map_eq_some_iff, Prod.mk.injEq] at h
      obtain ⟨⟨cs, ok⟩, h1, rfl, h2⟩ := h
      simp only at h2; subst h2
      obtain ⟨zv, hz1, hz2⟩ := zeroCells_sound (g := g) (w := w) hz
      obtain ⟨ca, h3, h4, _⟩ := fillL_sound hp hz2 h1
      refine ⟨.agg ca, ?_, VA.aggs.2 h4.1⟩
      have hpl' : (fields.mapM fun f => do pure (f.offset, ← sizeOf f.type) : Sem (Array (Nat × Nat))).run P w = .ok pl.toArray w := by
        rw [Array.mapM_eq_mapM_toList]
        simp only [Sem.run_map, placesOf_sound hpl w, Result.andThen_ok]
      have hfun : (fun i : Nat => pl.toArray[i]?) = fun i : Nat => pl[i]? := by funext i; simp
      simp only [Instr.build, Sem.run_bind, hz1, Result.andThen_ok, run_underlying hu, hpl', hfun, h3, Sem.run_pure]
    · cases h
  · rename_i z n elem hz hu
    split at h
    · rename_i size hsz
      simp only [Option.map_eq_some_iff, Prod.mk.injEq] at h
      obtain ⟨⟨cs, ok⟩, h1, rfl, h2⟩ := h
      simp only at h2; subst h2
      obtain ⟨zv, hz1, hz2⟩ := zeroCells_sound (g := g) (w := w) hz
      obtain ⟨ca, h3, h4, _⟩ := fillL_sound hp hz2 h1
      exact ⟨.agg ca, by simp only [Instr.build, Sem.run_bind, hz1, Result.andThen_ok, run_underlying hu, run_sizeOf' hsz, h3, Sem.run_pure], VA.aggs.2 h4.1⟩
    · cases h
  · cases h

theorem repeats_length {α : Type} (z : List α) : ∀ n, (repeats z n).length = n * z.length
  | 0 => by simp [repeats]
  | n + 1 => by simp [repeats, repeats_length z n, Nat.succ_mul, Nat.add_comm]

theorem repeats_get {α : Type} (z : List α) : ∀ (n i : Nat) (h : i < (repeats z n).length), ∃ h' : i % z.length < z.length, (repeats z n)[i] = z[i % z.length]
  | 0, i, h => by simp [repeats] at h
  | n + 1, i, h => by
    simp only [repeats, List.length_append] at h
    by_cases hlt : i < z.length
    · refine ⟨by rw [Nat.mod_eq_of_lt hlt]; exact hlt, ?_⟩
      simp only [repeats, List.getElem_append, hlt, dite_true, Nat.mod_eq_of_lt hlt]
    · obtain ⟨h1, h2⟩ := repeats_get z n (i - z.length) (by omega)
      have e : (i - z.length) % z.length = i % z.length := by rw [← Nat.mod_eq_sub_mod (by omega)]
      refine ⟨by rw [← e]; exact h1, ?_⟩
      simp only [repeats, List.getElem_append, hlt, dite_false, h2, e]

/-- n elements of noughts: as the model lays them. -/
theorem rep_sound {α : Type} {r : α → Value → Prop} {z : List α} {zv : Array Value} (hz : All2 r z zv.toList) (n : Nat) :
    All2 r (repeats z n) ((Array.range (n * zv.size)).map (zv[· % zv.size]!)).toList := by
  have hl := hz.len
  simp at hl
  refine All2.of_get (by simp [repeats_length, hl]) fun i hi hj => ?_
  obtain ⟨h1, h2⟩ := repeats_get z n i hi
  rw [h2]
  have h3 : i % zv.size < zv.size := hl ▸ h1
  simp only [Array.toList_map, Array.toList_range, List.getElem_map, List.getElem_range]
  rw [getElem!_pos zv _ h3]
  have := hz.get (i % z.length) h1 (by simpa [← hl] using h1)
  simpa [hl] using this

theorem rep_one {zv : Array Value} (h : ∀ v ∈ zv.toList, v.oneCell' = true) (n : Nat) : ∀ v ∈ ((Array.range (n * zv.size)).map (zv[· % zv.size]!)).toList, v.oneCell' = true := by
  intro v hv
  simp only [Array.toList_map, Array.toList_range, List.mem_map, List.mem_range] at hv
  obtain ⟨i, hi, rfl⟩ := hv
  have h3 : i % zv.size < zv.size := Nat.mod_lt _ (Nat.pos_of_ne_zero fun e => by simp [e] at hi)
  rw [getElem!_pos zv _ h3]
  exact h _ (by simp)

theorem replicate_repeats {α : Type} (v : α) : ∀ n, List.replicate n v = repeats [v] n
  | 0 => rfl
  | n + 1 => by rw [List.replicate_succ, replicate_repeats v n]; rfl

theorem zeros_eq {elem : TypeId} {n : Nat} {l : List AV} (h : zeros P elem n = some l) : ∃ size z, szOf P elem = some size ∧ zeroCells P elem = some z ∧ z.length = size ∧ 1 ≤ size ∧ l = repeats z n := by
  unfold zeros at h
  split at h
  · rename_i size z h1 h2
    cases hb : (Nat.beq z.length size && Nat.ble 1 size) with
    | false => simp [hb] at h
    | true =>
      simp only [hb, cond_true] at h
      simp only [Bool.and_eq_true, Nat.beq_eq] at hb
      refine ⟨size, z, h1, h2, hb.1, Nat.le_of_ble_eq_true hb.2, ?_⟩
      split at h
      · simp only [Option.some.injEq] at h; rw [← h, replicate_repeats]
      · simp only [Option.some.injEq] at h; exact h.symm
  · cases h

theorem mkRep_eq {elem : TypeId} {n : Nat} {b : Blk} (h : mkRep P elem n = some b) : ∃ size z, szOf P elem = some size ∧ zeroCells P elem = some z ∧ z.length = size ∧ 1 ≤ size ∧ b.cells? = some (repeats z n) := by
  have rmap : ∀ (vs : List PV) n, (repeats vs n).map AV.p = repeats (vs.map AV.p) n := by
    intro vs n
    induction n with
    | zero => rfl
    | succ n ih => simp [repeats, ih]
  unfold mkRep at h
  split at h
  · rename_i size z h1 h2
    cases hb : (Nat.beq z.length size && Nat.ble 1 size) with
    | false => simp [hb] at h
    | true =>
      simp only [hb, cond_true] at h
      simp only [Bool.and_eq_true, Nat.beq_eq] at hb
      refine ⟨size, z, h1, h2, hb.1, Nat.le_of_ble_eq_true hb.2, ?_⟩
      split at h
      · rename_i v hv
        simp only [Option.some.injEq] at h; subst h
        have := psOf_map hv
        simp only [Blk.cells?, replicate_repeats, rmap, this]
      · rename_i vs _ hv
        simp only [Option.some.injEq] at h; subst h
        have := psOf_map hv
        simp only [Blk.cells?, rmap, this]
      · simp only [Option.some.injEq] at h; subst h; rfl
  · cases h

theorem grew_alloc (w : World) (o : Obj) : Grew w (w.alloc o) o := ⟨rfl, rfl, rfl, rfl⟩

/-- A new block, and its address. -/
theorem OpOk.alloc (h : Rel g m w) {nid : Nat} (hn : m[nid]? = some .free) {l : List AV} {cs : Array Value} {e : TypeId} {b : Blk} (hb : b.cells? = some l) (hv : CAs g w l cs.toList) {r : Result Next} {v : Value} {a : AV}
    (hr : r = .ok (.value v) (w.alloc (.cells cs e))) (ha : ∀ g' : Gh, g'.blk nid = some w.heap.size → VA g' (w.alloc (.cells cs e)) a v) : OpOk g m w r a (m.set nid b) := by
  obtain ⟨h1, h2, h3⟩ := h.alloc hn hb hv (grew_alloc w (.cells cs e))
  exact ⟨v, _, _, .inl hr, ha _ (by simp [Gh.put]), h1, h2, h3⟩

end ops
end Go.Am
