/-
  Lists that may have more room than is told: 'append' to lists that are written later.
-/
import Derived.Test.YtiphaojaolcidaaDoorAm11b
namespace Go.Am
open Go.RowKit

section
variable {P : Program} {g : Gh} {m : Mem} {w : World}

/-- An object under a new number. -/
theorem Rel.move (h : Rel g m w) {b nid c : Nat} {k : ObK} {l : List AV} (hb : m[b]? = some (.ob k l)) (hc : g.blk b = some c) (hn : m[nid]? = some .free) :
    Rel (g.put nid c (g.lo b) (g.hi b)) ((m.set b .dead).set nid (.ob k l)) w ∧ Ext g w (g.put nid c (g.lo b) (g.hi b)) w ∧ Stp g m w (g.put nid c (g.lo b) (g.hi b)) ((m.set b .dead).set nid (.ob k l)) w := by
  have hne : b ≠ nid := fun e => by subst e; rw [hb] at hn; cases hn
  have hf := h.free nid hn
  have get : ∀ j x, ((m.set b .dead).set nid (.ob k l))[j]? = some x → (j = nid ∧ x = .ob k l) ∨ x = .dead ∨ (j ≠ nid ∧ j ≠ b ∧ m[j]? = some x) := by
    intro j x hj
    rcases get_set hj with ⟨e, q⟩ | ⟨hjn, q⟩
    · exact .inl ⟨e, q⟩
    · rcases get_set q with ⟨_, q⟩ | ⟨hjb, q⟩
      · exact .inr (.inl q)
      · exact .inr (.inr ⟨hjn, hjb, q⟩)
  have bo : ∀ j, j ≠ nid → (g.put nid c (g.lo b) (g.hi b)).blk j = g.blk j := fun j hj => by simp [Gh.put, hj]
  have bi : (g.put nid c (g.lo b) (g.hi b)).blk nid = some c := by simp [Gh.put]
  have ext : Ext g w (g.put nid c (g.lo b) (g.hi b)) w := ⟨fun j c' hj => by
    have : j ≠ nid := fun e => by subst e; rw [hf] at hj; cases hj
    simp [Gh.put, this, hj], fun _ _ p => ⟨p, rfl⟩⟩
  have ne : ∀ j x c', j ≠ b → m[j]? = some x → x.owns = true → g.blk j = some c' → c' ≠ c := fun j x c' hjb hj ho hc' e => hjb (h.inj j b x _ c hj hb ho rfl (e ▸ hc') hc)
  obtain ⟨c0, ob, vs, h1, h2, h3, h4, h5, h6⟩ := h.obs b _ _ hb
  rw [hc] at h1; cases h1
  refine ⟨⟨fun j hj => ?_, fun j hj => ?_, fun j x kk hj hk => ?_, fun j c' hj hc' => ?_, fun j q x x' c' hj hk ho ho' hc1 hc2 => ?_, h.there, fun j kk ll hj => ?_⟩, ext, ⟨Nat.le_refl _, fun _ _ _ => rfl, fun _ _ p => ⟨p, rfl⟩, fun _ _ p => .inl p, fun c' ho => ?_, rfl, rfl, rfl⟩⟩
  · have hl := lt_of_get hn
    simp only [List.length_set] at hj
    rw [bo j (by omega)]; exact h.far j hj
  · rcases get j _ hj with ⟨_, e⟩ | e | ⟨hjn, _, e⟩
    · cases e
    · cases e
    · rw [bo j hjn]; exact h.free j e
  · rcases get j _ hj with ⟨_, e⟩ | e | ⟨hjn, hjb, e⟩
    · subst e; cases hk
    · subst e; cases hk
    · obtain ⟨c1, cs1, e1, n1, q1, q2, q3, q4, q5⟩ := h.cells j x kk e hk
      exact ⟨c1, cs1, e1, n1, (bo j hjn).trans q1, q2, q3, q4.mono ext, q5⟩
  · rcases get j _ hj with ⟨_, e⟩ | e | ⟨hjn, hjb, e⟩
    · cases e
    · cases e
    · rw [bo j hjn] at hc'
      obtain ⟨cs1, e1, n1, q2, q3, q4, q5⟩ := h.tok j c' e hc'
      have e1 : (g.put nid c (g.lo b) (g.hi b)).hi j = g.hi j := by simp [Gh.put, hjn]
      have e2 : (g.put nid c (g.lo b) (g.hi b)).lo j = g.lo j := by simp [Gh.put, hjn]
      rw [e1, e2]
      exact ⟨cs1, _, n1, q2, q3, q4, q5⟩
  · rcases get j _ hj with ⟨rfl, e⟩ | e | ⟨hjn, hjb, e⟩
    · rcases get q _ hk with ⟨rfl, _⟩ | e' | ⟨hqn, hqb, e'⟩
      · rfl
      · subst e'; simp [Blk.owns] at ho'
      · rw [bi] at hc1; cases hc1
        rw [bo q hqn] at hc2
        exact absurd rfl (ne q x' _ hqb e' ho' hc2)
    · subst e; simp [Blk.owns] at ho
    · rcases get q _ hk with ⟨rfl, _⟩ | e' | ⟨hqn, hqb, e'⟩
      · rw [bi] at hc2; cases hc2
        rw [bo j hjn] at hc1
        exact absurd rfl (ne j x _ hjb e ho hc1)
      · subst e'; simp [Blk.owns] at ho'
      · rw [bo j hjn] at hc1; rw [bo q hqn] at hc2
        exact h.inj j q x x' c' e e' ho ho' hc1 hc2
  · rcases get j _ hj with ⟨rfl, e⟩ | e | ⟨hjn, hjb, e⟩
    · cases e
      exact ⟨c, ob, vs, bi, h2, h3.mono ext, h4, h5, by simpa [Gh.put] using h6⟩
    · cases e
    · obtain ⟨c1, o1, vs1, q1, q2, q3, q4, q5, q6⟩ := h.obs j kk ll e
      exact ⟨c1, o1, vs1, (bo j hjn).trans q1, q2, q3.mono ext, q4, q5, by simpa [Gh.put, hjn] using q6⟩
  · obtain ⟨j, x, hj, hx, hcj⟩ := ho
    rcases get j _ hj with ⟨rfl, e⟩ | e | ⟨hjn, hjb, e⟩
    · rw [bi] at hcj; cases hcj
      exact .inl ⟨b, _, hb, rfl, hc⟩
    · subst e; simp [Blk.owns] at hx
    · rw [bo j hjn] at hcj
      exact .inl ⟨j, x, e, hx, hcj⟩

theorem setL_end {α : Type} : ∀ (n l : List α) (o : Nat), o + n.length ≤ l.length → (setL l o n).take (o + n.length) = l.take o ++ n
  | [], l, o, _ => by simp [setL]
  | v :: n, l, o, h => by
    simp only [List.length_cons] at h
    have := setL_end n (l.set o v) (o + 1) (by simp; omega)
    simp only [setL, List.length_cons]
    rw [show o + (n.length + 1) = o + 1 + n.length by omega, this, List.take_succ_eq_append_getElem (by simp; omega), List.take_set, List.set_eq_of_length_le (by simp; omega)]
    simp

/-- The cells that are told of a block: they stand in the heap. -/
theorem told_stands (h : Rel g m w) {b c : Nat} {l : List AV} (hl : toldCells (m.getD b .dead) = some l) (hc : g.blk b = some c) :
    ∃ cs e n, w.heap[c]? = some (.cells cs e n) ∧ n.2 ≤ n.1 ∧ VAs g w l (cs.toList.take l.length) ∧ l.length ≤ cs.size ∧ ∀ v ∈ cs.toList, v.oneCell' = true := by
  have cells : ∀ x, m[b]? = some x → x.cells? = some l → ∃ cs e n, w.heap[c]? = some (.cells cs e n) ∧ n.2 ≤ n.1 ∧ VAs g w l (cs.toList.take l.length) ∧ l.length ≤ cs.size ∧ ∀ v ∈ cs.toList, v.oneCell' = true := by
    intro x hx hxl
    obtain ⟨c', cs, e, n, k1, k2, k3, k4, k5⟩ := h.cells b x l hx hxl
    rw [hc] at k1; cases k1
    have hlen := k4.1.len
    simp only [Array.length_toList] at hlen
    exact ⟨cs, e, n, k2, k3, by rw [hlen, List.take_of_length_le (by simp)]; exact k4.1, by omega, k4.2⟩
  generalize hx : m.getD b .dead = x at hl
  unfold toldCells at hl
  split at hl
  · simp only [Option.some.injEq] at hl; subst hl
    exact cells _ (getD_some hx (by simp)) rfl
  · simp only [Option.some.injEq] at hl; subst hl
    exact cells _ (getD_some hx (by simp)) rfl
  · simp only [Option.some.injEq] at hl; subst hl
    obtain ⟨c', ob, vs, k1, k2, k3, k4, _, _⟩ := h.obs b _ _ (getD_some hx (by simp))
    rw [hc] at k1; cases k1
    obtain ⟨cs, e, n, rfl, _, q0, q1, q2, q3⟩ := k4
    have hlen := k3.len
    exact ⟨cs, e, n, k2, q0, by rw [hlen, ← q1]; exact k3, by omega, q3⟩
  · cases hl

theorem VAs.ofVPs {l : List PV} {vs : List Value} (h : VPs g w l vs) : VAs g w (l.map .p) vs := All2.of_get (by simpa using h.len) fun i a b => by
  have := h.get i (by simpa using a) b
  rw [List.getElem_map]; exact .p _ _ this

theorem contentsA_sound (h : Rel g m w) {sz n : Nat} {x : AV} {cx : Value} {l : List AV} (he : contentsA (fun i => m.getD i .dead) sz x = some (n, l, true)) (hx : VA g w x cx) :
    ∃ vs : List Value, VAs g w l vs ∧ vs.length = n * sz ∧ (∀ v ∈ vs, v.oneCell' = true) ∧ (Builtin.lenOf cx).run P w = .ok n w ∧ ∀ k, k ≤ n → (Builtin.firstCells sz k cx).run P w = .ok (vs.take (k * sz)).toArray w := by
  unfold contentsA at he
  split at he
  · rename_i n' pvs ok hc
    simp only [Option.some.injEq, Prod.mk.injEq] at he
    obtain ⟨rfl, rfl, rfl⟩ := he
    obtain ⟨vs, h1, h2, h3, h4, h5⟩ := contents_sound (P := P) h hc hx
    exact ⟨vs, VAs.ofVPs h1, h2, h3, h4, h5⟩
  · split at he
    · rename_i b off len s cap _
      split at he
      · rename_i l0 hb
        simp only [Option.some.injEq, Prod.mk.injEq, Bool.and_eq_true, Nat.beq_eq] at he
        obtain ⟨rfl, rfl, rfl, h1⟩ := he
        have h1 := Nat.le_of_ble_eq_true h1
        cases hx with
        | ms _ _ _ _ cap c hc hcap =>
        obtain ⟨c', cs, e, q, k1, k2, k3, k4, k5⟩ := h.cells b _ _ (getD_some hb (by simp)) rfl
        rw [hc] at k1; cases k1
        have hone := k4.2
        have hva := k4.1
        have hlen := hva.len
        simp only [Array.length_toList] at hlen
        have hvl : ((cs.toList.drop off).take (len * s)).length = len * s := by
          rw [List.length_take, List.length_drop, Array.length_toList]; omega
        refine ⟨(cs.toList.drop off).take (len * s), weaks_sound ((hva.drop off).take (len * s)), hvl, fun v hv => hone v (List.mem_of_mem_drop (List.mem_of_mem_take hv)), by simp [Builtin.lenOf], fun k hk => ?_⟩
        have hl : (((cs.toList.drop off).take (len * s)).take (k * s)).length = k * s := by
          rw [List.length_take, hvl]; exact Nat.min_eq_left (Nat.mul_le_mul_right _ hk)
        have := run_loadCells_list (P := P) w ⟨c, off, none⟩ (((cs.toList.drop off).take (len * s)).take (k * s)) (fun j v hj => by
          rw [addr_add, cell?_cells k2]
          rw [List.getElem?_take] at hj
          split at hj
          · rw [List.getElem?_take] at hj
            split at hj
            · rw [List.getElem?_drop] at hj; simpa using hj
            · cases hj
          · cases hj)
        rw [hl] at this
        simpa [Builtin.firstCells] using this
      · cases he
    · cases he

theorem contentsA_drew (h : Rel g m w) {sz n : Nat} {x : AV} {cx : Value} {l : List AV} (he : contentsA (fun i => m.getD i .dead) sz x = some (n, l, true)) (hx : VA g w x cx) :
    ∃ vs : List Value, VAs g w l vs ∧ vs.length = n * sz ∧ (∀ v ∈ vs, v.oneCell' = true) ∧ (Builtin.lenOf cx).run P w.drew = .ok n w.drew ∧ ∀ k, k ≤ n → (Builtin.firstCells sz k cx).run P w.drew = .ok (vs.take (k * sz)).toArray w.drew := by
  obtain ⟨h1, h2, _⟩ := h.sameHeap (w' := w.drew) rfl rfl rfl rfl
  obtain ⟨vs, k1, k2, k3, k4, k5⟩ := contentsA_sound (P := P) h1 he (hx.mono h2)
  exact ⟨vs, VAs.mono (g := g) (w := w.drew) ⟨fun _ _ q => ⟨q, rfl, rfl⟩, fun c o p => ⟨p, (h2.pure c o p).2.symm⟩⟩ k1, k2, k3, k4, k5⟩

/-- 'append' where there is no room. -/
theorem grow_ok (pq : Bool) (h : Rel g m w) {nid : Nat} (hn : m[nid]? = some .free) {argTypes : Array TypeId} {ty sType xType elem : TypeId} {d : TypeDesc} {info : TypeInfo} {z : List AV} {x : AV} {cx : Value} {n : Nat} {pvs : List AV} {ad : Option Addr} {len cap : Nat} {l : List AV} {vs : List Value}
    (hs0 : argTypes[0]? = some sType) (hx0 : argTypes[1]? = some xType) (hu : P.underlying sType = some (.slice elem)) (hux : P.underlying xType = some d) (hd : ∀ k, d ≠ .int k) (hi : P.info? elem = some info) (hz : zeroCells P elem = some z)
    (hx : VA g w x cx) (hcon : contentsA (fun i => m.getD i .dead) info.size x = some (n, pvs, true)) (h2 : 1 ≤ info.size) (h3 : z.length = info.size) (h4 : (len + n) * info.bytes ≤ lim) (h5 : len + n ≤ lim)
    (hl : VAs g w l vs) (hone : ∀ v ∈ vs, v.oneCell' = true) (hvl : vs.length = len * info.size) (hload : (Builtin.firstCells info.size len (.slice ad len cap)).run P w.drew = .ok vs.toArray w.drew) (hneed : ¬ len + n ≤ cap) :
    ∃ newCap g' w', (((do pure (.value (← Builtin.append_ argTypes ty #[.slice ad len cap, cx])) : Sem Next)).run P w) = .ok (.value (.slice (some ⟨w.heap.size, 0, none⟩) (len + n) newCap)) w' ∧
      Rel g' (m.set nid (.ob (.gr elem pq) (l ++ pvs))) w' ∧ Ext g w g' w' ∧ Stp g m w g' (m.set nid (.ob (.gr elem pq) (l ++ pvs))) w' ∧ VA g' w' (.ms nid 0 (len + n) info.size none) (.slice (some ⟨w.heap.size, 0, none⟩) (len + n) newCap) := by
  obtain ⟨zv, z1, z2⟩ := zeroCells_sound (g := g) (w := w) hz
  have hzl := z2.1.len
  simp only [Array.length_toList] at hzl
  have hzs : zv.cells.size = info.size := by omega
  have hsz : szOf P elem = some info.size := by simp [szOf, hi]
  unfold lim at h4 h5
  obtain ⟨_, _, _, _, l3, _⟩ := contentsA_sound (P := P) h hcon hx
  obtain ⟨vx, x1, x2, xone, x3, x4⟩ := contentsA_drew (P := P) h hcon hx
  have x5 := x4 n (Nat.le_refl _)
  rw [List.take_of_length_le (by omega)] at x5
  obtain ⟨d1, d2, d3⟩ := h.sameHeap (w' := w.drew) rfl rfl rfl rfl
  have hcap' := cut_appendCap (len + n) cap elem (w.tape w.drawn (.appendCap (len + n) cap elem))
  generalize hnc : (Question.appendCap (len + n) cap elem).cut (w.tape w.drawn (.appendCap (len + n) cap elem)) = newCap at hcap'
  have hrest : (Builtin.zeroCells zv.cells (newCap - (len + n))).size = (newCap - (len + n)) * info.size := by simp [Builtin.zeroCells, hzs]
  have hmul : (len + n) * info.size = len * info.size + n * info.size := Nat.add_mul _ _ _
  have hall : (vs.toArray ++ vx.toArray ++ Builtin.zeroCells zv.cells (newCap - (len + n))).size = newCap * info.size := by
    simp only [Array.size_append, List.size_toArray, hrest, hvl, x2]
    rw [Nat.sub_mul, hmul]
    have := Nat.mul_le_mul_right info.size hcap'
    rw [hmul] at this
    omega
  have hzone : ∀ v ∈ (Builtin.zeroCells zv.cells (newCap - (len + n))).toList, v.oneCell' = true := by
    intro v hv
    simp only [Builtin.zeroCells, Array.toList_map, List.mem_map] at hv
    obtain ⟨i, _, rfl⟩ := hv
    have hlt : i % zv.cells.size < zv.cells.size := Nat.mod_lt _ (by omega)
    rw [getElem!_pos zv.cells _ hlt]
    exact z2.2 _ (by simp)
  generalize hobj : vs.toArray ++ vx.toArray ++ Builtin.zeroCells zv.cells (newCap - (len + n)) = all at hall
  have hlist : all.toList = vs ++ vx ++ (Builtin.zeroCells zv.cells (newCap - (len + n))).toList := by rw [← hobj]; simp
  have hgrew : Grew w (w.drew.alloc (.cells all elem)) (.cells all elem) := ⟨rfl, rfl, rfl, rfl⟩
  have hva : VAs g w (l ++ pvs) (vs ++ vx) := hl.append x1
  obtain ⟨r1, r2, r3⟩ := h.allocObH all.size (ob := .gr elem pq) (l := l ++ pvs) (vs := vs ++ vx) hn hva hgrew
    ⟨all, elem, (0, 0), rfl, rfl, Nat.le_refl _, by rw [hlist, List.take_append_of_le_length (Nat.le_refl _), List.take_length], by rw [hall, List.length_append, hvl, x2, ← hmul]; exact Nat.mul_le_mul_right _ hcap', fun v hv => by
      rw [hlist] at hv
      rcases List.mem_append.1 hv with q | q
      · rcases List.mem_append.1 q with q | q
        · exact hone v q
        · exact xone v q
      · exact hzone v q⟩ rfl
  refine ⟨newCap, _, _, ?_, r1, r2, r3, .mg nid 0 _ _ newCap w.heap.size (by simp [Gh.put]) hcap' (by simp [Gh.put, hall])⟩
  have hmax : ¬ (((len + n : Nat) : Int) > IntKind.i64.max) := by
    rw [show IntKind.i64.max = 9223372036854775807 from by decide]; omega
  have hgrow : ¬ (Builtin.nextslicecap (len + n) cap * info.bytes > 2 ^ 48) := by
    have := growslice_fits (need := len + n) (old := cap) (bytes := info.bytes) (by omega) (by omega)
    omega
  simp only [Builtin.append_, hs0, hx0, List.getElem?_toArray, List.getElem?_cons_zero, List.getElem?_cons_succ, Sem.run_bind, run_underlying hu, Result.andThen_ok, run_sizeOf' hsz, run_underlying hux, Sem.run_pure, Bool.false_eq_true, if_false, l3, hneed, Bool.not_false, hmax, false_and, run_typeInfo' hi, hgrow, run_choose, Question.forced, hnc, World.drew_eq, run_askRoom, hload, x5, z1, hobj, if_true, newRow, run_newObj, World.alloc_eq, World.size_drew]

/-- 'append' where there is room. -/
theorem run_append_room (h : Rel g m w) {argTypes : Array TypeId} {ty sType xType elem : TypeId} {d : TypeDesc} {info : TypeInfo} {x : AV} {cx : Value} {n : Nat} {pvs : List AV} {c len cap : Nat} {cs : Array Value} {e : TypeId} {q : Nat × Nat}
    (hs0 : argTypes[0]? = some sType) (hx0 : argTypes[1]? = some xType) (hu : P.underlying sType = some (.slice elem)) (hux : P.underlying xType = some d) (hd : ∀ k, d ≠ .int k) (hi : P.info? elem = some info)
    (hx : VA g w x cx) (hcon : contentsA (fun i => m.getD i .dead) info.size x = some (n, pvs, true)) (hc : w.heap[c]? = some (.cells cs e q)) (hq : q.2 ≤ q.1) (hroom : (len + n) * info.size ≤ cs.size) (hneed : len + n ≤ cap) :
    ∃ w' cs' vx, (((do pure (.value (← Builtin.append_ argTypes ty #[.slice (some ⟨c, 0, none⟩) len cap, cx])) : Sem Next)).run P w) = .ok (.value (.slice (some ⟨c, 0, none⟩) (len + n) cap)) w' ∧
      VAs g w pvs vx ∧ vx.length = n * info.size ∧ (∀ v ∈ vx, v.oneCell' = true) ∧ cs'.toList = setL cs.toList (len * info.size) vx ∧ w'.heap[c]? = some (.cells cs' e q) ∧
      (∀ k, k ≠ c → w'.heap[k]? = w.heap[k]?) ∧ w'.heap.size = w.heap.size ∧ w'.os = w.os ∧ w'.tape = w.tape ∧ w'.output = w.output := by
  have hsz : szOf P elem = some info.size := by simp [szOf, hi]
  obtain ⟨vx, x1, x2, xone, x3, x4⟩ := contentsA_sound (P := P) h hcon hx
  have x5 := x4 n (Nat.le_refl _)
  rw [List.take_of_length_le (by omega)] at x5
  have hmul : (len + n) * info.size = len * info.size + n * info.size := Nat.add_mul _ _ _
  obtain ⟨w', cs', p1, p2, p3, p4, p5, p6, p7, p8⟩ := run_stores (P := P) c (len * info.size) vx 0 w cs e q hc (fun j hj => .inl hq) (by omega) xone
  simp only [Nat.add_zero] at p3
  refine ⟨w', cs', vx, ?_, x1, x2, xone, p3, p2, p4, p5, p6, p7, p8⟩
  have hadd : (⟨c, 0, none⟩ : Addr).add (len * info.size) = ⟨c, len * info.size, none⟩ := by rw [addr_add, Nat.zero_add]
  simp only [Builtin.append_, hs0, hx0, List.getElem?_toArray, List.getElem?_cons_zero, List.getElem?_cons_succ, Sem.run_bind, run_underlying hu, Result.andThen_ok, run_sizeOf' hsz, run_underlying hux, Sem.run_pure, Bool.false_eq_true, if_false, x3, hneed, if_true, Bool.not_false, x5, hadd, p1]

theorem first_cells {c len cap sz : Nat} {cs : Array Value} {e : TypeId} {q : Nat × Nat} (hc : w.heap[c]? = some (.cells cs e q)) (hl : len * sz ≤ cs.size) :
    (Builtin.firstCells sz len (.slice (some ⟨c, 0, none⟩) len cap)).run P w = .ok (cs.toList.take (len * sz)).toArray w := by
  have := run_loadCells_list (P := P) w ⟨c, 0, none⟩ (cs.toList.take (len * sz)) (fun j v hj => by
    rw [addr_add, Nat.zero_add, cell?_cells hc]
    rw [List.getElem?_take] at hj
    split at hj
    · simpa using hj
    · cases hj)
  rw [List.length_take, Array.length_toList, Nat.min_eq_left hl] at this
  simpa [Builtin.firstCells] using this

theorem appendMs_sound (h : Rel g m w) {nid : Nat} (hn : m[nid]? = some .free) {argTypes : Array TypeId} {ty : TypeId} {s x a : AV} {cs cx : Value} {us : Upd}
    (hs : VA g w s cs) (hx : VA g w x cx) (he : appendMs P (fun i => m.getD i .dead) nid argTypes s x = some (a, us, true)) :
    OpOk g m w (((do pure (.value (← Builtin.append_ argTypes ty #[cs, cx])) : Sem Next)).run P w) a (apply m us) := by
  unfold appendMs at he
  split at he
  · rename_i sType xType hs0 hx0
    split at he
    · cases he
    · rename_i elem d hd hu hux
      have hd' : ∀ k, d ≠ .int k := fun k e => hd k e
      split at he
      · rename_i info z hi hz
        split at he
        · rename_i n pvs ok hcon
          dsimp only at he
          split at he
          · -- it may have more room
            rename_i b len sz
            split at he
            · rename_i t pq l hb
              simp only [Option.some.injEq, Prod.mk.injEq, Bool.and_eq_true] at he
              obtain ⟨rfl, rfl, ⟨rfl, h2, h3, h4, h5⟩, h6, h7, h8⟩ := he
              have h8 := Nat.eq_of_beq_eq_true h8
              subst h8
              have h2 := Nat.le_of_ble_eq_true h2
              have h3 := Nat.eq_of_beq_eq_true h3
              have h4 := Nat.le_of_ble_eq_true h4
              have h5 := Nat.le_of_ble_eq_true h5
              have h6 := Nat.eq_of_beq_eq_true h6
              have h7 := Nat.le_of_ble_eq_true h7
              subst h6
              cases hs with
              | mg _ _ _ _ cap c hc hcap hroom =>
              have hbl := getD_some hb (by simp)
              have hne : b ≠ nid := fun e => by subst e; rw [hbl] at hn; cases hn
              obtain ⟨c', ob, vs, k1, k2, k3, k4, k5, k6⟩ := h.obs b _ _ hbl
              rw [hc] at k1; cases k1
              obtain ⟨cells, e, q, rfl, qt, q0, q1, q2, q3⟩ := k4
              have hkl := k3.len
              have k6 : cells.size = g.hi b := k6
              have hmul : (len + n) * info.size = len * info.size + n * info.size := Nat.add_mul _ _ _
              by_cases hneed : len + n ≤ cap
              · have hmle : (len + n) * info.size ≤ cap * info.size := Nat.mul_le_mul_right _ hneed
                obtain ⟨w', cs', vx, r0, x1, x2, xone, p3, p2, p4, p5, p6, p7, p8⟩ := run_append_room (P := P) (ty := ty) h hs0 hx0 hu hux hd' hi hx hcon k2 q0 (by omega) hneed
                have hpl := x1.len
                have hsize : cs'.size = cells.size := by
                  have := congrArg List.length p3
                  rw [setL_length] at this; simpa using this
                have hva : VAs g w (l.take (len * info.size) ++ pvs) (vs.take (len * info.size) ++ vx) := (k3.take _).append x1
                have htl : (vs.take (len * info.size)).length = len * info.size := by rw [List.length_take]; omega
                obtain ⟨r1, r2, r3⟩ := h.writeOb (ob' := .gr t (pq && pureX (fun i => m.getD i .dead) info.size x)) (l' := l.take (len * info.size) ++ pvs) (vs' := vs.take (len * info.size) ++ vx) hbl hc p4 p5 p6 p7 p8 p2
                  ⟨cs', e, q, rfl, qt, q0, by
                    rw [List.length_append, htl, p3, setL_end vx cells.toList _ (by simp; omega), q1, List.take_take, Nat.min_eq_left (by omega)], by rw [List.length_append, htl, x2, hsize]; omega, fun v hv => by
                    rw [p3] at hv
                    exact setL_mem _ _ _ q3 xone v hv⟩ hva (by show cs'.size = g.hi b; rw [hsize]; exact k6)
                have hb' : (m.set b (.ob (.gr t (pq && pureX (fun i => m.getD i .dead) info.size x)) (l.take (len * info.size) ++ pvs)))[b]? = some (.ob (.gr t (pq && pureX (fun i => m.getD i .dead) info.size x)) (l.take (len * info.size) ++ pvs)) := by rw [List.getElem?_set_self (lt_of_get hbl)]
                obtain ⟨s1, s2, s3⟩ := r1.move hb' hc (by rw [List.getElem?_set_ne hne]; exact hn)
                rw [List.set_set] at s1 s3
                exact ⟨_, w', _, .inl r0, .mg nid 0 _ _ cap c (by simp [Gh.put]) hneed (by simp [Gh.put]; omega), s1, r2.trans s2, r3.trans s3⟩
              · have hload := first_cells (P := P) (w := w.drew) (c := c) (len := len) (cap := cap) (sz := info.size) k2 (by omega)
                have hvt : vs.take (len * info.size) = cells.toList.take (len * info.size) := by rw [q1, List.take_take, Nat.min_eq_left (by omega)]
                obtain ⟨newCap, g', w', r0, r1, r2, r3, r4⟩ := grow_ok (P := P) (pq && pureX (fun i => m.getD i .dead) info.size x) (ty := ty) (l := l.take (len * info.size)) (vs := cells.toList.take (len * info.size)) h hn hs0 hx0 hu hux hd' hi hz hx hcon h2 h3 h4 h5 (by rw [← hvt]; exact k3.take _)
                  (fun v hv => q3 v (List.mem_of_mem_take hv)) (by rw [List.length_take, Array.length_toList]; omega) hload hneed
                obtain ⟨t1, t2⟩ := r1.kill b
                have e1 : ((m.set nid (.ob (.gr t (pq && pureX (fun i => m.getD i .dead) info.size x)) (l.take (len * info.size) ++ pvs))).set b .dead) = apply m [(b, .dead), (nid, .ob (.gr t (pq && pureX (fun i => m.getD i .dead) info.size x)) (l.take (len * info.size) ++ pvs))] := by
                  simp only [apply]
                  exact List.set_comm _ _ (fun e => hne e.symm)
                rw [e1] at t1 t2
                exact ⟨_, w', g', .inl r0, r4, t1, r2, r3.trans t2⟩
            · cases he
          · -- its cells are pure
            rename_i len sz cells
            split at he
            · rename_i hn0
              simp only [Option.some.injEq, Prod.mk.injEq, Bool.and_eq_true] at he
              obtain ⟨rfl, rfl, rfl, _⟩ := he
              have hn0 := Nat.eq_of_beq_eq_true hn0
              subst hn0
              have hvs := hs
              cases hs with
              | os _ _ _ _ ad cap hps htok =>
              have hcap : cap = len := by
                rcases htok with e | ⟨t, b, o, e, _⟩
                · exact e
                · cases e
              subst hcap
              have hsz : szOf P elem = some info.size := by simp [szOf, hi]
              obtain ⟨vx, _, _, _, x3, x4⟩ := contentsA_sound (P := P) h hcon hx
              have x5 := x4 0 (Nat.le_refl _)
              simp only [Nat.zero_mul, List.take_zero] at x5
              refine OpOk.quiet h (v := .slice ad cap cap) ?_ hvs
              cases ad with
              | none => simp [Builtin.append_, hs0, hx0, run_underlying hu, run_sizeOf' hsz, run_underlying hux, x3, x5, Result.andThen]
              | some ad => simp [Builtin.append_, hs0, hx0, run_underlying hu, run_sizeOf' hsz, run_underlying hux, x3, x5, storeCells, Result.andThen]
            rename_i hn0
            simp only [Option.some.injEq, Prod.mk.injEq, Bool.and_eq_true] at he
            obtain ⟨rfl, rfl, ⟨rfl, h2, h3, h4, h5⟩, h6⟩ := he
            have h1 : 1 ≤ n := by
              rcases Nat.eq_zero_or_pos n with e | e
              · subst e; cases hn0
              · exact e
            have h2 := Nat.le_of_ble_eq_true h2
            have h3 := Nat.eq_of_beq_eq_true h3
            have h4 := Nat.le_of_ble_eq_true h4
            have h5 := Nat.le_of_ble_eq_true h5
            cases hs with
            | os _ _ _ _ ad cap hps htok =>
            have hcap : cap = len := by
              rcases htok with e | ⟨t, b, o, e, _⟩
              · exact e
              · cases e
            subst hcap
            have hps' := ps_size hps h6
            obtain ⟨d1, d2, d3⟩ := h.sameHeap (w' := w.drew) rfl rfl rfl rfl
            obtain ⟨vs, s1, s2, sone, s3, s4⟩ := stands_ps (P := P) (hps'.mono d2.pure)
            have s5 := s4 cap (Nat.le_refl _)
            rw [List.take_of_length_le (by omega)] at s5
            have hcl := s1.len
            have hva : VAs g w (cells.map .p) vs := All2.of_get (by simpa using hcl) fun i a b => by
              have := s1.get i (by simpa using a) b
              rw [List.getElem_map]
              exact .p _ _ (this.mono (g := g) (w := w.drew) fun c o p => ⟨p, (d2.pure c o p).2.symm⟩)
            obtain ⟨newCap, g', w', r0, r1, r2, r3, r4⟩ := grow_ok (P := P) (pureX (fun i => m.getD i .dead) info.size x) (ty := ty) (l := cells.map .p) (vs := vs) (cap := cap) h hn hs0 hx0 hu hux hd' hi hz hx hcon h2 h3 h4 h5 hva sone s2 s5 (by omega)
            exact ⟨_, w', g', .inl r0, r4, r1, r2, r3⟩
          · -- its room is known
            rename_i b len sz cap
            split at he
            · rename_i l hl
              cases hs with
              | ms _ _ _ _ cap c hc hcap =>
              obtain ⟨cells, e, q, k2, q0, k3, q2, q3⟩ := told_stands h hl hc
              have hmul : (len + n) * info.size = len * info.size + n * info.size := Nat.add_mul _ _ _
              cases hr : Nat.ble (len + n) cap with
              | true =>
                have hneed := Nat.le_of_ble_eq_true hr
                simp only [hr, cond_true] at he
                split at he
                · rename_i b' ok' hp
                  simp only [Option.some.injEq, Prod.mk.injEq, Bool.and_eq_true] at he
                  obtain ⟨rfl, rfl, ⟨rfl, h2, h3, h4, h5⟩, rfl, h6⟩ := he
                  have h6 := Nat.eq_of_beq_eq_true h6
                  subst h6
                  obtain ⟨vx0, x0, x2', _⟩ := contentsA_sound (P := P) h hcon hx
                  have hpl0 := x0.len
                  have hroom : len * info.size + pvs.length ≤ l.length := by
                    rcases putCells_cells hp with ⟨l', hl1, _, hroom⟩ | ⟨t0, pq, l', hl1, _, hroom⟩
                    · have : l' = l := by
                        generalize m.getD b .dead = B at hl hl1
                        cases B <;> simp_all [toldCells, Blk.cells?]
                      rw [← this]; exact hroom
                    · have hl1 : m.getD b .dead = .ob (.gr t0 pq) l' := hl1
                      have : l' = l := by
                        have hl : toldCells (m.getD b .dead) = some l := hl
                        rw [hl1] at hl; simpa [toldCells] using hl
                      rw [← this]; rw [List.length_map] at hroom; exact hroom
                  have hroom' : (len + n) * info.size ≤ cells.size := by omega
                  obtain ⟨w', cs', vx, r0, x1, x2, xone, p3, p2, p4, p5, p6, p7, p8⟩ := run_append_room (P := P) (ty := ty) h hs0 hx0 hu hux hd' hi hx hcon k2 q0 hroom' hneed
                  have hpl := x1.len
                  have hxa : VAs g w pvs vx := x1
                  rcases putCells_cells hp with ⟨l', hl1, hl2, hroom2⟩ | ⟨t0, pq, l', hl1, rfl, hroom2⟩
                  · have hm : m[b]? = some (m.getD b .dead) := getD_some rfl (fun e => by
                      have hl1 : (m.getD b .dead).cells? = some l' := hl1
                      rw [e] at hl1; cases hl1)
                    obtain ⟨c', cs0, e0, q0', y1, y2, y3, y4, y5⟩ := h.cells b _ l' hm hl1
                    rw [hc] at y1; cases y1
                    rw [k2] at y2; cases y2
                    obtain ⟨r1, r2, r3⟩ := h.write (b' := b') hm hl1 hc hl2 p4 p5 p6 p7 p8 p2 y3 (by rw [p3]; exact ⟨y4.1.setL _ hxa, setL_mem _ _ _ y4.2 xone⟩)
                    exact ⟨_, w', g, .inl r0, .ms b 0 _ _ cap c hc hneed, r1, r2, r3⟩
                  · have hm : m[b]? = some (.ob (.gr t0 pq) l') := getD_some hl1 (by simp)
                    obtain ⟨r1, r2, r3⟩ := h.gr_write hm hc k2 (weaks_sound hxa) xone hroom2 p3 p4 p5 p6 p7 p8 p2
                    exact ⟨_, w', g, .inl r0, .ms b 0 _ _ cap c hc hneed, r1, r2, r3⟩
                · cases he
              | false =>
                have hneed : ¬ len + n ≤ cap := fun k => by rw [Nat.ble_eq_true_of_le k] at hr; cases hr
                simp only [hr, cond_false, Option.some.injEq, Prod.mk.injEq, Bool.and_eq_true] at he
                obtain ⟨rfl, rfl, ⟨rfl, h2, h3, h4, h5⟩, h6, h7⟩ := he
                have h2 := Nat.le_of_ble_eq_true h2
                have h3 := Nat.eq_of_beq_eq_true h3
                have h4 := Nat.le_of_ble_eq_true h4
                have h5 := Nat.le_of_ble_eq_true h5
                have h6 := Nat.eq_of_beq_eq_true h6
                have h7 := Nat.le_of_ble_eq_true h7
                subst h6
                have hload := first_cells (P := P) (w := w.drew) (c := c) (len := len) (cap := cap) (sz := info.size) k2 (by omega)
                obtain ⟨newCap, g', w', r0, r1, r2, r3, r4⟩ := grow_ok (P := P) (isPc (m.getD b .dead) && pureX (fun i => m.getD i .dead) info.size x) (ty := ty) (l := l.take (len * info.size)) (vs := cells.toList.take (len * info.size)) h hn hs0 hx0 hu hux hd' hi hz hx hcon h2 h3 h4 h5
                  (by have := k3.take (len * info.size); rwa [List.take_take, Nat.min_eq_left h7] at this)
                  (fun v hv => q3 v (List.mem_of_mem_take hv)) (by rw [List.length_take, Array.length_toList]; omega) hload hneed
                exact ⟨_, w', g', .inl r0, r4, r1, r2, r3⟩
            · cases he
          · cases he
        · cases he
      · cases he
    · cases he
  · cases he

theorem nilSl_sound {s : AV} {cs : Value} (h : VA g w s cs) : VA g w (nilSl s) cs := by
  unfold nilSl
  split
  · rw [VA.pv] at h
    cases h with
    | ps _ _ _ b o cap f hl hc hz hp hv => omega
    | psE sz a cap hz =>
      obtain ⟨rfl, rfl⟩ := hz.resolve_left (by omega)
      exact .os none 0 0 [] none 0 (.psE 0 none 0 (.inr ⟨rfl, rfl⟩)) (.inl rfl)
  · exact h

end
end Go.Am
