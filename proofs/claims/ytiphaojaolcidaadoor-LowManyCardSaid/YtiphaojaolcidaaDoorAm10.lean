/-
  Operations that make or write blocks.
-/
import Derived.Test.YtiphaojaolcidaaDoorAm9
import Derived.IntWalk
namespace Go.Am
open Go.RowKit

theorem heap_setCell {w : World} {c o : Nat} {v : Value} {cs : Array Value} {e : TypeId} {n : Nat × Nat} (h : w.heap[c]? = some (.cells cs e n)) :
    (w.setCell ⟨c, o, none⟩ v).heap[c]? = some (.cells (cs.setIfInBounds o v) e n) ∧ ∀ k, k ≠ c → (w.setCell ⟨c, o, none⟩ v).heap[k]? = w.heap[k]? := by
  refine ⟨?_, fun k hk => Below.heap_setCell _ _ _ _ hk⟩
  simp [World.setCell, Array.getElem?_modify, h]

section ops
variable {P : Program} {g : Gh} {m : Mem} {w : World}

/-- Stores, one behind the other. -/
theorem run_stores (c off : Nat) : ∀ (vs : List Value) (i : Nat) (w : World) (cs : Array Value) (e : TypeId) (n : Nat × Nat), w.heap[c]? = some (.cells cs e n) →
    (∀ j, j < vs.length → n.2 ≤ n.1 ∨ off + i + j < n.1) → off + i + vs.length ≤ cs.size → (∀ v ∈ vs, v.oneCell' = true) →
    ∃ w' cs', (storeCells ⟨c, off, none⟩ vs i).run P w = .ok () w' ∧ w'.heap[c]? = some (.cells cs' e n) ∧ cs'.toList = setL cs.toList (off + i) vs ∧ (∀ k, k ≠ c → w'.heap[k]? = w.heap[k]?) ∧
      w'.heap.size = w.heap.size ∧ w'.os = w.os ∧ w'.tape = w.tape ∧ w'.output = w.output
  | [], i, w, cs, e, n, h, _, _, _ => ⟨w, cs, rfl, h, rfl, fun _ _ => rfl, rfl, rfl, rfl, rfl⟩
  | v :: vs, i, w, cs, e, n, h, hf, hl, h1 => by
    simp only [List.length_cons] at hl
    obtain ⟨k1, k2⟩ := heap_setCell (o := off + i) (v := v) h
    have hcell : w.cell? ⟨c, off + i, none⟩ = some cs[off + i] := by rw [cell?_cells h, Array.getElem?_eq_getElem (by omega)]
    have hfz : w.frozen? ⟨c, off + i, none⟩ = false := by
      have := hf 0 (by simp)
      simp only [World.frozen?, h, Bool.and_eq_false_iff, decide_eq_false_iff_not]
      omega
    obtain ⟨w', cs', q1, q2, q3, q4, q5, q6, q7, q8⟩ := run_stores c off vs (i + 1) (w.setCell ⟨c, off + i, none⟩ v) (cs.setIfInBounds (off + i) v) e n k1
      (fun j hj => by have := hf (j + 1) (by simp; omega); omega) (by simp; omega) (fun u hu => h1 u (.tail _ hu))
    refine ⟨w', cs', ?_, q2, ?_, fun k hk => (q4 k hk).trans (k2 k hk), q5.trans (by simp), q6, q7, q8⟩
    · simp only [storeCells, Sem.run_bind, addr_add, run_store P w _ v _ (h1 v (.head _)), hcell, hfz, Bool.false_eq_true, if_false, Result.andThen_ok, q1]
    · rw [q3]; simp [setL, Nat.add_assoc]

theorem rep_zero {α : Type} (f : Nat → α) (n : Nat) (h : n = 0) : ((Array.range n).map f).toList = [] := by subst h; simp

theorem setL_length {α : Type} : ∀ (n l : List α) (o : Nat), (setL l o n).length = l.length
  | [], _, _ => rfl
  | x :: n, l, o => by simp [setL, setL_length n]

theorem setL_map {α β : Type} (f : α → β) : ∀ (n l : List α) (o : Nat), (setL l o n).map f = setL (l.map f) o (n.map f)
  | [], _, _ => rfl
  | x :: n, l, o => by simp [setL, setL_map f n, List.map_set]

theorem setL_get {α : Type} : ∀ (n l : List α) (o k : Nat), k < o ∨ o + n.length ≤ k → (setL l o n)[k]? = l[k]?
  | [], _, _, _, _ => rfl
  | x :: n, l, o, k, h => by
    simp only [List.length_cons] at h
    rw [setL, setL_get n _ (o + 1) k (by omega), List.getElem?_set_ne (by omega)]

theorem setL_new {α : Type} : ∀ (n l : List α) (o k : Nat) (_ : k < n.length), o + n.length ≤ l.length → (setL l o n)[o + k]? = n[k]?
  | x :: n, l, o, 0, _, h => by
    simp only [List.length_cons] at h
    simp only [setL, Nat.add_zero]
    rw [setL_get n _ (o + 1) o (.inl (Nat.lt_succ_self _)), List.getElem?_set_self (by omega)]
    rfl
  | x :: n, l, o, k + 1, hk, h => by
    simp only [List.length_cons] at h
    have hk : k < n.length := by simpa using hk
    simp only [setL, show o + (k + 1) = o + 1 + k by omega]
    rw [setL_new n _ (o + 1) k hk (by rw [List.length_set]; omega)]
    simp
  | [], _, _, _, hk, _ => by simp at hk

theorem weak1_sound {g : Gh} {w : World} {v : AV} {cv : Value} (h : VA g w v cv) : VA g w (weak1 v) cv := by
  unfold weak1
  split
  · cases h with
    | os tok len sz cells a cap h hr => exact .p _ _ h
  · exact h

theorem weaks_sound {g : Gh} {w : World} : ∀ {l : List AV} {cs : List Value}, VAs g w l cs → VAs g w (l.map weak1) cs
  | [], [], _ => trivial
  | _ :: _, _ :: _, h => ⟨weak1_sound h.1, weaks_sound h.2⟩
  | [], _ :: _, h => h.elim
  | _ :: _, [], h => h.elim

theorem putCells_cells {b b' : Blk} {off : Nat} {vs : List AV} (h : putCells b off vs = some (b', true)) : (∃ l, b.cells? = some l ∧ b'.cells? = some (setL l off vs) ∧ off + vs.length ≤ l.length) ∨
    ∃ t q l, b = .ob (.gr t q) l ∧ b' = .ob (.gr t q) (setL l off (vs.map weak1)) ∧ off + (vs.map weak1).length ≤ l.length := by
  unfold putCells at h
  split at h
  · rename_i l
    split at h
    · rename_i pvs hp
      simp only [Option.some.injEq, Prod.mk.injEq] at h
      obtain ⟨rfl, h1⟩ := h
      refine .inl ⟨l.map .p, rfl, ?_, by simpa using Nat.le_of_ble_eq_true h1⟩
      simp [Blk.cells?, setL_map, psOf_map hp]
    · simp only [Option.some.injEq, Prod.mk.injEq] at h
      obtain ⟨rfl, h1⟩ := h
      exact .inl ⟨l.map .p, rfl, rfl, by simpa using Nat.le_of_ble_eq_true h1⟩
  · rename_i l
    simp only [Option.some.injEq, Prod.mk.injEq] at h
    obtain ⟨rfl, h1⟩ := h
    exact .inl ⟨l, rfl, rfl, Nat.le_of_ble_eq_true h1⟩
  · rename_i t pq l
    simp only [Option.some.injEq, Prod.mk.injEq] at h
    obtain ⟨rfl, h1⟩ := h
    exact .inr ⟨_, _, l, rfl, rfl, by rw [List.length_map]; exact Nat.le_of_ble_eq_true h1⟩
  · cases h

theorem setL_take {α : Type} : ∀ (n l : List α) (o k : Nat), o + n.length ≤ k → (setL l o n).take k = setL (l.take k) o n
  | [], _, _, _, _ => rfl
  | v :: n, l, o, k, h => by
    simp only [List.length_cons] at h
    simp only [setL]
    rw [setL_take n (l.set o v) (o + 1) k (by omega), List.take_set]

/-- A list that may have more room, some of whose cells are written. -/
theorem Rel.gr_write {m : Mem} {w w' : World} (h : Rel g m w) {b c : Nat} {k xs : List AV} {us : List Value} {off : Nat} {cs cs' : Array Value} {e t : TypeId} {pq : Bool} {n : Nat × Nat} (hb : m[b]? = some (.ob (.gr t pq) k)) (hc : g.blk b = some c) (hcs : w.heap[c]? = some (.cells cs e n))
    (hx : VAs g w xs us) (hone : ∀ v ∈ us, v.oneCell' = true) (hroom : off + xs.length ≤ k.length) (hl : cs'.toList = setL cs.toList off us)
    (hw : ∀ j, j ≠ c → w'.heap[j]? = w.heap[j]?) (hs : w'.heap.size = w.heap.size) (ho : w'.os = w.os) (ht : w'.tape = w.tape) (hu : w'.output = w.output) (hh : w'.heap[c]? = some (.cells cs' e n)) :
    Rel g (m.set b (.ob (.gr t pq) (setL k off xs))) w' ∧ Ext g w g w' ∧ Stp g m w g (m.set b (.ob (.gr t pq) (setL k off xs))) w' := by
  obtain ⟨c', ob, vs, h1, h2, h3, h4, h5, h6⟩ := h.obs b _ _ hb
  rw [hc] at h1; cases h1
  obtain ⟨cs0, e0, n0, rfl, qt, q0, q1, q2, q3⟩ := h4
  rw [hcs] at h2; cases h2
  have hkl := h3.len
  have hxl := hx.len
  have hsz : cs'.size = cs.size := by
    have := congrArg List.length hl
    rw [setL_length] at this; simpa using this
  have hvl : (setL vs off us).length = vs.length := setL_length _ _ _
  refine h.writeOb (ob' := .gr t pq) (l' := setL k off xs) (vs' := setL vs off us) hb hc hw hs ho ht hu hh ⟨cs', e, n, rfl, qt, q0, ?_, by omega, fun v hv => ?_⟩ (h3.setL off hx) (by show cs'.size = g.hi b; rw [hsz]; exact h6)
  · rw [hvl, hl, setL_take us cs.toList off vs.length (by omega), ← q1]
  · rw [hl] at hv
    exact setL_mem _ _ _ q3 hone v hv

theorem storeOp_sound (h : Rel g m w) {t : TypeId} {a v r : AV} {ca cv : Value} {us : Upd} (ha : VA g w a ca) (hv : VA g w v cv) (he : storeOp P (fun i => m.getD i .dead) t a v = some (r, us, true)) :
    ∃ w' , (Instr.storeAt t ca cv).run P w = .ok () w' ∧ r = .tup [] ∧ Rel g (apply m us) w' ∧ Ext g w g w' ∧ Stp g m w g (apply m us) w' := by
  unfold storeOp at he
  split at he
  · rename_i b off n hsz
    split at he
    · rename_i b' ok hp
      simp only [Option.some.injEq, Prod.mk.injEq, Bool.and_eq_true, Nat.beq_eq] at he
      obtain ⟨rfl, rfl, ⟨rfl, h1⟩, h2⟩ := he
      obtain ⟨k1, k2⟩ := cellsOf_sound h1 hv
      cases ha with
      | mp _ _ c hc =>
      have hsize : cv.cells.size = n := by have hkl := k1.len; simp at hkl; omega
      rcases putCells_cells hp with ⟨l, hl, hl', hroom⟩ | ⟨t0, pq, l, hl, rfl, hroom⟩
      case inr =>
        have hm : m[b]? = some (.ob (.gr t0 pq) l) := getD_some hl (by simp)
        obtain ⟨c', ob, vs, h1', h2', h3', h4', h5', h6'⟩ := h.obs b _ _ hm
        rw [hc] at h1'; cases h1'
        obtain ⟨cs, e, q, rfl, _, q0, q1, q2, q3⟩ := h4'
        have hlen := h3'.len
        have hkl := k1.len
        have hroom0 := hroom
        rw [List.length_map] at hroom0
        simp at hkl
        obtain ⟨w', cs', p1, p2, p3, p4, p5, p6, p7, p8⟩ := run_stores (P := P) c off cv.cells.toList 0 w cs e q h2' (fun _ _ => .inl q0) (by simp; omega) k2
        simp only [Nat.add_zero] at p3
        obtain ⟨r1, r2, r3⟩ := h.gr_write hm hc h2' (weaks_sound k1) k2 hroom p3 p4 p5 p6 p7 p8 p2
        exact ⟨w', by simp [Instr.storeAt, Instr.sureAddr, storeVar, run_sizeOf' hsz, hsize, p1], rfl, r1, r2, r3⟩
      have hm : m[b]? = some (m.getD b .dead) := getD_some rfl (fun e => by
        have hl : (m.getD b .dead).cells? = some l := hl
        rw [e] at hl; cases hl)
      obtain ⟨c', cs, e, q, q1, q2, q3, q4, q5⟩ := h.cells b _ l hm hl
      rw [hc] at q1; cases q1
      have hlen := q4.1.len
      have hkl := k1.len
      simp at hlen hkl
      obtain ⟨w', cs', p1, p2, p3, p4, p5, p6, p7, p8⟩ := run_stores (P := P) c off cv.cells.toList 0 w cs e q q2 (fun _ _ => .inl q3) (by simp; omega) k2
      simp only [Nat.add_zero] at p3
      obtain ⟨r1, r2, r3⟩ := h.write (b' := b') hm hl hc hl' p4 p5 p6 p7 p8 p2 q3 (by rw [p3]; exact ⟨q4.1.setL off k1, setL_mem _ _ _ q4.2 k2⟩)
      refine ⟨w', ?_, rfl, r1, r2, r3⟩
      simp [Instr.storeAt, Instr.sureAddr, storeVar, run_sizeOf' hsz, hsize, p1]
    · cases he
  · cases he

theorem allocOp_sound (h : Rel g m w) {nid : Nat} (hn : m[nid]? = some .free) {t : TypeId} {a : AV} {us : Upd} {ok : Bool} (he : allocOp P nid t = some (a, us, ok)) {ty : TypeId} {pos : String} {o : Oper} {ρc : Operand → Value} (ho : o.op = .alloc t) (_ : ty = ty) (_ : pos = pos) :
    OpOk g m w ((execOp ρc o).run P w) a (apply m us) := by
  unfold allocOp at he
  simp only [Option.map_eq_some_iff, Prod.mk.injEq] at he
  obtain ⟨l, hz, rfl, rfl, rfl⟩ := he
  obtain ⟨z, hz1, hz2⟩ := zeroCells_sound (g := g) (w := w) hz
  refine OpOk.alloc h hn (mkBlk_cells l) hz2 (e := t) (v := .pointer (some ⟨w.heap.size, 0, none⟩)) ?_ fun g' hg => .mp nid 0 _ hg
  simp [execOp, ho, Instr.alloc, hz1, newVar, newRow]

theorem allocWOp_sound (h : Rel g m w) {nid : Nat} (hn : m[nid]? = some .free) {t : TypeId} {a : AV} {us : Upd} {ok : Bool} (he : allocWOp P nid t = some (a, us, ok)) {o : Oper} {ρc : Operand → Value} (ho : o.op = .alloc t) :
    OpOk g m w ((execOp ρc o).run P w) a (apply m us) := by
  unfold allocWOp at he
  simp only [Option.map_eq_some_iff, Prod.mk.injEq] at he
  obtain ⟨l, hz, rfl, rfl, rfl⟩ := he
  obtain ⟨z, hz1, hz2⟩ := zeroCells_sound (g := g) (w := w) hz
  have hlen := hz2.1.len
  obtain ⟨r1, r2, r3⟩ := h.allocObH z.cells.size (ob := .gr t false) (l := l) (vs := z.cells.toList) hn hz2.1 (grew_alloc w (.cells z.cells t)) ⟨z.cells, t, (0, 0), rfl, rfl, Nat.le_refl _, (List.take_of_length_le (Nat.le_refl _)).symm, by simp, hz2.2⟩ rfl
  refine ⟨.pointer (some ⟨w.heap.size, 0, none⟩), _, _, .inl ?_, .mp nid 0 _ (by simp [Gh.put]), r1, r2, r3⟩
  simp [execOp, ho, Instr.alloc, hz1, newVar, newRow]

theorem boxOp_sound (h : Rel g m w) {nid : Nat} (hn : m[nid]? = some .free) {v a : AV} {cv : Value} {us : Upd} (hv : VA g w v cv) (he : boxOp nid v = some (a, us, true)) {t : TypeId} {r : Result Next} (hr : r = .ok (.value (.pointer (some ⟨w.heap.size, 0, none⟩))) (w.alloc (.cells cv.cells t))) :
    OpOk g m w r a (apply m us) := by
  unfold boxOp at he
  simp only [Option.some.injEq, Prod.mk.injEq] at he
  obtain ⟨rfl, rfl, h1⟩ := he
  exact OpOk.alloc h hn (mkBlk_cells _) (cellsOf_sound h1 hv) (e := t) hr fun g' hg => .mp nid 0 _ hg

/-- A new slice of pure cells. -/
theorem OpOk.pureSlice (h : Rel g m w) {len size : Nat} {pvs : List PV} {cs : Array Value} {e : TypeId} (hv : VPs g w pvs cs.toList) (ho : ∀ v ∈ cs.toList, v.oneCell' = true) (hl : cs.size = len * size) (hz1 : 1 ≤ size) {r : Result Next}
    (hr : r = .ok (.value (.slice (some ⟨w.heap.size, 0, none⟩) len len)) (w.alloc (.cells cs e))) : OpOk g m w r (.os none len size pvs) m := by
  obtain ⟨h1, h2, h3⟩ := h.allPure (grew_alloc w (.cells cs e))
  have hpl := hv.len
  simp at hpl
  refine ⟨_, _, _, .inl hr, .os none len size pvs _ len ?_ (.inl rfl), h1, h2, h3⟩
  refine .ps len size pvs w.heap.size 0 len (fun k => cs.getD k undef) (by omega) (Nat.le_refl _) hz1 (fun k hk => ?_) fun k hk => ?_
  · have : k < cs.size := by omega
    refine ⟨.inr ⟨rfl, by omega, by omega⟩, ?_, by simpa [Array.getD, this] using ho cs[k] (by simp)⟩
    rw [cell?_cells (grew_alloc w (.cells cs e)).new]
    simp [Array.getD, this]
  · have : k < cs.size := by omega
    have hk2 := hv.get k hk (by simpa using this)
    simp only [Array.getD, this, dite_true]
    exact hk2.mono h2.pure

theorem pvsFor_some {elem : TypeId} {wr : Bool} {cells : List AV} {pvs : List PV} (h : pvsFor P elem wr cells = some pvs) : toPVs cells = some pvs := by
  unfold pvsFor at h
  split at h
  · cases h
  · exact h

theorem buildSliceOp_sound (h : Rel g m w) {nid : Nat} (hn : m[nid]? = some .free) {wr : Bool} {t : TypeId} {len : Nat} {parts : List (Nat × AV)} {cparts : Array (Nat × Value)} {a : AV} {us : Upd}
    (he : buildSliceOp P wr nid t len parts = some (a, us, true)) (hp : All2 (fun a b => a.1 = b.1 ∧ VA g w a.2 b.2) parts cparts.toList) :
    OpOk g m w (((do pure (.value (← Instr.buildSlice t len cparts)) : Sem Next)).run P w) a (apply m us) := by
  unfold buildSliceOp at he
  split at he
  · rename_i elem hu
    split at he
    · rename_i size z hsz hz
      split at he
      · rename_i cells ok hf
        obtain ⟨size', z0, e1, e2, e3, e4, rfl⟩ := zeros_eq hz
        rw [hsz] at e1; cases e1
        obtain ⟨zv, z1, z2⟩ := zeroCells_sound (g := g) (w := w) e2
        have hzl := z2.1.len
        simp at hzl
        have hzs : zv.cells.size = size := by omega
        have key : ∀ (b : Bool), ok = true → Nat.ble (len * size) 16777216 = true →
            ∃ ca', (Instr.buildSlice t len cparts).run P w = .ok (.slice (some ⟨w.heap.size, 0, none⟩) len len) (w.alloc (.cells ca' elem)) ∧ CAs g w cells ca'.toList ∧ ca'.size = len * size := by
          intro _ hok hle
          subst hok
          have hle := Nat.le_of_ble_eq_true hle
          have hrep : CAs g w (repeats z0 len) ((Array.range (len * size)).map ((if len * size = 0 then #[] else zv.cells)[· % (if len * size = 0 then #[] else zv.cells).size]!)).toList := by
            by_cases e : len * size = 0
            · have : len = 0 := by rcases Nat.mul_eq_zero.1 e with k | k <;> omega
              rw [rep_zero _ _ e, this]; exact ⟨trivial, fun _ h => by cases h⟩
            · simp only [e, if_false]
              have h1 := rep_sound z2.1 len
              have h2 := rep_one z2.2 len
              rw [hzs] at h1 h2 ⊢; exact ⟨h1, h2⟩
          obtain ⟨ca', f1, f2, f3⟩ := fillL_sound hp hrep hf
          refine ⟨ca', ?_, f2, by rw [f3]; simp⟩
          have hnot : ¬ (len * size > 2 ^ 24) := by omega
          clear hrep f2 f3
          by_cases e : len * size = 0
          · simp only [e, if_true] at f1 hnot
            simp only [Instr.buildSlice, Sem.run_bind, run_underlying hu, Result.andThen_ok, run_sizeOf' hsz, hnot, if_false, e, if_true, f1, newRow, run_newObj, World.alloc_eq, Sem.run_pure]
          · simp only [e, if_false] at f1
            simp only [Instr.buildSlice, Sem.run_bind, run_underlying hu, Result.andThen_ok, run_sizeOf' hsz, hnot, if_false, e, z1, f1, newRow, run_newObj, World.alloc_eq, Sem.run_pure]
        split at he
        · rename_i pvs hpv
          simp only [Option.some.injEq, Prod.mk.injEq, Bool.and_eq_true] at he
          obtain ⟨rfl, rfl, hok, hle⟩ := he
          obtain ⟨ca', k1, k2, k3⟩ := key true hok hle
          exact OpOk.pureSlice (e := elem) h (toPVs_sound (pvsFor_some hpv) k2.1) k2.2 k3 (by omega) (by simp [k1])
        · rename_i pvs hpv
          simp only [Option.some.injEq, Prod.mk.injEq, Bool.and_eq_true] at he
          obtain ⟨rfl, rfl, hok, hle⟩ := he
          obtain ⟨ca', k1, k2, k3⟩ := key true hok hle
          have hpp := toPVs_sound (pvsFor_some hpv) k2.1
          have hva : VAs g w (pvs.map .p) ca'.toList := All2.of_get (by simpa using hpp.len) fun i a b => by
            have := hpp.get i (by simpa using a) b
            rw [List.getElem_map]; exact .p _ _ this
          obtain ⟨r1, r2, r3⟩ := h.allocObH ca'.size (ob := .gr elem true) (l := pvs.map .p) (vs := ca'.toList) hn hva (grew_alloc w (.cells ca' elem)) ⟨ca', elem, (0, 0), rfl, rfl, Nat.le_refl _, (List.take_of_length_le (Nat.le_refl _)).symm, by simp, k2.2⟩ rfl
          exact ⟨_, _, _, .inl (by simp [k1]), .mg nid 0 len size len w.heap.size (by simp [Gh.put]) (Nat.le_refl _) (by simp [Gh.put]; omega), r1, r2, r3⟩
        · simp only [Option.some.injEq, Prod.mk.injEq, Bool.and_eq_true] at he
          obtain ⟨rfl, rfl, hok, hle⟩ := he
          obtain ⟨ca', k1, k2, k3⟩ := key true hok hle
          exact OpOk.alloc h hn (mkBlk_cells _) k2 (e := elem) (v := .slice (some ⟨w.heap.size, 0, none⟩) len len) (by simp [k1]) fun g' hg => .ms nid 0 len size len _ hg (Nat.le_refl _)
      · cases he
    · cases he
  · cases he

theorem wrap64_id {n : Int} (h0 : 0 ≤ n) (h1 : n ≤ 9223372036854775807) : IntKind.i64.wrap n = n := IntWalk.i64_in n ⟨by omega, h1⟩

theorem makeSliceOp_sound (h : Rel g m w) {nid : Nat} (hn : m[nid]? = some .free) {t : TypeId} {len cap a : AV} {cl cc : Value} {us : Upd}
    (hl : VA g w len cl) (hc : VA g w cap cc) (he : makeSliceOp P nid t len cap = some (a, us, true)) :
    OpOk g m w (((do pure (.value (← Instr.makeSlice t cl cc)) : Sem Next)).run P w) a (apply m us) := by
  unfold makeSliceOp at he
  split at he
  · rename_i elem k l k' c hu
    rw [VA.pv] at hl hc
    cases hl; cases hc
    split at he
    · rename_i info blk hi hb
      simp only [Option.some.injEq, Prod.mk.injEq, Bool.and_eq_true, decide_eq_true_eq] at he
      obtain ⟨rfl, rfl, ⟨⟨h0, h1⟩, h2⟩, h3⟩ := he
      have h2 := Nat.le_of_ble_eq_true h2
      have h3 := Nat.le_of_ble_eq_true h3
      unfold lim at h2 h3
      obtain ⟨size, z, e1, e2, e3, e4, e5⟩ := mkRep_eq hb
      have hsize : size = info.size := by simp [szOf, hi] at e1; exact e1.symm
      obtain ⟨zv, z1, z2⟩ := zeroCells_sound (g := g) (w := w) e2
      have hzl := z2.1.len
      simp at hzl
      have hzs : zv.cells.size = size := by omega
      have hw1 : IntKind.i64.wrap l = l := wrap64_id h0 (by omega)
      have hw2 : IntKind.i64.wrap c = c := wrap64_id (by omega) (by omega)
      have hcn : (c.toNat : Int) = c := Int.toNat_of_nonneg (by omega)
      have hbig : (info.bytes : Int) * c ≤ 70368744177664 := by
        have : ((info.bytes * c.toNat : Nat) : Int) ≤ 70368744177664 := Int.ofNat_le.2 h3
        rwa [Int.natCast_mul, hcn] at this
      have hrep : CAs g w (repeats z c.toNat) ((Array.range (c.toNat * size)).map ((if c.toNat * size = 0 then #[] else zv.cells)[· % (if c.toNat * size = 0 then #[] else zv.cells).size]!)).toList := by
        by_cases e : c.toNat * size = 0
        · have : c.toNat = 0 := by rcases Nat.mul_eq_zero.1 e with k | k <;> omega
          rw [rep_zero _ _ e, this]; exact ⟨trivial, fun _ h => by cases h⟩
        · simp only [e, if_false]
          have h1 := rep_sound z2.1 c.toNat
          have h2 := rep_one z2.2 c.toNat
          rw [hzs] at h1 h2 ⊢; exact ⟨h1, h2⟩
      have hsz : szOf P elem = some size := e1
      refine OpOk.alloc h hn e5 hrep (e := elem) (v := .slice (some ⟨w.heap.size, 0, none⟩) l.toNat c.toNat) ?_ fun g' hg => hsize ▸ .ms nid 0 l.toNat size c.toNat _ hg (by omega)
      have t1 : (decide (c < 0) || decide ((info.bytes : Int) * c > 2 ^ 48)) = false := by simp only [Bool.or_eq_false_iff, decide_eq_false_iff_not]; omega
      have t2 : ((decide (c < 0) || decide ((info.bytes : Int) * c > 2 ^ 48)) || decide (l < 0) || decide (l > c)) = false := by rw [t1, Bool.false_or, Bool.or_eq_false_iff, decide_eq_false_iff_not, decide_eq_false_iff_not]; exact ⟨by omega, by omega⟩
      by_cases e : c.toNat * size = 0
      · simp only [Instr.makeSlice, Sem.run_bind, run_underlying hu, Result.andThen_ok, asInt, asIntOf, Sem.run_pure, run_typeInfo' hi, hw1, hw2, t2, Bool.false_eq_true, if_false, run_askRoom, run_sizeOf' hsz, e, if_true, newRow, run_newObj, World.alloc_eq]
      · simp only [Instr.makeSlice, Sem.run_bind, run_underlying hu, Result.andThen_ok, asInt, asIntOf, Sem.run_pure, run_typeInfo' hi, hw1, hw2, t2, Bool.false_eq_true, if_false, run_askRoom, run_sizeOf' hsz, e, z1, newRow, run_newObj, World.alloc_eq]
    · cases he
  · cases he

theorem repeats_one {α : Type} (v : α) : ∀ n, repeats [v] n = List.replicate n v
  | 0 => rfl
  | n + 1 => by rw [repeats, repeats_one v n]; rfl

theorem toPVs_replicate {z : AV} {pv : PV} (h : toPV z = some pv) : ∀ n, toPVs (List.replicate n z) = some (List.replicate n pv)
  | 0 => rfl
  | n + 1 => by simp only [List.replicate_succ, toPVs, h, toPVs_replicate h n]

theorem makePureOp_sound (h : Rel g m w) {t : TypeId} {len cap a : AV} {cl cc : Value} {us : Upd}
    (hl : VA g w len cl) (hc : VA g w cap cc) (he : makePureOp P t len cap = some (a, us, true)) :
    OpOk g m w (((do pure (.value (← Instr.makeSlice t cl cc)) : Sem Next)).run P w) a (apply m us) := by
  unfold makePureOp at he
  split at he
  · rename_i elem k l k' c hu
    rw [VA.pv] at hl hc
    cases hl; cases hc
    split at he
    · rename_i info z hi hz
      split at he
      · rename_i pv hpv
        simp only [Option.some.injEq, Prod.mk.injEq, Bool.and_eq_true, decide_eq_true_eq] at he
        obtain ⟨rfl, rfl, h0, rfl, h1, h2, h3⟩ := he
        have h1 := Nat.eq_of_beq_eq_true h1
        have h2 := Nat.le_of_ble_eq_true h2
        have h3 := Nat.le_of_ble_eq_true h3
        unfold lim at h2 h3
        have hsz : szOf P elem = some 1 := by simp [szOf, hi, h1]
        obtain ⟨zv, z1, z2⟩ := zeroCells_sound (g := g) (w := w) hz
        have hzl := z2.1.len
        simp at hzl
        have hzs : zv.cells.size = 1 := by omega
        have hw1 : IntKind.i64.wrap l = l := wrap64_id h0 (by omega)
        have hcn : (l.toNat : Int) = l := Int.toNat_of_nonneg h0
        have hbig : (info.bytes : Int) * l ≤ 70368744177664 := by
          have : ((info.bytes * l.toNat : Nat) : Int) ≤ 70368744177664 := Int.ofNat_le.2 h3
          rwa [Int.natCast_mul, hcn] at this
        have hrep : CAs g w (repeats [z] l.toNat) ((Array.range (l.toNat * 1)).map ((if l.toNat * 1 = 0 then #[] else zv.cells)[· % (if l.toNat * 1 = 0 then #[] else zv.cells).size]!)).toList := by
          by_cases e : l.toNat * 1 = 0
          · have : l.toNat = 0 := by omega
            rw [rep_zero _ _ e, this]; exact ⟨trivial, fun _ h => by cases h⟩
          · simp only [e, if_false]
            have k1 := rep_sound z2.1 l.toNat
            have k2 := rep_one z2.2 l.toNat
            rw [hzs] at k1 k2 ⊢; exact ⟨k1, k2⟩
        rw [repeats_one] at hrep
        have t1 : (decide (l < 0) || decide ((info.bytes : Int) * l > 2 ^ 48)) = false := by simp only [Bool.or_eq_false_iff, decide_eq_false_iff_not]; omega
        have t2 : ((decide (l < 0) || decide ((info.bytes : Int) * l > 2 ^ 48)) || decide (l < 0) || decide (l > l)) = false := by rw [t1, Bool.false_or, Bool.or_eq_false_iff, decide_eq_false_iff_not, decide_eq_false_iff_not]; exact ⟨by omega, by omega⟩
        refine OpOk.pureSlice (e := elem) h (toPVs_sound (toPVs_replicate hpv _) hrep.1) hrep.2 (by simp) (Nat.le_refl 1) ?_
        by_cases e : l.toNat * 1 = 0
        · simp only [Instr.makeSlice, Sem.run_bind, run_underlying hu, Result.andThen_ok, asInt, asIntOf, Sem.run_pure, run_typeInfo' hi, hw1, t2, Bool.false_eq_true, if_false, run_askRoom, run_sizeOf' hsz, e, if_true, newRow, run_newObj, World.alloc_eq]
        · simp only [Instr.makeSlice, Sem.run_bind, run_underlying hu, Result.andThen_ok, asInt, asIntOf, Sem.run_pure, run_typeInfo' hi, hw1, t2, Bool.false_eq_true, if_false, run_askRoom, run_sizeOf' hsz, e, z1, newRow, run_newObj, World.alloc_eq]
      · cases he
    · cases he
  · cases he

end ops
end Go.Am
