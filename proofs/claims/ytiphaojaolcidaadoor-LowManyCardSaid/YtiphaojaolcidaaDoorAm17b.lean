/-
  A range over a function, on the side of the one who ranges: the record is laid, the function is called, the pending jump is told.
-/
import Derived.Test.YtiphaojaolcidaaDoorAm17
import Derived.RangeFuncIn
import Derived.RangeFuncRecord
namespace Go.Am
open Go.RowKit

section
variable {P : Program} {E : Env} {g : Gh} {w : World}

theorem set_end (m : Mem) (b b' : Blk) : (m ++ [b]).set m.length b' = m ++ [b'] := by
  rw [List.set_append_right _ _ (Nat.le_refl _)]; simp

theorem upTo_slots {st : St} {a : Act} (h : SRel E g st a w) : VAs g w ((upTo st.nt).map (look st.tm)) a.tmps.toList := by
  refine All2.of_get (by simp [h.nt, upTo_length]) fun i hi hi' => ?_
  have hu : (upTo st.nt)[i]? = some i := upTo_get st.nt i (by simpa [upTo_length] using hi)
  have e : ((upTo st.nt).map (look st.tm))[i] = look st.tm i := by
    have : ((upTo st.nt).map (look st.tm))[i]? = some (look st.tm i) := by rw [List.getElem?_map, hu]; rfl
    rw [List.getElem?_eq_getElem hi] at this
    exact Option.some.inj this
  rw [e]
  have := h.tm i
  rw [Array.getD_eq_getD_getElem?, Array.getElem?_eq_getElem (by simpa using hi')] at this
  simpa using this

/-- The record is laid. -/
theorem range_lay {st : St} {a : Act} (hs : SRel E g st a w) (f : FuncId) (ps : Array Tmp) (as bd : Code) :
    ∃ g', Rel g' (rangeMem st f ps as bd) ((w.alloc (.deferred (some []))).alloc (.loop { state := .ready, pending := none, fn := f, tmps := a.tmps, params := ps, assign := as, body := bd, defers := w.heap.size })) ∧
      Ext g w g' ((w.alloc (.deferred (some []))).alloc (.loop { state := .ready, pending := none, fn := f, tmps := a.tmps, params := ps, assign := as, body := bd, defers := w.heap.size })) ∧
      Stp g st.mem w g' (rangeMem st f ps as bd) ((w.alloc (.deferred (some []))).alloc (.loop { state := .ready, pending := none, fn := f, tmps := a.tmps, params := ps, assign := as, body := bd, defers := w.heap.size })) ∧
      g'.blk st.mem.length = some w.heap.size ∧ g'.blk (st.mem.length + 1) = some (w.heap.size + 1) := by
  obtain ⟨r1, s1⟩ := hs.rel.reserve
  obtain ⟨r2, e2, s2⟩ := r1.allocOb (i := st.mem.length) (ob := .defd) (l := []) (vs := []) (by simp) trivial (grew_alloc w (.deferred (some []))) ⟨rfl, rfl⟩
  rw [set_end] at r2 s2
  obtain ⟨r3, s3⟩ := r2.reserve
  have hv := (upTo_slots hs).mono e2
  obtain ⟨r4, e4, s4⟩ := r3.allocOb (i := st.mem.length + 1) (ob := .loop f ps as bd .ready none) (l := (upTo st.nt).map (look st.tm)) (vs := a.tmps.toList)
    (by simp) hv (grew_alloc _ (.loop { state := .ready, pending := none, fn := f, tmps := a.tmps, params := ps, assign := as, body := bd, defers := w.heap.size })) ⟨w.heap.size, by simp⟩
  have hl : (st.mem ++ [Blk.ob .defd []]).length = st.mem.length + 1 := by simp
  have hse := set_end (st.mem ++ [Blk.ob .defd []]) .free (.ob (.loop f ps as bd .ready none) ((upTo st.nt).map (look st.tm)))
  rw [hl] at hse
  rw [hse] at r4 s4
  refine ⟨_, r4, e2.trans e4, s1.trans (s2.trans (s3.trans s4)), ?_, ?_⟩
  · have := (e4.blk st.mem.length w.heap.size (by simp [Gh.put])).1
    exact this
  · simp [Gh.put]

theorem run_rangeCall {a : Act} {x : Operand} {f : FuncId} {fa ca : Array Value} {l : Nat} (hx : a.eval x = .func (.func f) fa ca)
    {fn : Func} (hf : P.funcs[f]? = some fn) (hb : fn.body.isSome = true) (hn : (fn.name == "runtime.NumGoroutine") = false) :
    ∃ d, (resolve a.eval (rangeCall x l) 0).run P w = .ok d w ∧ (invoke d.target d.args).run P w = .ok (.enter f (fa ++ #[.func (.yield l) #[] #[]] ++ ca)) w := by
  have hbn : fn.body.isNone = false := by cases hq : fn.body <;> simp_all
  refine ⟨{ target := .fn (.func f) ca, args := fa ++ #[.func (.yield l) #[] #[]] }, ?_, ?_⟩
  · simp only [resolve, hx, Deferred.ofValue, Sem.run_pure]
    have e : Array.map a.eval #[Operand.const (Value.func (Fn.yield l) #[] #[])] = #[Value.func (Fn.yield l) #[] #[]] := by simp [Act.eval]
    rw [e]
  · simp only [invoke, callFunc, Sem.run_bind, run_program, Result.andThen_ok, hf, hn, Bool.false_eq_true, if_false, hbn, Sem.run_pure]

theorem rangeEnd_ok {m m' : Mem} {L l : Nat} {pd : Option Code} (h : Rel g m w) (hl : g.blk L = some l) (he : rangeEnd m L = some (m', pd)) :
    ∃ w', (Instr.endLoop l).run P w = .ok pd w' ∧ Rel g m' w' ∧ Ext g w g w' ∧ Stp g m w g m' w' := by
  unfold rangeEnd at he
  split at he
  · rename_i f ps as bd st pd' vals hb
    have hib := getD_some hb (by simp)
    obtain ⟨c, ob, vs, k1, k2, k3, k4, _⟩ := h.obs L _ _ hib
    rw [hl] at k1; cases k1
    obtain ⟨D, rfl⟩ := k4
    have fin : st ≠ .busy → some (m.set L (.ob (.loop f ps as bd .exhausted pd') vals), pd') = some (m', pd) → ∃ w', (Instr.endLoop l).run P w = .ok pd w' ∧ Rel g m' w' ∧ Ext g w g w' ∧ Stp g m w g m' w' := by
      intro hst e
      simp only [Option.some.injEq, Prod.mk.injEq] at e
      obtain ⟨rfl, rfl⟩ := e
      obtain ⟨e1, e2, e3⟩ := setBlock_world w (o' := .loop { state := .exhausted, pending := pd', fn := f, tmps := vs.toArray, params := ps, assign := as, body := bd, defers := D }) k2
      obtain ⟨r1, r2, r3⟩ := h.writeOb (ob' := .loop f ps as bd .exhausted pd') (l' := vals) (vs' := vs) hib hl e1 e2 rfl rfl rfl e3 ⟨D, rfl⟩ k3
      exact ⟨_, run_endLoop k2 hst, r1, r2, r3⟩
    cases st with
    | busy => cases he
    | ready => exact fin (fun e => by cases e) he
    | done => exact fin (fun e => by cases e) he
    | exhausted => exact fin (fun e => by cases e) he
  · cases he

/-- A range over a function, from the statement to what is done behind it. -/
theorem range_ok {st : St} {a : Act} {b : Frame} {k : List Item} {x : Operand} {ps : Array Tmp} {as bd : Code} {gf : FuncId} {first captured : List AV} {v : AV} {m1 m2 : Mem} {pd : Option Code}
    (hs : SRel E g st a w) (hr : b.roundOf = none) (hd : Mk g st.mks a.defers) (hx : ev E st.tm x = .fn (.func gf) first captured)
    (hlt : allLt (close (rangeMem st b.fn ps as bd) 0 (first ++ [.vy (st.mem.length + 1)] ++ captured)) (rangeMem st b.fn ps as bd).length = true)
    (hdoes : Does P E gf (renL (idx (close (rangeMem st b.fn ps as bd) 0 (first ++ [.vy (st.mem.length + 1)] ++ captured))) (first ++ [.vy (st.mem.length + 1)] ++ captured))
      (pack (rangeMem st b.fn ps as bd) (close (rangeMem st b.fn ps as bd) 0 (first ++ [.vy (st.mem.length + 1)] ++ captured))) v m1)
    (hend : rangeEnd (back (close (rangeMem st b.fn ps as bd) 0 (first ++ [.vy (st.mem.length + 1)] ++ captured)) none { st with mem := rangeMem st b.fn ps as bd } v m1).mem (st.mem.length + 1) = some (m2, pd)) :
    ∀ cs, ∃ g' a' w', Steps P (lone (b.atR a (.code (.rangeFunc x ps as bd) :: k)) cs w) (lone (b.atR a' ((pd.map Item.code).toList ++ k)) cs w') ∧
      Mk g' (.range st.mem.length :: st.mks) a'.defers ∧ SRel E g' { st with mem := m2, mks := .range st.mem.length :: st.mks } a' w' ∧ Stp g st.mem w g' m2 w' ∧ Fixed g g' st.fix ∧ ∀ i c, g.blk i = some c → g'.blk i = some c := by
  intro cs
  obtain ⟨g1, r1, e1, s1, d1, d2⟩ := range_lay hs b.fn ps as bd
  generalize hM : rangeMem st b.fn ps as bd = M at *
  generalize hW : (w.alloc (.deferred (some []))).alloc (.loop { state := .ready, pending := none, fn := b.fn, tmps := a.tmps, params := ps, assign := as, body := bd, defers := w.heap.size }) = W at *
  have hlM : st.mem.length + 2 ≤ M.length := by rw [← hM]; simp [rangeMem]
  have hvx := ev_sound hs x
  rw [hx, VA.fns] at hvx
  obtain ⟨fa, ca, hvx, hfa, hca⟩ := hvx
  obtain ⟨⟨fn, hf1, hf2, hf3⟩, hdoes⟩ := hdoes
  obtain ⟨d, hres, hinv⟩ := run_rangeCall (P := P) (w := W) (l := w.heap.size + 1) hvx hf1 hf2 hf3
  have henter := stepR_rangeFunc (P := P) (b := b) (a := a) (k := k) (cs := cs) (w := w) (g := x) (ps := ps) (assign := as) (body := bd) (w₁ := W) (by rw [hr, ← hW]; exact run_enterLoop_outer _ _ _ _ _) hres hinv
  have hargs : VAs g1 W (first ++ [.vy (st.mem.length + 1)] ++ captured) (fa ++ #[Value.func (.yield (w.heap.size + 1)) #[] #[]] ++ ca).toList := by
    simp only [Array.toList_append]
    have hy : VAs g1 W [.vy (st.mem.length + 1)] [Value.func (.yield (w.heap.size + 1)) #[] #[]] := ⟨.vy _ _ d2, trivial⟩
    exact ((hfa.mono e1).append hy).append (hca.mono e1)
  generalize first ++ [.vy (st.mem.length + 1)] ++ captured = args at *
  obtain ⟨hnd, _⟩ := close_spec M 0 args
  generalize close M 0 args = ord at *
  obtain ⟨hp1, hp2⟩ := r1.pack hnd
  have hren := Renames.pack g1 ord
  have hglob : GlobOk E g1 W := hs.glob.mono e1.pure
  obtain ⟨w', g', cv, fr, q1, q2, q3, q4, q5, q6, q7, q8⟩ := hdoes (g1.pack ord) W _ (b.atR { a with defers := [{ target := .collected w.heap.size, args := #[] }] ++ a.defers } (.inRangeFunc (w.heap.size + 1) :: k) :: cs) hp1
    (VAs.ren hren hargs) (hglob.mono fun _ _ p => ⟨p, rfl⟩)
  have hlen : (Am.pack M ord).length = ord.length := by simp [Am.pack]
  rw [hlen] at q7 q8
  obtain ⟨r2, e2, s2, r4⟩ := r1.back hnd (allLt_mem hlt) q5 q6 q7 q8
  have hmem : (back ord none { st with mem := M } v m1).mem = backMem (backIdx ord M.length) ord m1 M := rfl
  rw [hmem] at hend
  have hL : (g1.back g' ord M.length).blk (st.mem.length + 1) = some (w.heap.size + 1) := (e2.blk _ _ d2).1
  obtain ⟨w2, f1, f2, f3, f4⟩ := rangeEnd_ok (P := P) r2 hL hend
  have hleave := step_leave_returned (P := P) (c := b.atR { a with defers := [{ target := .collected w.heap.size, args := #[] }] ++ a.defers } (.inRangeFunc (w.heap.size + 1) :: k)) (cs := cs) q2
  rw [finish_atR_inRangeFunc] at hleave
  have hextA : Ext g w (g1.back g' ord M.length) w2 := (e1.trans e2).trans f3
  have hm2 : st.fix ≤ m2.length := by
    have hl1 := backMem_length (backIdx ord M.length) ord m1 M q8
    have hl2 : m2.length = (backMem (backIdx ord M.length) ord m1 M).length := by
      unfold rangeEnd at hend
      split at hend
      · split at hend
        · cases hend
        · simp only [Option.some.injEq, Prod.mk.injEq] at hend
          obtain ⟨rfl, _⟩ := hend
          simp
      · cases hend
    have := hs.fix
    omega
  refine ⟨g1.back g' ord M.length, { a with defers := [{ target := .collected w.heap.size, args := #[] }] ++ a.defers }, w2, .head henter (q1.trans (.head hleave (.one (stepR_endRangeFunc f1)))), ?_, ?_, s1.trans (s2.trans f4), Fixed.ofExt hextA _, fun i c q => (hextA.blk i c q).1⟩
  · exact ⟨⟨w.heap.size, (e2.blk _ _ d1).1, rfl⟩, hd.ext fun i c q => (hextA.blk i c q).1⟩
  · exact ⟨fun j => (hs.tm j).mono hextA, hs.nt, f2, hm2, hs.glob.mono hextA.pure⟩

end
end Go.Am
