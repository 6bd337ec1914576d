/-
  A function's end; every step.
-/
import Derived.Test.YtiphaojaolcidaaDoorAm16
import Derived.RangeFuncLeaves
namespace Go.Am
open Go.RowKit

section
variable {P : Program} {E : Env} {g : Gh} {w : World}

/-- A result, as the model reads it. -/
def resM (a : Act) : ResultVar → Sem Value
  | .tmp t => pure (a.tmps.getD t undef)
  | .cell x t => do loadVar t (← asAddr (a.tmps.getD x undef))

theorem resultsOf_sound {st : St} {a : Act} (h : SRel E g st a w) : ∀ {rs : List ResultVar} {vs : List AV}, resultsOf P st rs = some (vs, true) →
    ∃ cvs : List Value, (rs.mapM (resM a)).run P w = .ok cvs w ∧ VAs g w vs cvs
  | [], vs, he => by
    simp only [resultsOf, Option.some.injEq, Prod.mk.injEq, and_true] at he; subst he
    exact ⟨[], rfl, trivial⟩
  | .tmp t :: rs, vs, he => by
    simp only [resultsOf, Option.map_eq_some_iff, Prod.mk.injEq] at he
    obtain ⟨⟨us, ok⟩, h1, rfl, rfl⟩ := he
    obtain ⟨cvs, k1, k2⟩ := resultsOf_sound h h1
    refine ⟨_ :: cvs, ?_, h.tm t, k2⟩
    simp only [List.mapM_cons, Sem.run_bind, resM, Sem.run_pure, Result.andThen_ok, k1]
  | .cell x t :: rs, vs, he => by
    simp only [resultsOf] at he
    split at he
    · rename_i v ok us oks h1 h2
      simp only [Option.some.injEq, Prod.mk.injEq, Bool.and_eq_true] at he
      obtain ⟨rfl, rfl, rfl⟩ := he
      obtain ⟨c, o, cv, k1, k2, k3⟩ := loadOp_sound h.rel (h.tm x) h1
      obtain ⟨cvs, k4, k5⟩ := resultsOf_sound h h2
      refine ⟨cv :: cvs, ?_, k3, k5⟩
      have ha : (asAddr (.pointer (some ⟨c, o, none⟩))).run P w = .ok ⟨c, o, none⟩ w := rfl
      have hone : (resM a (.cell x t)).run P w = .ok cv w := by simp only [resM, k1, Sem.run_bind, ha, Result.andThen_ok, k2]
      simp only [List.mapM_cons, Sem.run_bind, hone, Sem.run_pure, Result.andThen_ok, k4]
    · cases he

theorem one_sound {vs : List AV} {cvs : List Value} (h : VAs g w vs cvs) : ∃ cv, (if h : cvs.toArray.size = 1 then cvs.toArray[0] else .tuple cvs.toArray) = cv ∧ VA g w (one vs) cv := by
  refine ⟨_, rfl, ?_⟩
  match vs, cvs, h with
  | [v], [cv], h => exact h.1
  | [], [], _ => exact VA.tups.2 trivial
  | v :: v' :: vs, cv :: cv' :: cvs, h =>
    rw [dif_neg (by simp)]
    exact VA.tups.2 h

theorem run_results {fn : Func} {a : Act} {cvs : List Value} {cv : Value} (h : (fn.results.toList.mapM (resM a)).run P w = .ok cvs w)
    (hc : (if h : cvs.toArray.size = 1 then cvs.toArray[0] else .tuple cvs.toArray) = cv) : (results fn a.tmps).run P w = .ok cv w := by
  have e : results fn a.tmps = (do let vs ← fn.results.mapM (resM a); pure (if h : vs.size = 1 then vs[0] else .tuple vs)) := rfl
  rw [e, Array.mapM_eq_mapM_toList]
  simp only [Sem.run_bind, Sem.run_map, h, Result.andThen_ok, Sem.run_pure, hc]

theorem Rel.freezeAll {m : Mem} (h : Rel g m w) : ∀ (F : List Nat), (∀ b ∈ F, ∃ l, m[b]? = some (.pc l)) →
    ∃ g' m', Rel g' m' w ∧ Ext g w g' w ∧ Stp g m w g' m' w ∧ g'.blk = g.blk ∧ g'.lo = g.lo ∧ g'.hi = g.hi ∧ m'.length = m.length ∧ (∀ i, i ∉ F → m'[i]? = m[i]?) ∧
      ∀ b ∈ F, ∀ l c, m[b]? = some (.pc l) → g.blk b = some c → ∀ o, o < l.length → g'.pure c o
  | [], _ => ⟨g, m, h, Ext.refl _ _, Stp.refl _ _ _, rfl, rfl, rfl, rfl, fun _ _ => rfl, fun _ hb => by cases hb⟩
  | b :: F, hF => by
    obtain ⟨g', m', k1, k2, k3, k4, k5, k6, k7, k8, k9⟩ := Rel.freezeAll h F fun b hb => hF b (.tail _ hb)
    by_cases hb : b ∈ F
    · refine ⟨g', m', k1, k2, k3, k4, k5, k6, k7, fun i hi => k8 i fun q => hi (.tail _ q), fun b' hb' => ?_⟩
      cases hb' with
      | head => exact k9 b hb
      | tail _ hb' => exact k9 b' hb'
    · obtain ⟨l, hl⟩ := hF b (.head _)
      have hl' : m'[b]? = some (.pc l) := (k8 b hb).trans hl
      obtain ⟨c, cs, e, n, q1, _⟩ := h.cells b _ _ hl rfl
      obtain ⟨r1, r2, r3⟩ := k1.freeze1 hl' (by rw [k4]; exact q1)
      refine ⟨_, _, r1, k2.trans r2, k3.trans r3, k4, k5, k6, by simp [k7], fun i hi => ?_, fun b' hb' l' c' hl'' hc' o ho => ?_⟩
      · have hne : b ≠ i := fun e => hi (e ▸ .head _)
        rw [List.getElem?_set_ne hne]
        exact k8 i fun q => hi (.tail _ q)
      · cases hb' with
        | head =>
          rw [hl] at hl''; cases hl''
          rw [q1] at hc'; cases hc'
          exact .inr ⟨rfl, Nat.zero_le _, ho⟩
        | tail _ hb' => exact .inl (k9 b' hb' l' c' hl'' hc' o ho)

theorem freeze_pc {m : Mem} {kept : List Nat} {v : AV} : ∀ b ∈ (freeze m kept v).2.2, ∃ l, m[b]? = some (.pc l) := by
  intro b hb
  unfold freeze at hb
  split at hb
  · rename_i b' off len sz cap
    cases hk : (has kept b' || Nat.beq len 0) with
    | true => simp [hk] at hb
    | false =>
      simp only [hk, cond_false] at hb
      split at hb
      · rename_i l hl
        simp only [List.mem_singleton] at hb
        subst hb
        exact ⟨l, getD_some hl (by simp)⟩
      · simp at hb
  · simp at hb

theorem freezes_pc {m : Mem} {kept : List Nat} : ∀ {vs : List AV}, ∀ b ∈ (freezes m kept vs).2.2, ∃ l, m[b]? = some (.pc l)
  | [], b, hb => by simp [freezes] at hb
  | v :: vs, b, hb => by
    simp only [freezes, List.mem_append] at hb
    rcases hb with hb | hb
    · exact freeze_pc b hb
    · exact freezes_pc b hb

/-- A value of which the blocks are given up. -/
theorem freeze_sound {m : Mem} (h : Rel g m w) {g' : Gh} (he : Ext g w g' w) {kept : List Nat} {v : AV} {cv : Value} (hv : VA g w v cv) (hok : (freeze m kept v).2.1 = true)
    (hp : ∀ b ∈ (freeze m kept v).2.2, ∀ l c, m[b]? = some (.pc l) → g.blk b = some c → ∀ o, o < l.length → g'.pure c o) : VA g' w (freeze m kept v).1 cv := by
  unfold freeze at hok hp ⊢
  split at hok
  · rename_i b off len sz cap
    cases hk : (has kept b || Nat.beq len 0) with
    | true => simp only [cond_true]; exact hv.mono he
    | false =>
      simp only [hk, cond_false] at hok hp ⊢
      split at hok
      · rename_i l hl
        simp only [hl] at hp ⊢
        have hl := getD_some hl (by simp)
        obtain ⟨hok, hz⟩ := (Bool.and_eq_true _ _).mp hok
        have hle := Nat.le_of_ble_eq_true hok
        have hz := Nat.le_of_ble_eq_true hz
        cases hv with
        | ms _ _ _ _ cap c hc hcap =>
        obtain ⟨c', cs, e, n, k1, k2, k3, k4, k5⟩ := h.cells b _ _ hl rfl
        rw [hc] at k1; cases k1
        have hlen := k4.1.len
        simp only [List.length_map, Array.length_toList] at hlen
        have hpure := hp b (by simp) l c hl hc
        have hVP : VPs g w l cs.toList := All2.of_get (by simpa using k4.1.len) fun i a b => by
          have := k4.1.get i (by simpa using a) b
          rw [List.getElem_map, VA.pv] at this
          exact this
        refine .p _ _ (VP.mk (us := (cs.toList.drop off).take (len * sz)) (All2.mono (fun _ _ q => VP.mono he.pure q) ((hVP.drop off).take (len * sz))) (by simp; omega) hcap hz fun k v hk => ?_)
        rw [List.getElem?_take] at hk
        split at hk
        · rename_i hlt
          rw [List.getElem?_drop] at hk
          have hk' := lt_of_get hk
          refine ⟨by rw [cell?_cells k2]; simpa using hk, hpure (off + k) (by omega), k4.2 v (List.mem_of_getElem? hk)⟩
        · cases hk
      · exact hv.mono he
  · exact hv.mono he

theorem freezes_sound {m : Mem} (h : Rel g m w) {g' : Gh} (he : Ext g w g' w) {kept : List Nat} : ∀ {vs : List AV} {cvs : List Value}, VAs g w vs cvs → (freezes m kept vs).2.1 = true →
    (∀ b ∈ (freezes m kept vs).2.2, ∀ l c, m[b]? = some (.pc l) → g.blk b = some c → ∀ o, o < l.length → g'.pure c o) → VAs g' w (freezes m kept vs).1 cvs
  | [], [], _, _, _ => trivial
  | v :: vs, cv :: cvs, hv, hok, hp => by
    simp only [freezes, Bool.and_eq_true, List.mem_append] at hok hp ⊢
    exact ⟨freeze_sound h he hv.1 hok.1 fun b hb => hp b (.inl hb), freezes_sound h he hv.2 hok.2 fun b hb => hp b (.inr hb)⟩
  | [], _ :: _, h, _, _ => h.elim
  | _ :: _, [], h, _, _ => h.elim

theorem noneIn_iff : ∀ {l ord : List Nat}, noneIn l ord = true → ∀ i ∈ l, i ∉ ord
  | [], _, _, _, h => by cases h
  | j :: l, ord, h, i, hi => by
    simp only [noneIn, Bool.and_eq_true, Bool.not_eq_true'] at h
    cases hi with
    | head => exact fun q => by rw [has_iff.2 q] at h; cases h.1
    | tail _ hi => exact noneIn_iff h.2 i hi

theorem ending1_ok {c : Cfg} {b : Frame} {a : Act} {todo : List Item} (hs : SRel E g c.st a w) (hrb : RndOk g c.st.rnd b) (hnr : ∀ i, c.st.rnd ≠ .round i) (hbf : b.fn = c.f) (hd : a.defers = []) {fr : Frame}
    (hst : ∀ cs, Steps P (lone fr cs w) (lone { b.atR a todo with mode := .returning } cs w)) : EvOk P E g c fr w (ending1 P c) := by
  unfold ending1
  split
  · rename_i fn hfn
    split
    · rename_i vs ok hres
      intro hok cs
      simp only [Bool.and_eq_true] at hok
      obtain ⟨⟨rfl, hfz⟩, hni⟩ := hok
      obtain ⟨cvs, k1, k2⟩ := resultsOf_sound hs hres
      obtain ⟨g', m', r1, r2, r3, r4, r5, r6, r7, r8, r9⟩ := hs.rel.freezeAll _ (freezes_pc (m := c.st.mem) (kept := close c.st.mem c.st.fix []) (vs := vs))
      have k3 := freezes_sound hs.rel r2 k2 hfz r9
      obtain ⟨cv, hcv, _⟩ := one_sound k2
      obtain ⟨cv', hcv', k4⟩ := one_sound k3
      have : cv' = cv := hcv'.symm.trans hcv
      subst this
      have hrun := run_results (P := P) k1 hcv
      generalize hfzs : freezes c.st.mem (close c.st.mem c.st.fix []) vs = fz at *
      obtain ⟨hnd, hfix⟩ := close_spec c.st.mem c.st.fix [one fz.1]
      generalize hord : close c.st.mem c.st.fix [one fz.1] = ord at *
      have hpk : Am.pack c.st.mem ord = Am.pack m' ord := by
        unfold Am.pack
        refine List.map_congr_left fun i hi => ?_
        rw [List.getD_eq_getElem?_getD, List.getD_eq_getElem?_getD, r8 i fun q => noneIn_iff hni i q hi]
      obtain ⟨p1, p2⟩ := r1.pack hnd
      have hlen : c.st.fix ≤ ord.length := by
        rcases Nat.eq_zero_or_pos c.st.fix with e | e
        · omega
        · have := lt_of_get (hfix (c.st.fix - 1) (by omega)); omega
      refine ⟨g'.pack ord, _, w, hst cs, ?_, ?_, ?_, rfl, rfl, rfl⟩
      · refine ⟨hbf, cv', w, ?_, ?_, ?_, Stp.refl _ _ _, ?_⟩
        · show Outs P c.st.rnd { b.atR a todo with mode := .returning } w cv' w
          have hfn' : P.funcs[b.fn]? = some fn := by rw [hbf]; exact hfn
          generalize c.st.rnd = r at hrb hnr
          cases r with
          | call => exact ⟨⟨rfl, hd, hrb.1, fn, hfn', hrun⟩, rfl⟩
          | late => exact ⟨⟨⟨rfl, hd, fn, hfn', hrun⟩, hrb.1⟩, rfl⟩
          | round i => exact absurd rfl (hnr i)
        · simp only [look, Nat.beq_refl, cond_true]
          exact k4.ren (Renames.pack g' ord)
        · show Rel (g'.pack ord) (Am.pack c.st.mem ord) w
          rw [hpk]; exact p1
        · show c.st.fix ≤ (Am.pack c.st.mem ord).length
          simpa [Am.pack] using hlen
      · refine r3.trans ⟨Nat.le_refl _, fun _ _ _ => rfl, fun _ _ p => ⟨p, rfl⟩, fun _ _ p => .inl p, fun c' ho => .inl (p2 c' ?_), rfl, rfl, rfl⟩
        have ho : Owned (g'.pack ord) (Am.pack c.st.mem ord) c' := ho
        rw [hpk] at ho; exact ho
      · intro k c' hk hc'
        have := hfix k hk
        simp [Gh.pack, this, r4, r5, r6, hc']
    · trivial
  · trivial

theorem run_takeDeferred' {r : Nat} {w : World} (h : w.heap[r]? = some (.deferred (some []))) : (Instr.takeDeferred r).run P w = .ok [] { w with heap := w.heap.setIfInBounds r (.deferred none) } := by
  simp [Instr.takeDeferred, Sem.run_bind, getObj, setObj, Sem.run, h, Result.andThen]

/-- On its way out a frame shuts its ranges' blocks. -/
theorem shut_ok {b : Frame} {a : Act} {todo : List Item} : ∀ {mk : List Mark} {ds : List Deferred} {st : St} {m : Mem} {w : World}, shutAll mk st.mem = some m → Mk g mk ds → SRel E g st a w →
    ∃ w', (∀ cs, Steps P (lone { b.atR { a with defers := ds } todo with mode := .returning } cs w) (lone { b.atR { a with defers := [] } todo with mode := .returning } cs w')) ∧
      SRel E g { st with mem := m, mks := [] } { a with defers := [] } w' ∧ Stp g st.mem w g m w'
  | [], [], st, m, w, h, _, hs => by
    simp only [shutAll, Option.some.injEq] at h
    subst h
    exact ⟨w, fun cs => Steps.refl _ _, ⟨hs.tm, hs.nt, hs.rel, hs.fix, hs.glob⟩, Stp.refl _ _ _⟩
  | .late .. :: mk, _, st, m, w, h, hm, hs => by
    simp only [shutAll] at h
    cases h
  | .range i :: mk, d :: ds, st, m, w, h, hm, hs => by
    simp only [shutAll] at h
    split at h
    · rename_i hb
      obtain ⟨⟨D, hD, rfl⟩, hm⟩ := hm
      have hib := getD_some hb (by simp)
      obtain ⟨c, ob, vs, k1, k2, k3, k4, _⟩ := hs.rel.obs i _ _ hib
      rw [hD] at k1; cases k1
      obtain ⟨rfl, _⟩ := k4
      obtain ⟨e1, e2, e3⟩ := setBlock_world w (o' := .deferred none) k2
      obtain ⟨r1, r2, r3⟩ := hs.rel.writeOb (ob' := .shut) (l' := []) (vs' := []) hib hD e1 e2 rfl rfl rfl e3 ⟨rfl, rfl⟩ trivial
      have hs' : SRel E g { st with mem := st.mem.set i (.ob .shut []) } a { w with heap := w.heap.setIfInBounds D (.deferred none) } :=
        ⟨fun k => (hs.tm k).mono r2, hs.nt, r1, by simpa using hs.fix, hs.glob.mono r2.pure⟩
      obtain ⟨w', q1, q2, q3⟩ := shut_ok (st := { st with mem := st.mem.set i (.ob .shut []) }) h hm hs'
      refine ⟨w', fun cs => .head ?_ (q1 cs), q2, r3.trans q3⟩
      exact step_collected (fr := { b.atR { a with defers := { target := .collected D, args := #[] } :: ds } todo with mode := .returning }) (fun e => by cases e) rfl rfl (run_takeDeferred' k2)
    · cases h
  | [], _ :: _, _, _, _, _, hm, _ => hm.elim
  | .range _ :: _, [], _, _, _, _, hm, _ => hm.elim

/-- A call that is deferred: how it is entered. -/
theorem run_late {f : FuncId} {fa ca : Array Value} {fn : Func} (hf : P.funcs[f]? = some fn) (hb : fn.body.isSome = true) (hn : (fn.name == "runtime.NumGoroutine") = false) :
    (invoke (.fn (.func f) ca) fa).run P w = .ok (.enter f (fa ++ ca)) w := by
  have hbn : fn.body.isNone = false := by cases hq : fn.body <;> simp_all
  simp only [invoke, callFunc, Sem.run_bind, run_program, Result.andThen_ok, hf, hn, Bool.false_eq_true, if_false, hbn, Sem.run_pure]

theorem mps_sound : ∀ {l : List (Nat × Nat)} {cs : List Value}, Mps g l cs → VAs g w (mps l) cs
  | [], [], _ => trivial
  | (b, off) :: l, _ :: cs, h => by
    obtain ⟨⟨c, h1, h2⟩, h3⟩ := h
    exact ⟨by rw [h2]; exact .mp b off c h1, mps_sound h3⟩
  | [], _ :: _, h => h.elim
  | _ :: _, [], h => h.elim

theorem settle_late (cv : Option Value) : settle (lateMode cv true) = .returning := by cases cv <;> rfl

/-- A frame on its way out does what it has deferred. -/
theorem late_ok {c : Cfg} {b : Frame} {a : Act} {todo : List Item} {gf : FuncId} {first caps : List (Nat × Nat)} {pv : Option AV} {cpv : Option Value} {d : Deferred}
    (hs : SRel E g c.st a w) (hrb : RndOk g c.st.rnd b) (hnr : ∀ i, c.st.rnd ≠ .round i) (hbf : b.fn = c.f) (hd : a.defers = [d]) (hm : Mark.Ok g (.late gf first caps) d) (hpv : OptVA g w pv cpv) {fr : Frame}
    (hst : ∀ cs, Steps P (lone fr cs w) (lone { b.atR a todo with mode := lateMode cpv false } cs w)) : EvOk P E g c fr w (lateGo c pv gf first caps) := by
  unfold lateGo
  obtain ⟨fa, ca, h1, h2, rfl⟩ := hm
  have hargs : VAs g w (mps first ++ mps caps) (fa ++ ca).toList := by
    rw [Array.toList_append]
    exact (mps_sound h1).append (mps_sound h2)
  dsimp only
  generalize mps first ++ mps caps = args at *
  obtain ⟨hnd, _⟩ := close_spec c.st.mem 0 (pv.toList ++ args)
  generalize close c.st.mem 0 (pv.toList ++ args) = ord at *
  cases hlt : allLt ord c.st.mem.length with
  | false => trivial
  | true =>
    intro m1 hdoes cs
    obtain ⟨⟨fn, hf1, hf2, hf3⟩, hdoes⟩ := hdoes
    obtain ⟨hp1, hp2⟩ := hs.rel.pack hnd
    have hren := Renames.pack g ord
    have hpv' : OptVA (g.pack ord) w (pv.map (ren (idx ord))) cpv := by
      cases pv with
      | none => cases cpv with
        | none => exact trivial
        | some v => exact hpv.elim
      | some u => cases cpv with
        | none => exact hpv.elim
        | some v => exact VA.ren hren hpv
    obtain ⟨w', g', cv, fr', q1, q2, q3, q5, q6, q7, q8⟩ := hdoes (g.pack ord) w (fa ++ ca) cpv { b.atR { a with defers := [] } todo with mode := lateMode cpv false } cs rfl hpv' hp1 (VAs.ren hren hargs) (hs.glob.mono fun _ _ p => ⟨p, rfl⟩)
    have hlen : (Am.pack c.st.mem ord).length = ord.length := by simp [Am.pack]
    rw [hlen] at q7 q8
    obtain ⟨r1, r2, r3, r4⟩ := hs.rel.back hnd (allLt_mem hlt) q5 q6 q7 q8
    have henter := step_defer (P := P) (fr := { b.atR a todo with mode := lateMode cpv false }) (cs := cs) (w := w) (ds := []) (by cases cpv <;> exact fun e => by cases e) hd rfl (run_late hf1 hf2 hf3)
    have hleave := step_going_returned (P := P) (c := { b.atR { a with defers := [] } todo with mode := lateMode cpv true }) (cs := cs) q3 q2
    have hlen2 : c.st.fix ≤ (backMem (backIdx ord c.st.mem.length) ord m1 c.st.mem).length := by
      rw [backMem_length _ _ _ _ q8]; have := hs.fix; omega
    refine ⟨_, { b.atR { a with defers := [] } todo with mode := .returning }, w', (hst cs).trans (.head henter (q1.trans (.one ?_))), ⟨b, { a with defers := [] }, todo, rfl, hbf, hrb.ext fun i c q => (r2.blk i c q).1, hnr, rfl, rfl, ⟨fun k => (hs.tm k).mono r2, hs.nt, r1, hlen2, hs.glob.mono r2.pure⟩⟩, r3, Fixed.ofExt r2 _, rfl, rfl, rfl⟩
    rw [hleave]
    simp only [settle_late]

/-- What was thrown in a frame. -/
theorem thrown_ok {c : Cfg} {b : Frame} {a : Act} {todo : List Item} {u : AV} {cv : Value} (hs : SRel E g c.st a w) (hrb : RndOk g c.st.rnd b) (hbf : b.fn = c.f) (hd : Mk g c.st.mks a.defers) (hu : VA g w u cv) :
    EvOk P E g c { b.atR a todo with mode := lateMode (some cv) false } w (thrownGo P c u) := by
  unfold thrownGo
  split
  · trivial
  · rename_i hnr
    have hnr : ∀ i, c.st.rnd ≠ .round i := fun i e => hnr i e
    split
    · rename_i hmk
      split
      · rename_i fn hfn
        intro cs
        have hds : a.defers = [] := by
          rw [hmk] at hd
          cases hq : a.defers with
          | nil => rfl
          | cons _ _ => rw [hq] at hd; exact hd.elim
        obtain ⟨hnd, hfix⟩ := close_spec c.st.mem c.st.fix [u]
        generalize close c.st.mem c.st.fix [u] = ord at *
        obtain ⟨p1, p2⟩ := hs.rel.pack hnd
        have hlen : c.st.fix ≤ ord.length := by
          rcases Nat.eq_zero_or_pos c.st.fix with e | e
          · omega
          · have := lt_of_get (hfix (c.st.fix - 1) (by omega)); omega
        refine ⟨g.pack ord, _, w, Steps.refl _ _, ⟨hbf, cv, ⟨rfl, hds, fn, ?_⟩, hu.ren (Renames.pack g ord), p1, ?_⟩, ?_, ?_, rfl, rfl, rfl⟩
        · show P.funcs[b.fn]? = some fn
          rw [hbf]; exact hfn
        · show c.st.fix ≤ (Am.pack c.st.mem ord).length
          simpa [Am.pack] using hlen
        · exact ⟨Nat.le_refl _, fun _ _ _ => rfl, fun _ _ p => ⟨p, rfl⟩, fun _ _ p => .inl p, fun c' ho => .inl (p2 c' ho), rfl, rfl, rfl⟩
        · intro k c' hk hc'
          have := hfix k hk
          simp [Gh.pack, this, hc']
      · trivial
    · rename_i gf first caps hmk
      rw [hmk] at hd
      cases hq : a.defers with
      | nil => rw [hq] at hd; exact hd.elim
      | cons d ds =>
        rw [hq] at hd
        obtain ⟨hd1, hd2⟩ := hd
        cases ds with
        | nil => exact late_ok (pv := some u) (cpv := some cv) hs hrb hnr hbf hq hd1 hu fun cs => Steps.refl _ _
        | cons _ _ => exact hd2.elim
    · trivial

theorem ending_ok {c : Cfg} {b : Frame} {a : Act} {todo : List Item} (hs : SRel E g c.st a w) (hrb : RndOk g c.st.rnd b) (hnr : ∀ i, c.st.rnd ≠ .round i) (hbf : b.fn = c.f) (hd : Mk g c.st.mks a.defers) {fr : Frame}
    (hst : ∀ cs, Steps P (lone fr cs w) (lone { b.atR a todo with mode := .returning } cs w)) : EvOk P E g c fr w (ending P c) := by
  have key : ∀ m, shutAll c.st.mks c.st.mem = some m → EvOk P E g c fr w (ending1 P { c with st := { c.st with mem := m, mks := [] } }) := by
    intro m hm
    obtain ⟨w', q1, q2, q3⟩ := shut_ok (P := P) (b := b) (todo := todo) hm hd hs
    have h1 := ending1_ok (P := P) (E := E) (c := { c with st := { c.st with mem := m, mks := [] } }) (b := b) (a := { a with defers := [] }) (todo := todo) q2 hrb hnr hbf rfl (fr := { b.atR { a with defers := [] } todo with mode := .returning }) fun cs => Steps.refl _ _
    unfold ending1 at h1 ⊢
    split
    · rename_i fn hfn
      rw [hfn] at h1
      simp only at h1
      split
      · rename_i vs ok hres
        simp only [hres] at h1
        intro hok cs
        obtain ⟨g', fr', w2, s1, s2, s3, s4, s5, s6, s7⟩ := h1 hok cs
        exact ⟨g', fr', w2, ((hst cs).trans (q1 cs)).trans s1, s2, q3.trans s3, s4, s5, s6, s7⟩
      · trivial
    · trivial
  unfold ending
  split
  · rename_i hmk
    have h := key c.st.mem (by rw [hmk]; rfl)
    have e : ({ c with st := { c.st with mem := c.st.mem, mks := [] } } : Cfg) = c := by
      obtain ⟨f, t, st⟩ := c
      obtain ⟨tm, nt, mem, fix, mks, rnd⟩ := st
      simp only at hmk
      subst hmk
      rfl
    rw [e] at h
    exact h
  · rename_i gf first caps hmk
    rw [hmk] at hd
    cases hq : a.defers with
    | nil => rw [hq] at hd; exact hd.elim
    | cons d ds =>
      rw [hq] at hd
      obtain ⟨hd1, hd2⟩ := hd
      cases ds with
      | nil => exact late_ok (pv := none) (cpv := none) hs hrb hnr hbf hq hd1 trivial hst
      | cons _ _ => exact hd2.elim
  · split
    · rename_i m hm
      exact key m hm
    · trivial

end
end Go.Am
