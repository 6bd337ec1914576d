/-
  A function's end; every step.
  A range over a function, on the side of the one who ranges: the record is laid, the function is called, the pending jump is told.
  Every step of the executor is the machine's.
  Runs to the end, and runs along one way: what they tell is so.
  The executor again, cut so that the kernel goes through it fast: what is chosen between is closed, and a state's parts are handed on as they are. It is the same function.
  Trees: all ways through code at once, with callees answered by functions; a tree that is right makes its code right.
-/
import Derived.Test.YtdmmllcjgjmbbaaDoorME
import Derived.RangeFuncLeaves
import Derived.RangeFuncIn
import Derived.RangeFuncRecord

section
namespace Go.Am
open Go.RowKit

section
variable {P : Program} {E : Env} {g : Gh} {w : World}

def resM (a : Act) : ResultVar → Sem Value
  | .tmp t => pure (a.tmps.getD t undef)
  | .cell x t => do loadVar t (← asAddr (a.tmps.getD x undef))

theorem resultsOf_sound {st : St} {a : Act} (h : SRel E g st a w) : ∀ {rs : List ResultVar} {vs : List AV}, resultsOf P st rs = some (vs, true) →
    ∃ cvs : List Value, (rs.mapM (resM a)).run P w = .ok cvs w ∧ VAs g w vs cvs
  | [], vs, he => by
    simp only [resultsOf, Option.some.injEq, Prod.mk.injEq, and_true] at he; subst he
    exact ⟨[], rfl, trivial⟩
  | .tmp t :: rs, vs, he => by
    simp only [resultsOf, Option.map_eq_some_iff, Prod.mk.injEq] at he
    obtain ⟨⟨us, ok⟩, h1, rfl, rfl⟩ := he
    obtain ⟨cvs, k1, k2⟩ := resultsOf_sound h h1
    refine ⟨_ :: cvs, ?_, h.tm t, k2⟩
    simp only [List.mapM_cons, Sem.run_bind, resM, Sem.run_pure, Result.andThen_ok, k1]
  | .cell x t :: rs, vs, he => by
    simp only [resultsOf] at he
    split at he
    · rename_i v ok us oks h1 h2
      simp only [Option.some.injEq, Prod.mk.injEq, Bool.and_eq_true] at he
      obtain ⟨rfl, rfl, rfl⟩ := he
      obtain ⟨c, o, cv, k1, k2, k3⟩ := loadOp_sound h.rel (h.tm x) h1
      obtain ⟨cvs, k4, k5⟩ := resultsOf_sound h h2
      refine ⟨cv :: cvs, ?_, k3, k5⟩
      have ha : (asAddr (.pointer (some ⟨c, o, none⟩))).run P w = .ok ⟨c, o, none⟩ w := rfl
      have hone : (resM a (.cell x t)).run P w = .ok cv w := by simp only [resM, k1, Sem.run_bind, ha, Result.andThen_ok, k2]
      simp only [List.mapM_cons, Sem.run_bind, hone, Sem.run_pure, Result.andThen_ok, k4]
    · cases he

theorem one_sound {vs : List AV} {cvs : List Value} (h : VAs g w vs cvs) : ∃ cv, (if h : cvs.toArray.size = 1 then cvs.toArray[0] else .tuple cvs.toArray) = cv ∧ VA g w (one vs) cv := by
  refine ⟨_, rfl, ?_⟩
  match vs, cvs, h with
  | [v], [cv], h => exact h.1
  | [], [], _ => exact VA.tups.2 trivial
  | v :: v' :: vs, cv :: cv' :: cvs, h =>
    rw [dif_neg (by simp)]
    exact VA.tups.2 h

theorem run_results {fn : Func} {a : Act} {cvs : List Value} {cv : Value} (h : (fn.results.toList.mapM (resM a)).run P w = .ok cvs w)
    (hc : (if h : cvs.toArray.size = 1 then cvs.toArray[0] else .tuple cvs.toArray) = cv) : (results fn a.tmps).run P w = .ok cv w := by
  have e : results fn a.tmps = (do let vs ← fn.results.mapM (resM a); pure (if h : vs.size = 1 then vs[0] else .tuple vs)) := rfl
  rw [e, Array.mapM_eq_mapM_toList]
  simp only [Sem.run_bind, Sem.run_map, h, Result.andThen_ok, Sem.run_pure, hc]

theorem Rel.freezeAll {m : Mem} (h : Rel g m w) : ∀ (F : List Nat), (∀ b ∈ F, ∃ l, m[b]? = some (.pc l)) →
    ∃ g' m', Rel g' m' w ∧ Ext g w g' w ∧ Stp g m w g' m' w ∧ g'.blk = g.blk ∧ g'.lo = g.lo ∧ g'.hi = g.hi ∧ m'.length = m.length ∧ (∀ i, i ∉ F → m'[i]? = m[i]?) ∧
      ∀ b ∈ F, ∀ l c, m[b]? = some (.pc l) → g.blk b = some c → ∀ o, o < l.length → g'.pure c o
  | [], _ => ⟨g, m, h, Ext.refl _ _, Stp.refl _ _ _, rfl, rfl, rfl, rfl, fun _ _ => rfl, fun _ hb => by cases hb⟩
  | b :: F, hF => by
    obtain ⟨g', m', k1, k2, k3, k4, k5, k6, k7, k8, k9⟩ := Rel.freezeAll h F fun b hb => hF b (.tail _ hb)
    by_cases hb : b ∈ F
    · refine ⟨g', m', k1, k2, k3, k4, k5, k6, k7, fun i hi => k8 i fun q => hi (.tail _ q), fun b' hb' => ?_⟩
      cases hb' with
      | head => exact k9 b hb
      | tail _ hb' => exact k9 b' hb'
    · obtain ⟨l, hl⟩ := hF b (.head _)
      have hl' : m'[b]? = some (.pc l) := (k8 b hb).trans hl
      obtain ⟨c, cs, e, n, q1, _⟩ := h.cells b _ _ hl rfl
      obtain ⟨r1, r2, r3⟩ := k1.freeze1 hl' (by rw [k4]; exact q1)
      refine ⟨_, _, r1, k2.trans r2, k3.trans r3, k4, k5, k6, by simp [k7], fun i hi => ?_, fun b' hb' l' c' hl'' hc' o ho => ?_⟩
      · have hne : b ≠ i := fun e => hi (e ▸ .head _)
        rw [List.getElem?_set_ne hne]
        exact k8 i fun q => hi (.tail _ q)
      · cases hb' with
        | head =>
          rw [hl] at hl''; cases hl''
          rw [q1] at hc'; cases hc'
          exact .inr ⟨rfl, Nat.zero_le _, ho⟩
        | tail _ hb' => exact .inl (k9 b' hb' l' c' hl'' hc' o ho)

theorem freeze_pc {m : Mem} {kept : List Nat} {v : AV} : ∀ b ∈ (freeze m kept v).2.2, ∃ l, m[b]? = some (.pc l) := by
  intro b hb
  unfold freeze at hb
  split at hb
  · rename_i b' off len sz cap
    cases hk : (has kept b' || Nat.beq len 0) with
    | true => simp [hk] at hb
    | false =>
      simp only [hk, cond_false] at hb
      split at hb
      · rename_i l hl
        simp only [List.mem_singleton] at hb
        subst hb
        exact ⟨l, getD_some hl (by simp)⟩
      · simp at hb
  · simp at hb

theorem freezes_pc {m : Mem} {kept : List Nat} : ∀ {vs : List AV}, ∀ b ∈ (freezes m kept vs).2.2, ∃ l, m[b]? = some (.pc l)
  | [], b, hb => by simp [freezes] at hb
  | v :: vs, b, hb => by
    simp only [freezes, List.mem_append] at hb
    rcases hb with hb | hb
    · exact freeze_pc b hb
    · exact freezes_pc b hb

theorem freeze_sound {m : Mem} (h : Rel g m w) {g' : Gh} (he : Ext g w g' w) {kept : List Nat} {v : AV} {cv : Value} (hv : VA g w v cv) (hok : (freeze m kept v).2.1 = true)
    (hp : ∀ b ∈ (freeze m kept v).2.2, ∀ l c, m[b]? = some (.pc l) → g.blk b = some c → ∀ o, o < l.length → g'.pure c o) : VA g' w (freeze m kept v).1 cv := by
  unfold freeze at hok hp ⊢
  split at hok
  · rename_i b off len sz cap
    cases hk : (has kept b || Nat.beq len 0) with
    | true => simp only [cond_true]; exact hv.mono he
    | false =>
      simp only [hk, cond_false] at hok hp ⊢
      split at hok
      · rename_i l hl
        simp only [hl] at hp ⊢
        have hl := getD_some hl (by simp)
        obtain ⟨hok, hz⟩ := (Bool.and_eq_true _ _).mp hok
        have hle := Nat.le_of_ble_eq_true hok
        have hz := Nat.le_of_ble_eq_true hz
        cases hv with
        | ms _ _ _ _ cap c hc hcap =>
        obtain ⟨c', cs, e, n, k1, k2, k3, k4, k5⟩ := h.cells b _ _ hl rfl
        rw [hc] at k1; cases k1
        have hlen := k4.1.len
        simp only [List.length_map, Array.length_toList] at hlen
        have hpure := hp b (by simp) l c hl hc
        have hVP : VPs g w l cs.toList := All2.of_get (by simpa using k4.1.len) fun i a b => by
          have := k4.1.get i (by simpa using a) b
          rw [List.getElem_map, VA.pv] at this
          exact this
        refine .p _ _ (VP.mk (us := (cs.toList.drop off).take (len * sz)) (All2.mono (fun _ _ q => VP.mono he.pure q) ((hVP.drop off).take (len * sz))) (by simp; omega) hcap hz fun k v hk => ?_)
        rw [List.getElem?_take] at hk
        split at hk
        · rename_i hlt
          rw [List.getElem?_drop] at hk
          have hk' := lt_of_get hk
          refine ⟨by rw [cell?_cells k2]; simpa using hk, hpure (off + k) (by omega), k4.2 v (List.mem_of_getElem? hk)⟩
        · cases hk
      · exact hv.mono he
  · exact hv.mono he

theorem freezes_sound {m : Mem} (h : Rel g m w) {g' : Gh} (he : Ext g w g' w) {kept : List Nat} : ∀ {vs : List AV} {cvs : List Value}, VAs g w vs cvs → (freezes m kept vs).2.1 = true →
    (∀ b ∈ (freezes m kept vs).2.2, ∀ l c, m[b]? = some (.pc l) → g.blk b = some c → ∀ o, o < l.length → g'.pure c o) → VAs g' w (freezes m kept vs).1 cvs
  | [], [], _, _, _ => trivial
  | v :: vs, cv :: cvs, hv, hok, hp => by
    simp only [freezes, Bool.and_eq_true, List.mem_append] at hok hp ⊢
    exact ⟨freeze_sound h he hv.1 hok.1 fun b hb => hp b (.inl hb), freezes_sound h he hv.2 hok.2 fun b hb => hp b (.inr hb)⟩
  | [], _ :: _, h, _, _ => h.elim
  | _ :: _, [], h, _, _ => h.elim

theorem noneIn_iff : ∀ {l ord : List Nat}, noneIn l ord = true → ∀ i ∈ l, i ∉ ord
  | [], _, _, _, h => by cases h
  | j :: l, ord, h, i, hi => by
    simp only [noneIn, Bool.and_eq_true, Bool.not_eq_true'] at h
    cases hi with
    | head => exact fun q => by rw [has_iff.2 q] at h; cases h.1
    | tail _ hi => exact noneIn_iff h.2 i hi

theorem ending1_ok {c : Cfg} {b : Frame} {a : Act} {todo : List Item} (hs : SRel E g c.st a w) (hrb : RndOk g c.st.rnd b) (hnr : ∀ i, c.st.rnd ≠ .round i) (hbf : b.fn = c.f) (hd : a.defers = []) {fr : Frame}
    (hst : ∀ cs, Steps P (lone fr cs w) (lone { b.atR a todo with mode := .returning } cs w)) : EvOk P E g c fr w (ending1 P c) := by
  unfold ending1
  split
  · rename_i fn hfn
    split
    · rename_i vs ok hres
      intro hok cs
      simp only [Bool.and_eq_true] at hok
      obtain ⟨⟨rfl, hfz⟩, hni⟩ := hok
      obtain ⟨cvs, k1, k2⟩ := resultsOf_sound hs hres
      obtain ⟨g', m', r1, r2, r3, r4, r5, r6, r7, r8, r9⟩ := hs.rel.freezeAll _ (freezes_pc (m := c.st.mem) (kept := close c.st.mem c.st.fix []) (vs := vs))
      have k3 := freezes_sound hs.rel r2 k2 hfz r9
      obtain ⟨cv, hcv, _⟩ := one_sound k2
      obtain ⟨cv', hcv', k4⟩ := one_sound k3
      have : cv' = cv := hcv'.symm.trans hcv
      subst this
      have hrun := run_results (P := P) k1 hcv
      generalize hfzs : freezes c.st.mem (close c.st.mem c.st.fix []) vs = fz at *
      obtain ⟨hnd, hfix⟩ := close_spec c.st.mem c.st.fix [one fz.1]
      generalize hord : close c.st.mem c.st.fix [one fz.1] = ord at *
      have hpk : Am.pack c.st.mem ord = Am.pack m' ord := by
        unfold Am.pack
        refine List.map_congr_left fun i hi => ?_
        rw [List.getD_eq_getElem?_getD, List.getD_eq_getElem?_getD, r8 i fun q => noneIn_iff hni i q hi]
      obtain ⟨p1, p2⟩ := r1.pack hnd
      have hlen : c.st.fix ≤ ord.length := by
        rcases Nat.eq_zero_or_pos c.st.fix with e | e
        · omega
        · have := lt_of_get (hfix (c.st.fix - 1) (by omega)); omega
      refine ⟨g'.pack ord, _, w, hst cs, ?_, ?_, ?_, rfl, rfl, rfl⟩
      · refine ⟨hbf, cv', w, ?_, ?_, ?_, Stp.refl _ _ _, ?_⟩
        · show Outs P c.st.rnd { b.atR a todo with mode := .returning } w cv' w
          have hfn' : P.funcs[b.fn]? = some fn := by rw [hbf]; exact hfn
          generalize c.st.rnd = r at hrb hnr
          cases r with
          | call => exact ⟨⟨rfl, hd, hrb.1, fn, hfn', hrun⟩, rfl⟩
          | late => exact ⟨⟨⟨rfl, hd, fn, hfn', hrun⟩, hrb.1⟩, rfl⟩
          | round i => exact absurd rfl (hnr i)
        · simp only [look, Nat.beq_refl, cond_true]
          exact k4.ren (Renames.pack g' ord)
        · show Rel (g'.pack ord) (Am.pack c.st.mem ord) w
          rw [hpk]; exact p1
        · show c.st.fix ≤ (Am.pack c.st.mem ord).length
          simpa [Am.pack] using hlen
      · refine r3.trans ⟨Nat.le_refl _, fun _ _ _ => rfl, fun _ _ p => ⟨p, rfl⟩, fun _ _ p => .inl p, fun c' ho => .inl (p2 c' ?_), rfl, rfl, rfl⟩
        have ho : Owned (g'.pack ord) (Am.pack c.st.mem ord) c' := ho
        rw [hpk] at ho; exact ho
      · intro k c' hk hc'
        have := hfix k hk
        simp [Gh.pack, this, r4, r5, r6, hc']
    · trivial
  · trivial

theorem run_takeDeferred' {r : Nat} {w : World} (h : w.heap[r]? = some (.deferred (some []))) : (Instr.takeDeferred r).run P w = .ok [] { w with heap := w.heap.setIfInBounds r (.deferred none) } := by
  simp [Instr.takeDeferred, Sem.run_bind, getObj, setObj, Sem.run, h, Result.andThen]

theorem shut_ok {b : Frame} {a : Act} {todo : List Item} : ∀ {mk : List Mark} {ds : List Deferred} {st : St} {m : Mem} {w : World}, shutAll mk st.mem = some m → Mk g mk ds → SRel E g st a w →
    ∃ w', (∀ cs, Steps P (lone { b.atR { a with defers := ds } todo with mode := .returning } cs w) (lone { b.atR { a with defers := [] } todo with mode := .returning } cs w')) ∧
      SRel E g { st with mem := m, mks := [] } { a with defers := [] } w' ∧ Stp g st.mem w g m w'
  | [], [], st, m, w, h, _, hs => by
    simp only [shutAll, Option.some.injEq] at h
    subst h
    exact ⟨w, fun cs => Steps.refl _ _, ⟨hs.tm, hs.nt, hs.rel, hs.fix, hs.glob⟩, Stp.refl _ _ _⟩
  | .late .. :: mk, _, st, m, w, h, hm, hs => by
    simp only [shutAll] at h
    cases h
  | .range i :: mk, d :: ds, st, m, w, h, hm, hs => by
    simp only [shutAll] at h
    split at h
    · rename_i hb
      obtain ⟨⟨D, hD, rfl⟩, hm⟩ := hm
      have hib := getD_some hb (by simp)
      obtain ⟨c, ob, vs, k1, k2, k3, k4, _⟩ := hs.rel.obs i _ _ hib
      rw [hD] at k1; cases k1
      obtain ⟨rfl, _⟩ := k4
      obtain ⟨e1, e2, e3⟩ := setBlock_world w (o' := .deferred none) k2
      obtain ⟨r1, r2, r3⟩ := hs.rel.writeOb (ob' := .shut) (l' := []) (vs' := []) hib hD e1 e2 rfl rfl rfl e3 ⟨rfl, rfl⟩ trivial
      have hs' : SRel E g { st with mem := st.mem.set i (.ob .shut []) } a { w with heap := w.heap.setIfInBounds D (.deferred none) } :=
        ⟨fun k => (hs.tm k).mono r2, hs.nt, r1, by simpa using hs.fix, hs.glob.mono r2.pure⟩
      obtain ⟨w', q1, q2, q3⟩ := shut_ok (st := { st with mem := st.mem.set i (.ob .shut []) }) h hm hs'
      refine ⟨w', fun cs => .head ?_ (q1 cs), q2, r3.trans q3⟩
      exact step_collected (fr := { b.atR { a with defers := { target := .collected D, args := #[] } :: ds } todo with mode := .returning }) (fun e => by cases e) rfl rfl (run_takeDeferred' k2)
    · cases h
  | [], _ :: _, _, _, _, _, hm, _ => hm.elim
  | .range _ :: _, [], _, _, _, _, hm, _ => hm.elim

theorem run_late {f : FuncId} {fa ca : Array Value} {fn : Func} (hf : P.funcs[f]? = some fn) (hb : fn.body.isSome = true) (hn : (fn.name == "runtime.NumGoroutine") = false) :
    (invoke (.fn (.func f) ca) fa).run P w = .ok (.enter f (fa ++ ca)) w := by
  have hbn : fn.body.isNone = false := by cases hq : fn.body <;> simp_all
  simp only [invoke, callFunc, Sem.run_bind, run_program, Result.andThen_ok, hf, hn, Bool.false_eq_true, if_false, hbn, Sem.run_pure]

theorem mps_sound : ∀ {l : List (Nat × Nat)} {cs : List Value}, Mps g l cs → VAs g w (mps l) cs
  | [], [], _ => trivial
  | (b, off) :: l, _ :: cs, h => by
    obtain ⟨⟨c, h1, h2⟩, h3⟩ := h
    exact ⟨by rw [h2]; exact .mp b off c h1, mps_sound h3⟩
  | [], _ :: _, h => h.elim
  | _ :: _, [], h => h.elim

theorem settle_late (cv : Option Value) : settle (lateMode cv true) = .returning := by cases cv <;> rfl

theorem late_ok {c : Cfg} {b : Frame} {a : Act} {todo : List Item} {gf : FuncId} {first caps : List (Nat × Nat)} {pv : Option AV} {cpv : Option Value} {d : Deferred}
    (hs : SRel E g c.st a w) (hrb : RndOk g c.st.rnd b) (hnr : ∀ i, c.st.rnd ≠ .round i) (hbf : b.fn = c.f) (hd : a.defers = [d]) (hm : Mark.Ok g (.late gf first caps) d) (hpv : OptVA g w pv cpv) {fr : Frame}
    (hst : ∀ cs, Steps P (lone fr cs w) (lone { b.atR a todo with mode := lateMode cpv false } cs w)) : EvOk P E g c fr w (lateGo c pv gf first caps) := by
  unfold lateGo
  obtain ⟨fa, ca, h1, h2, rfl⟩ := hm
  have hargs : VAs g w (mps first ++ mps caps) (fa ++ ca).toList := by
    rw [Array.toList_append]
    exact (mps_sound h1).append (mps_sound h2)
  dsimp only
  generalize mps first ++ mps caps = args at *
  obtain ⟨hnd, _⟩ := close_spec c.st.mem 0 (pv.toList ++ args)
  generalize close c.st.mem 0 (pv.toList ++ args) = ord at *
  cases hlt : allLt ord c.st.mem.length with
  | false => trivial
  | true =>
    intro m1 hdoes cs
    obtain ⟨⟨fn, hf1, hf2, hf3⟩, hdoes⟩ := hdoes
    obtain ⟨hp1, hp2⟩ := hs.rel.pack hnd
    have hren := Renames.pack g ord
    have hpv' : OptVA (g.pack ord) w (pv.map (ren (idx ord))) cpv := by
      cases pv with
      | none => cases cpv with
        | none => exact trivial
        | some v => exact hpv.elim
      | some u => cases cpv with
        | none => exact hpv.elim
        | some v => exact VA.ren hren hpv
    obtain ⟨w', g', cv, fr', q1, q2, q3, q5, q6, q7, q8⟩ := hdoes (g.pack ord) w (fa ++ ca) cpv { b.atR { a with defers := [] } todo with mode := lateMode cpv false } cs rfl hpv' hp1 (VAs.ren hren hargs) (hs.glob.mono fun _ _ p => ⟨p, rfl⟩)
    have hlen : (Am.pack c.st.mem ord).length = ord.length := by simp [Am.pack]
    rw [hlen] at q7 q8
    obtain ⟨r1, r2, r3, r4⟩ := hs.rel.back hnd (allLt_mem hlt) q5 q6 q7 q8
    have henter := step_defer (P := P) (fr := { b.atR a todo with mode := lateMode cpv false }) (cs := cs) (w := w) (ds := []) (by cases cpv <;> exact fun e => by cases e) hd rfl (run_late hf1 hf2 hf3)
    have hleave := step_going_returned (P := P) (c := { b.atR { a with defers := [] } todo with mode := lateMode cpv true }) (cs := cs) q3 q2
    have hlen2 : c.st.fix ≤ (backMem (backIdx ord c.st.mem.length) ord m1 c.st.mem).length := by
      rw [backMem_length _ _ _ _ q8]; have := hs.fix; omega
    refine ⟨_, { b.atR { a with defers := [] } todo with mode := .returning }, w', (hst cs).trans (.head henter (q1.trans (.one ?_))), ⟨b, { a with defers := [] }, todo, rfl, hbf, hrb.ext fun i c q => (r2.blk i c q).1, hnr, rfl, rfl, ⟨fun k => (hs.tm k).mono r2, hs.nt, r1, hlen2, hs.glob.mono r2.pure⟩⟩, r3, Fixed.ofExt r2 _, rfl, rfl, rfl⟩
    rw [hleave]
    simp only [settle_late]

theorem thrown_ok {c : Cfg} {b : Frame} {a : Act} {todo : List Item} {u : AV} {cv : Value} (hs : SRel E g c.st a w) (hrb : RndOk g c.st.rnd b) (hbf : b.fn = c.f) (hd : Mk g c.st.mks a.defers) (hu : VA g w u cv) :
    EvOk P E g c { b.atR a todo with mode := lateMode (some cv) false } w (thrownGo P c u) := by
  unfold thrownGo
  split
  · trivial
  · rename_i hnr
    have hnr : ∀ i, c.st.rnd ≠ .round i := fun i e => hnr i e
    split
    · rename_i hmk
      split
      · rename_i fn hfn
        intro cs
        have hds : a.defers = [] := by
          rw [hmk] at hd
          cases hq : a.defers with
          | nil => rfl
          | cons _ _ => rw [hq] at hd; exact hd.elim
        obtain ⟨hnd, hfix⟩ := close_spec c.st.mem c.st.fix [u]
        generalize close c.st.mem c.st.fix [u] = ord at *
        obtain ⟨p1, p2⟩ := hs.rel.pack hnd
        have hlen : c.st.fix ≤ ord.length := by
          rcases Nat.eq_zero_or_pos c.st.fix with e | e
          · omega
          · have := lt_of_get (hfix (c.st.fix - 1) (by omega)); omega
        refine ⟨g.pack ord, _, w, Steps.refl _ _, ⟨hbf, cv, ⟨rfl, hds, fn, ?_⟩, hu.ren (Renames.pack g ord), p1, ?_⟩, ?_, ?_, rfl, rfl, rfl⟩
        · show P.funcs[b.fn]? = some fn
          rw [hbf]; exact hfn
        · show c.st.fix ≤ (Am.pack c.st.mem ord).length
          simpa [Am.pack] using hlen
        · exact ⟨Nat.le_refl _, fun _ _ _ => rfl, fun _ _ p => ⟨p, rfl⟩, fun _ _ p => .inl p, fun c' ho => .inl (p2 c' ho), rfl, rfl, rfl⟩
        · intro k c' hk hc'
          have := hfix k hk
          simp [Gh.pack, this, hc']
      · trivial
    · rename_i gf first caps hmk
      rw [hmk] at hd
      cases hq : a.defers with
      | nil => rw [hq] at hd; exact hd.elim
      | cons d ds =>
        rw [hq] at hd
        obtain ⟨hd1, hd2⟩ := hd
        cases ds with
        | nil => exact late_ok (pv := some u) (cpv := some cv) hs hrb hnr hbf hq hd1 hu fun cs => Steps.refl _ _
        | cons _ _ => exact hd2.elim
    · trivial

theorem ending_ok {c : Cfg} {b : Frame} {a : Act} {todo : List Item} (hs : SRel E g c.st a w) (hrb : RndOk g c.st.rnd b) (hnr : ∀ i, c.st.rnd ≠ .round i) (hbf : b.fn = c.f) (hd : Mk g c.st.mks a.defers) {fr : Frame}
    (hst : ∀ cs, Steps P (lone fr cs w) (lone { b.atR a todo with mode := .returning } cs w)) : EvOk P E g c fr w (ending P c) := by
  have key : ∀ m, shutAll c.st.mks c.st.mem = some m → EvOk P E g c fr w (ending1 P { c with st := { c.st with mem := m, mks := [] } }) := by
    intro m hm
    obtain ⟨w', q1, q2, q3⟩ := shut_ok (P := P) (b := b) (todo := todo) hm hd hs
    have h1 := ending1_ok (P := P) (E := E) (c := { c with st := { c.st with mem := m, mks := [] } }) (b := b) (a := { a with defers := [] }) (todo := todo) q2 hrb hnr hbf rfl (fr := { b.atR { a with defers := [] } todo with mode := .returning }) fun cs => Steps.refl _ _
    unfold ending1 at h1 ⊢
    split
    · rename_i fn hfn
      rw [hfn] at h1
      simp only at h1
      split
      · rename_i vs ok hres
        simp only [hres] at h1
        intro hok cs
        obtain ⟨g', fr', w2, s1, s2, s3, s4, s5, s6, s7⟩ := h1 hok cs
        exact ⟨g', fr', w2, ((hst cs).trans (q1 cs)).trans s1, s2, q3.trans s3, s4, s5, s6, s7⟩
      · trivial
    · trivial
  unfold ending
  split
  · rename_i hmk
    have h := key c.st.mem (by rw [hmk]; rfl)
    have e : ({ c with st := { c.st with mem := c.st.mem, mks := [] } } : Cfg) = c := by
      obtain ⟨f, t, st⟩ := c
      obtain ⟨tm, nt, mem, fix, mks, rnd⟩ := st
      simp only at hmk
      subst hmk
      rfl
    rw [e] at h
    exact h
  · rename_i gf first caps hmk
    rw [hmk] at hd
    cases hq : a.defers with
    | nil => rw [hq] at hd; exact hd.elim
    | cons d ds =>
      rw [hq] at hd
      obtain ⟨hd1, hd2⟩ := hd
      cases ds with
      | nil => exact late_ok (pv := none) (cpv := none) hs hrb hnr hbf hq hd1 trivial hst
      | cons _ _ => exact hd2.elim
  · split
    · rename_i m hm
      exact key m hm
    · trivial

end
end Go.Am
end

section
namespace Go.Am
open Go.RowKit

section
variable {P : Program} {E : Env} {g : Gh} {w : World}

theorem set_end (m : Mem) (b b' : Blk) : (m ++ [b]).set m.length b' = m ++ [b'] := by
  rw [List.set_append_right _ _ (Nat.le_refl _)]; simp

theorem upTo_slots {st : St} {a : Act} (h : SRel E g st a w) : VAs g w ((upTo st.nt).map (look st.tm)) a.tmps.toList := by
  refine All2.of_get (by simp [h.nt, upTo_length]) fun i hi hi' => ?_
  have hu : (upTo st.nt)[i]? = some i := upTo_get st.nt i (by simpa [upTo_length] using hi)
  have e : ((upTo st.nt).map (look st.tm))[i] = look st.tm i := by
    have : ((upTo st.nt).map (look st.tm))[i]? = some (look st.tm i) := by rw [List.getElem?_map, hu]; rfl
    rw [List.getElem?_eq_getElem hi] at this
    exact Option.some.inj this
  rw [e]
  have := h.tm i
  rw [Array.getD_eq_getD_getElem?, Array.getElem?_eq_getElem (by simpa using hi')] at this
  simpa using this

theorem range_lay {st : St} {a : Act} (hs : SRel E g st a w) (f : FuncId) (ps : Array Tmp) (as bd : Code) :
    ∃ g', Rel g' (rangeMem st f ps as bd) ((w.alloc (.deferred (some []))).alloc (.loop { state := .ready, pending := none, fn := f, tmps := a.tmps, params := ps, assign := as, body := bd, defers := w.heap.size })) ∧
      Ext g w g' ((w.alloc (.deferred (some []))).alloc (.loop { state := .ready, pending := none, fn := f, tmps := a.tmps, params := ps, assign := as, body := bd, defers := w.heap.size })) ∧
      Stp g st.mem w g' (rangeMem st f ps as bd) ((w.alloc (.deferred (some []))).alloc (.loop { state := .ready, pending := none, fn := f, tmps := a.tmps, params := ps, assign := as, body := bd, defers := w.heap.size })) ∧
      g'.blk st.mem.length = some w.heap.size ∧ g'.blk (st.mem.length + 1) = some (w.heap.size + 1) := by
  obtain ⟨r1, s1⟩ := hs.rel.reserve
  obtain ⟨r2, e2, s2⟩ := r1.allocOb (i := st.mem.length) (ob := .defd) (l := []) (vs := []) (by simp) trivial (grew_alloc w (.deferred (some []))) ⟨rfl, rfl⟩
  rw [set_end] at r2 s2
  obtain ⟨r3, s3⟩ := r2.reserve
  have hv := (upTo_slots hs).mono e2
  obtain ⟨r4, e4, s4⟩ := r3.allocOb (i := st.mem.length + 1) (ob := .loop f ps as bd .ready none) (l := (upTo st.nt).map (look st.tm)) (vs := a.tmps.toList)
    (by simp) hv (grew_alloc _ (.loop { state := .ready, pending := none, fn := f, tmps := a.tmps, params := ps, assign := as, body := bd, defers := w.heap.size })) ⟨w.heap.size, by simp⟩
  have hl : (st.mem ++ [Blk.ob .defd []]).length = st.mem.length + 1 := by simp
  have hse := set_end (st.mem ++ [Blk.ob .defd []]) .free (.ob (.loop f ps as bd .ready none) ((upTo st.nt).map (look st.tm)))
  rw [hl] at hse
  rw [hse] at r4 s4
  refine ⟨_, r4, e2.trans e4, s1.trans (s2.trans (s3.trans s4)), ?_, ?_⟩
  · have := (e4.blk st.mem.length w.heap.size (by simp [Gh.put])).1
    exact this
  · simp [Gh.put]

theorem run_rangeCall {a : Act} {x : Operand} {f : FuncId} {fa ca : Array Value} {l : Nat} (hx : a.eval x = .func (.func f) fa ca)
    {fn : Func} (hf : P.funcs[f]? = some fn) (hb : fn.body.isSome = true) (hn : (fn.name == "runtime.NumGoroutine") = false) :
    ∃ d, (resolve a.eval (rangeCall x l) 0).run P w = .ok d w ∧ (invoke d.target d.args).run P w = .ok (.enter f (fa ++ #[.func (.yield l) #[] #[]] ++ ca)) w := by
  have hbn : fn.body.isNone = false := by cases hq : fn.body <;> simp_all
  refine ⟨{ target := .fn (.func f) ca, args := fa ++ #[.func (.yield l) #[] #[]] }, ?_, ?_⟩
  · simp only [resolve, hx, Deferred.ofValue, Sem.run_pure]
    have e : Array.map a.eval #[Operand.const (Value.func (Fn.yield l) #[] #[])] = #[Value.func (Fn.yield l) #[] #[]] := by simp [Act.eval]
    rw [e]
  · simp only [invoke, callFunc, Sem.run_bind, run_program, Result.andThen_ok, hf, hn, Bool.false_eq_true, if_false, hbn, Sem.run_pure]

theorem rangeEnd_ok {m m' : Mem} {L l : Nat} {pd : Option Code} (h : Rel g m w) (hl : g.blk L = some l) (he : rangeEnd m L = some (m', pd)) :
    ∃ w', (Instr.endLoop l).run P w = .ok pd w' ∧ Rel g m' w' ∧ Ext g w g w' ∧ Stp g m w g m' w' := by
  unfold rangeEnd at he
  split at he
  · rename_i f ps as bd st pd' vals hb
    have hib := getD_some hb (by simp)
    obtain ⟨c, ob, vs, k1, k2, k3, k4, _⟩ := h.obs L _ _ hib
    rw [hl] at k1; cases k1
    obtain ⟨D, rfl⟩ := k4
    have fin : st ≠ .busy → some (m.set L (.ob (.loop f ps as bd .exhausted pd') vals), pd') = some (m', pd) → ∃ w', (Instr.endLoop l).run P w = .ok pd w' ∧ Rel g m' w' ∧ Ext g w g w' ∧ Stp g m w g m' w' := by
      intro hst e
      simp only [Option.some.injEq, Prod.mk.injEq] at e
      obtain ⟨rfl, rfl⟩ := e
      obtain ⟨e1, e2, e3⟩ := setBlock_world w (o' := .loop { state := .exhausted, pending := pd', fn := f, tmps := vs.toArray, params := ps, assign := as, body := bd, defers := D }) k2
      obtain ⟨r1, r2, r3⟩ := h.writeOb (ob' := .loop f ps as bd .exhausted pd') (l' := vals) (vs' := vs) hib hl e1 e2 rfl rfl rfl e3 ⟨D, rfl⟩ k3
      exact ⟨_, run_endLoop k2 hst, r1, r2, r3⟩
    cases st with
    | busy => cases he
    | ready => exact fin (fun e => by cases e) he
    | done => exact fin (fun e => by cases e) he
    | exhausted => exact fin (fun e => by cases e) he
  · cases he

theorem range_ok {st : St} {a : Act} {b : Frame} {k : List Item} {x : Operand} {ps : Array Tmp} {as bd : Code} {gf : FuncId} {first captured : List AV} {v : AV} {m1 m2 : Mem} {pd : Option Code}
    (hs : SRel E g st a w) (hr : b.roundOf = none) (hd : Mk g st.mks a.defers) (hx : ev E st.tm x = .fn (.func gf) first captured)
    (hlt : allLt (close (rangeMem st b.fn ps as bd) 0 (first ++ [.vy (st.mem.length + 1)] ++ captured)) (rangeMem st b.fn ps as bd).length = true)
    (hdoes : Does P E gf (renL (idx (close (rangeMem st b.fn ps as bd) 0 (first ++ [.vy (st.mem.length + 1)] ++ captured))) (first ++ [.vy (st.mem.length + 1)] ++ captured))
      (pack (rangeMem st b.fn ps as bd) (close (rangeMem st b.fn ps as bd) 0 (first ++ [.vy (st.mem.length + 1)] ++ captured))) v m1)
    (hend : rangeEnd (back (close (rangeMem st b.fn ps as bd) 0 (first ++ [.vy (st.mem.length + 1)] ++ captured)) none { st with mem := rangeMem st b.fn ps as bd } v m1).mem (st.mem.length + 1) = some (m2, pd)) :
    ∀ cs, ∃ g' a' w', Steps P (lone (b.atR a (.code (.rangeFunc x ps as bd) :: k)) cs w) (lone (b.atR a' ((pd.map Item.code).toList ++ k)) cs w') ∧
      Mk g' (.range st.mem.length :: st.mks) a'.defers ∧ SRel E g' { st with mem := m2, mks := .range st.mem.length :: st.mks } a' w' ∧ Stp g st.mem w g' m2 w' ∧ Fixed g g' st.fix ∧ ∀ i c, g.blk i = some c → g'.blk i = some c := by
  intro cs
  obtain ⟨g1, r1, e1, s1, d1, d2⟩ := range_lay hs b.fn ps as bd
  generalize hM : rangeMem st b.fn ps as bd = M at *
  generalize hW : (w.alloc (.deferred (some []))).alloc (.loop { state := .ready, pending := none, fn := b.fn, tmps := a.tmps, params := ps, assign := as, body := bd, defers := w.heap.size }) = W at *
  have hlM : st.mem.length + 2 ≤ M.length := by rw [← hM]; simp [rangeMem]
  have hvx := ev_sound hs x
  rw [hx, VA.fns] at hvx
  obtain ⟨fa, ca, hvx, hfa, hca⟩ := hvx
  obtain ⟨⟨fn, hf1, hf2, hf3⟩, hdoes⟩ := hdoes
  obtain ⟨d, hres, hinv⟩ := run_rangeCall (P := P) (w := W) (l := w.heap.size + 1) hvx hf1 hf2 hf3
  have henter := stepR_rangeFunc (P := P) (b := b) (a := a) (k := k) (cs := cs) (w := w) (g := x) (ps := ps) (assign := as) (body := bd) (w₁ := W) (by rw [hr, ← hW]; exact run_enterLoop_outer _ _ _ _ _) hres hinv
  have hargs : VAs g1 W (first ++ [.vy (st.mem.length + 1)] ++ captured) (fa ++ #[Value.func (.yield (w.heap.size + 1)) #[] #[]] ++ ca).toList := by
    simp only [Array.toList_append]
    have hy : VAs g1 W [.vy (st.mem.length + 1)] [Value.func (.yield (w.heap.size + 1)) #[] #[]] := ⟨.vy _ _ d2, trivial⟩
    exact ((hfa.mono e1).append hy).append (hca.mono e1)
  generalize first ++ [.vy (st.mem.length + 1)] ++ captured = args at *
  obtain ⟨hnd, _⟩ := close_spec M 0 args
  generalize close M 0 args = ord at *
  obtain ⟨hp1, hp2⟩ := r1.pack hnd
  have hren := Renames.pack g1 ord
  have hglob : GlobOk E g1 W := hs.glob.mono e1.pure
  obtain ⟨w', g', cv, fr, q1, q2, q3, q4, q5, q6, q7, q8⟩ := hdoes (g1.pack ord) W _ (b.atR { a with defers := [{ target := .collected w.heap.size, args := #[] }] ++ a.defers } (.inRangeFunc (w.heap.size + 1) :: k) :: cs) hp1
    (VAs.ren hren hargs) (hglob.mono fun _ _ p => ⟨p, rfl⟩)
  have hlen : (Am.pack M ord).length = ord.length := by simp [Am.pack]
  rw [hlen] at q7 q8
  obtain ⟨r2, e2, s2, r4⟩ := r1.back hnd (allLt_mem hlt) q5 q6 q7 q8
  have hmem : (back ord none { st with mem := M } v m1).mem = backMem (backIdx ord M.length) ord m1 M := rfl
  rw [hmem] at hend
  have hL : (g1.back g' ord M.length).blk (st.mem.length + 1) = some (w.heap.size + 1) := (e2.blk _ _ d2).1
  obtain ⟨w2, f1, f2, f3, f4⟩ := rangeEnd_ok (P := P) r2 hL hend
  have hleave := step_leave_returned (P := P) (c := b.atR { a with defers := [{ target := .collected w.heap.size, args := #[] }] ++ a.defers } (.inRangeFunc (w.heap.size + 1) :: k)) (cs := cs) q2
  rw [finish_atR_inRangeFunc] at hleave
  have hextA : Ext g w (g1.back g' ord M.length) w2 := (e1.trans e2).trans f3
  have hm2 : st.fix ≤ m2.length := by
    have hl1 := backMem_length (backIdx ord M.length) ord m1 M q8
    have hl2 : m2.length = (backMem (backIdx ord M.length) ord m1 M).length := by
      unfold rangeEnd at hend
      split at hend
      · split at hend
        · cases hend
        · simp only [Option.some.injEq, Prod.mk.injEq] at hend
          obtain ⟨rfl, _⟩ := hend
          simp
      · cases hend
    have := hs.fix
    omega
  refine ⟨g1.back g' ord M.length, { a with defers := [{ target := .collected w.heap.size, args := #[] }] ++ a.defers }, w2, .head henter (q1.trans (.head hleave (.one (stepR_endRangeFunc f1)))), ?_, ?_, s1.trans (s2.trans f4), Fixed.ofExt hextA _, fun i c q => (hextA.blk i c q).1⟩
  · exact ⟨⟨w.heap.size, (e2.blk _ _ d1).1, rfl⟩, hd.ext fun i c q => (hextA.blk i c q).1⟩
  · exact ⟨fun j => (hs.tm j).mono hextA, hs.nt, f2, hm2, hs.glob.mono hextA.pure⟩

end
end Go.Am
end

section
namespace Go.Am
open Go.RowKit

section
variable {P : Program} {E : Env} {g : Gh} {w : World}

theorem exitIn_erl {id : Nat} : ∀ {k k' : List It}, exitIn id k = some k' → exitTo id (erl k) = some (erl k')
  | [], _, h => by simp [exitIn] at h
  | .inBlock i :: k, k', h => by
    simp only [exitIn] at h
    cases hb : Nat.beq i id with
    | true =>
      simp only [hb, cond_true, Option.some.injEq] at h; subst h
      have := Nat.eq_of_beq_eq_true hb
      subst this
      simp [erl, er, exitTo]
    | false =>
      simp only [hb, cond_false] at h
      have hne : (i == id) = false := by
        rw [beq_eq_false_iff_ne]; intro e; subst e; simp [Nat.beq_refl] at hb
      simp only [erl, er, List.cons_append, List.nil_append, exitTo, hne, Bool.false_eq_true, if_false]
      exact exitIn_erl h
  | .code _ _ :: k, k', h => by
    simp only [exitIn] at h
    simpa [erl, er, exitTo] using exitIn_erl h
  | .ops _ _ _ _ :: k, k', h => by
    simp only [exitIn] at h
    simpa [erl, er, exitTo] using exitIn_erl h
  | .inLoop _ _ :: k, k', h => by
    simp only [exitIn] at h
    simpa [erl, er, exitTo] using exitIn_erl h
  | .forget _ :: k, k', h => by
    simp only [exitIn] at h
    simpa [erl, er] using exitIn_erl h
  | .fin :: k, k', h => by
    simp only [exitIn] at h
    simpa [erl, er] using exitIn_erl h
  | .finP _ :: k, k', h => by
    simp only [exitIn] at h
    simpa [erl, er] using exitIn_erl h
  | .thrown _ :: k, k', h => by
    simp only [exitIn] at h
    simpa [erl, er] using exitIn_erl h
  | .leave :: k, k', h => by
    simp only [exitIn] at h
    simpa [erl, er] using exitIn_erl h
  | .begin :: k, k', h => by
    simp only [exitIn] at h
    simpa [erl, er, exitTo] using exitIn_erl h
  | .inScope _ :: k, k', h => by
    simp only [exitIn] at h
    simpa [erl, er, exitTo] using exitIn_erl h

theorem exitIn_none {id : Nat} : ∀ {k : List It}, exitIn id k = none → exitTo id (erl k) = none
  | [], _ => rfl
  | .inBlock i :: k, h => by
    simp only [exitIn] at h
    cases hb : Nat.beq i id with
    | true => simp [hb] at h
    | false =>
      simp only [hb, cond_false] at h
      have hne : (i == id) = false := by
        rw [beq_eq_false_iff_ne]; intro e; subst e; simp [Nat.beq_refl] at hb
      simp only [erl, er, List.cons_append, List.nil_append, exitTo, hne, Bool.false_eq_true, if_false]
      exact exitIn_none h
  | .code _ _ :: k, h => by
    simp only [exitIn] at h
    simpa [erl, er, exitTo] using exitIn_none h
  | .ops _ _ _ _ :: k, h => by
    simp only [exitIn] at h
    simpa [erl, er, exitTo] using exitIn_none h
  | .inLoop _ _ :: k, h => by
    simp only [exitIn] at h
    simpa [erl, er, exitTo] using exitIn_none h
  | .forget _ :: k, h => by
    simp only [exitIn] at h
    simpa [erl, er] using exitIn_none h
  | .fin :: k, h => by
    simp only [exitIn] at h
    simpa [erl, er] using exitIn_none h
  | .finP _ :: k, h => by
    simp only [exitIn] at h
    simpa [erl, er] using exitIn_none h
  | .thrown _ :: k, h => by
    simp only [exitIn] at h
    simpa [erl, er] using exitIn_none h
  | .leave :: k, h => by
    simp only [exitIn] at h
    simpa [erl, er] using exitIn_none h
  | .begin :: k, h => by
    simp only [exitIn] at h
    simpa [erl, er, exitTo] using exitIn_none h
  | .inScope _ :: k, h => by
    simp only [exitIn] at h
    simpa [erl, er, exitTo] using exitIn_none h

theorem gotoIt_erl {l : Nat} : ∀ {k k' : List It}, gotoIt l k = some k' → gotoIn l (erl k) = some (erl k')
  | [], _, h => by simp [gotoIt] at h
  | .inScope b :: k, k', h => by
    simp only [gotoIt] at h
    simp only [erl, er, List.cons_append, List.nil_append, gotoIn]
    cases hf : findLabel b l with
    | some rest =>
      simp only [hf, Option.some.injEq] at h; subst h
      rfl
    | none =>
      simp only [hf] at h
      exact gotoIt_erl h
  | .code _ _ :: k, k', h => by
    simp only [gotoIt] at h
    simpa [erl, er, gotoIn] using gotoIt_erl h
  | .ops _ _ _ _ :: k, k', h => by
    simp only [gotoIt] at h
    simpa [erl, er, gotoIn] using gotoIt_erl h
  | .inBlock _ :: k, k', h => by
    simp only [gotoIt] at h
    simpa [erl, er, gotoIn] using gotoIt_erl h
  | .inLoop _ _ :: k, k', h => by
    simp only [gotoIt] at h
    simpa [erl, er, gotoIn] using gotoIt_erl h
  | .forget _ :: k, k', h => by
    simp only [gotoIt] at h
    simpa [erl, er] using gotoIt_erl h
  | .fin :: k, k', h => by
    simp only [gotoIt] at h
    simpa [erl, er] using gotoIt_erl h
  | .finP _ :: k, k', h => by
    simp only [gotoIt] at h
    simpa [erl, er] using gotoIt_erl h
  | .thrown _ :: k, k', h => by
    simp only [gotoIt] at h
    simpa [erl, er] using gotoIt_erl h
  | .leave :: k, k', h => by
    simp only [gotoIt] at h
    simpa [erl, er] using gotoIt_erl h
  | .begin :: k, k', h => by
    simp only [gotoIt] at h
    simpa [erl, er, gotoIn] using gotoIt_erl h

theorem gotoIt_fin {l : Nat} : ∀ {k k' : List It}, (∀ x ∈ k, It.pl x) → gotoIt l k = some k' → ∀ x ∈ k', It.pl x
  | [], _, _, h => by simp [gotoIt] at h
  | x :: k, k', hf, h => by
    have ht : ∀ y ∈ k, It.pl y := fun y hy => hf y (.tail _ hy)
    cases x with
    | inScope b =>
      simp only [gotoIt] at h
      cases hl : findLabel b l with
      | some rest =>
        simp only [hl, Option.some.injEq] at h; subst h
        intro y hy
        cases hy with
        | head => exact trivial
        | tail _ hy => exact hf y hy
      | none =>
        simp only [hl] at h
        exact gotoIt_fin ht h
    | _ => simp only [gotoIt] at h; exact gotoIt_fin ht h

theorem exitIn_fin {id : Nat} : ∀ {k k' : List It}, (∀ x ∈ k, It.pl x) → exitIn id k = some k' → ∀ x ∈ k', It.pl x
  | [], _, _, h => by simp [exitIn] at h
  | x :: k, k', hf, h => by
    have ht : ∀ y ∈ k, It.pl y := fun y hy => hf y (.tail _ hy)
    cases x with
    | inBlock i =>
      simp only [exitIn] at h
      cases hb : Nat.beq i id with
      | true => simp only [hb, cond_true, Option.some.injEq] at h; subst h; exact ht
      | false => simp only [hb, cond_false] at h; exact exitIn_fin ht h
    | _ => simp only [exitIn] at h; exact exitIn_fin ht h

theorem look_zip {g' : Gh} {ρ : Nat → Option Nat} {f : Nat → Value} : ∀ (keep : List Nat) (tm : Tms), (∀ k, VA g' w (ren ρ (look tm k)) (f k)) → ∀ k, VA g' w (look (keep.zip (renL ρ (keep.map (look tm)))) k) (f k)
  | [], tm, _, k => .junk _
  | i :: keep, tm, h, k => by
    simp only [List.map_cons, renL, List.zip_cons_cons, look_cons]
    by_cases e : i = k
    · subst e; simp only [if_true]; exact h i
    · simp only [e, if_false]; exact look_zip keep tm h k

theorem forget_rnd {keep : List Nat} {st : St} : (forget keep st).rnd = st.rnd := by
  obtain ⟨tm, nt, mem, fix, mks, rnd⟩ := st
  cases mks with
  | cons i l => rfl
  | nil => cases rnd <;> rfl

theorem forgetO_rnd {keep : Option (List Nat)} {st : St} : (forgetO keep st).rnd = st.rnd := by
  cases keep with
  | none => rfl
  | some keep => exact forget_rnd

theorem forget_ok {st : St} {a : Act} (h : SRel E g st a w) (keep : List Nat) : ∃ g', SRel E g' (forget keep st) a w ∧ Stp g st.mem w g' (forget keep st).mem w ∧ Fixed g g' st.fix ∧ (forget keep st).fix = st.fix ∧ (∀ ds, Mk g st.mks ds → Mk g' (forget keep st).mks ds) ∧ ∀ b, RndOk g st.rnd b → RndOk g' (forget keep st).rnd b := by
  obtain ⟨tm, nt, mem, fix, mks, rnd⟩ := st
  have stay : forget keep ⟨tm, nt, mem, fix, mks, rnd⟩ = ⟨tm, nt, mem, fix, mks, rnd⟩ → _ := fun this => (show ∃ g', SRel E g' (forget keep ⟨tm, nt, mem, fix, mks, rnd⟩) a w ∧ Stp g mem w g' (forget keep ⟨tm, nt, mem, fix, mks, rnd⟩).mem w ∧ Fixed g g' fix ∧ (forget keep ⟨tm, nt, mem, fix, mks, rnd⟩).fix = fix ∧ (∀ ds, Mk g mks ds → Mk g' (forget keep ⟨tm, nt, mem, fix, mks, rnd⟩).mks ds) ∧ ∀ b, RndOk g rnd b → RndOk g' (forget keep ⟨tm, nt, mem, fix, mks, rnd⟩).rnd b from by
    rw [this]
    exact ⟨g, h, Stp.refl _ _ _, Fixed.refl _ _, rfl, fun _ q => q, fun _ q => q⟩)
  cases mks with
  | cons i mks => exact stay rfl
  | nil =>
    cases rnd with
    | round i => exact stay rfl
    | late => exact stay rfl
    | call =>
      obtain ⟨hnd, hfix⟩ := close_spec mem fix (keep.map (look tm))
      obtain ⟨h1, h2⟩ := h.rel.pack hnd
      have hlen : fix ≤ (close mem fix (keep.map (look tm))).length := by
        rcases Nat.eq_zero_or_pos fix with e | e
        · omega
        · have := lt_of_get (hfix (fix - 1) (by omega)); omega
      refine ⟨g.pack (close mem fix (keep.map (look tm))), ⟨look_zip keep tm fun k => (h.tm k).ren (Renames.pack g _), h.nt, h1, ?_, h.glob.mono fun _ _ p => ⟨p, rfl⟩⟩, ?_, ?_, rfl, ?_, fun _ q => q⟩
      · show fix ≤ (Am.pack mem _).length
        simpa [Am.pack] using hlen
      · exact ⟨Nat.le_refl _, fun _ _ _ => rfl, fun _ _ p => ⟨p, rfl⟩, fun _ _ p => .inl p, fun c ho => .inl (h2 c ho), rfl, rfl, rfl⟩
      · intro k c hk hc
        have := hfix k hk
        simp [Gh.pack, this, hc]
      · intro ds hd
        cases ds with
        | nil => exact trivial
        | cons _ _ => exact hd.elim

theorem forgetO_ok {st : St} {a : Act} (h : SRel E g st a w) (keep : Option (List Nat)) : ∃ g', SRel E g' (forgetO keep st) a w ∧ Stp g st.mem w g' (forgetO keep st).mem w ∧ Fixed g g' st.fix ∧ (forgetO keep st).fix = st.fix ∧ (∀ ds, Mk g st.mks ds → Mk g' (forgetO keep st).mks ds) ∧ ∀ b, RndOk g st.rnd b → RndOk g' (forgetO keep st).rnd b := by
  cases keep with
  | none => exact ⟨g, h, Stp.refl _ _ _, Fixed.refl _ _, rfl, fun _ q => q, fun _ q => q⟩
  | some keep => exact forget_ok h keep

theorem erl_forgets (keep : Option (List Nat)) (k : List It) : erl (forgets keep k) = erl k := by cases keep <;> rfl

theorem forgets_fin {keep : Option (List Nat)} {k : List It} (h : ∀ x ∈ k, It.pl x) : ∀ x ∈ forgets keep k, It.pl x := by
  cases keep with
  | none => exact h
  | some keep =>
    intro x hx
    cases hx with
    | head => exact trivial
    | tail _ hx => exact h x hx

theorem record_put {st : St} {a : Act} {i l : Nat} {f : FuncId} {ps : Array Tmp} {as bd : Code} {s s' : LoopState} {pd pd' : Option Code} {vals : List AV}
    (h : SRel E g st a w) (hl : g.blk i = some l) (hb : st.mem.getD i .dead = .ob (.loop f ps as bd s pd) vals) :
    ∃ r : Loop, w.heap[l]? = some (.loop r) ∧ r.state = s ∧
      Rel g (st.mem.set i (.ob (.loop f ps as bd s' pd') vals)) (w.putObj l (.loop { r with state := s', pending := pd' })) ∧
      Ext g w g (w.putObj l (.loop { r with state := s', pending := pd' })) ∧
      Stp g st.mem w g (st.mem.set i (.ob (.loop f ps as bd s' pd') vals)) (w.putObj l (.loop { r with state := s', pending := pd' })) ∧
      Owned g st.mem l := by
  have hib := getD_some hb (by simp)
  obtain ⟨c, ob, vs, k1, k2, k3, k4, _⟩ := h.rel.obs i _ _ hib
  rw [hl] at k1; cases k1
  obtain ⟨D, rfl⟩ := k4
  obtain ⟨e1, e2, e3⟩ := setBlock_world w (o' := .loop { state := s', pending := pd', fn := f, tmps := vs.toArray, params := ps, assign := as, body := bd, defers := D }) k2
  obtain ⟨r1, r2, r3⟩ := h.rel.writeOb (ob' := .loop f ps as bd s' pd') (l' := vals) (vs' := vs) hib hl e1 e2 rfl rfl rfl e3 ⟨D, rfl⟩ k3
  exact ⟨_, k2, rfl, r1, r2, r3, i, _, hib, rfl, hl⟩

theorem roundEnd_ok {c : Cfg} {b : Frame} {a : Act} {i l : Nat} {jump : Option Code} {todo : List Item} (hs : SRel E g c.st a w) (hrn : c.st.rnd = .round i) (hl : g.blk i = some l) (hbf : b.fn = c.f)
    (hst : ∀ (v : Value) (w' : World), (Instr.endRound l jump).run P w = .ok v w' → ∀ (d : Frame) (cs : List Frame), _root_.Go.step P (lone (b.atR a todo) (d :: cs) w) = .next (lone (d.finish v) cs w')) :
    EvOk P E g c (b.atR a todo) w (roundEnd c i jump) := by
  unfold roundEnd
  split
  · rename_i f ps as bd s pd vals hb
    dsimp only
    cases hlt : Nat.blt i c.st.fix with
    | false => trivial
    | true =>
    rw [Nat.blt_eq] at hlt
    intro cs
    obtain ⟨r, q1, _, q2, q3, q4, q5⟩ := record_put (s' := endState jump) (pd' := jump) hs hl hb
    have hrun := run_endRound (P := P) jump q1
    have hstate : (if jump.isNone then LoopState.ready else .done) = (endState jump) := by cases jump <;> rfl
    rw [hstate] at hrun
    generalize hm : c.st.mem.set i (.ob (.loop f ps as bd (endState jump) jump) vals) = m at *
    obtain ⟨hnd, hfix⟩ := close_spec m c.st.fix []
    generalize hord : close m c.st.fix [] = ord at *
    obtain ⟨p1, p2⟩ := q2.pack hnd
    have hlen : c.st.fix ≤ ord.length := by
      rcases Nat.eq_zero_or_pos c.st.fix with e | e
      · omega
      · have := lt_of_get (hfix (c.st.fix - 1) (by omega)); omega
    have own : ∀ c', Owned (g.pack ord) (Am.pack m ord) c' → Owned g c.st.mem c' := fun c' ho => (q4.owned c' (p2 c' ho)).elim id fun hh => by
      have h1 := q2.owned_lt (p2 c' ho)
      rw [World.putObj_size] at h1
      omega
    refine ⟨g.pack ord, _, w, Steps.refl _ _, ⟨hbf, .bool jump.isNone, _, ?_, .p _ _ (.sc _), p1, ?_, ?_⟩, ?_, ?_, rfl, rfl, rfl⟩
    · show Outs P c.st.rnd _ w _ _
      rw [hrn]
      exact fun d cs => .one (hst _ _ hrun d cs)
    · have hol : Owned (g.pack ord) (Am.pack m ord) l := by
        have hi := hfix i hlt
        have him : m[i]? = some (.ob (.loop f ps as bd (endState jump) jump) vals) := by
          rw [← hm, List.getElem?_set_self (lt_of_get (getD_some hb (by simp)))]
        refine ⟨i, renB (idx ord) (.ob (.loop f ps as bd (endState jump) jump) vals), ?_, rfl, by simp [Gh.pack, hi, hl]⟩
        unfold Am.pack
        rw [List.getElem?_map, hi]
        simp [List.getD_eq_getElem?_getD, him]
      exact ⟨by simp, fun c' _ hno => World.putObj_heap_other fun e => hno (e ▸ hol), fun c' o p => ⟨p, (q4.pure c' o p).2⟩, fun _ _ p => .inl p, fun _ ho => .inl ho, rfl, rfl, rfl⟩
    · show c.st.fix ≤ (Am.pack m ord).length
      simpa [Am.pack] using hlen
    · exact ⟨Nat.le_refl _, fun _ _ _ => rfl, fun _ _ p => ⟨p, rfl⟩, fun _ _ p => .inl p, fun c' ho => .inl (own c' ho), rfl, rfl, rfl⟩
    · intro k c' hk hc'
      have := hfix k hk
      simp [Gh.pack, this, hc']
  · trivial

theorem step_ok {c : Cfg} {fr : Frame} (h : CRel P E g c fr w) : EvOk P E g c fr w (Am.step P E c) := by
  obtain ⟨f, todo, st⟩ := c
  cases todo with
  | nil =>
    obtain ⟨b, a, rfl, h1, h2, h3, h4, _⟩ := h
    simp only [Am.step]
    split
    · rename_i i hr
      rw [hr] at h2
      obtain ⟨hk, l, hl, hro⟩ := h2
      exact roundEnd_ok (c := ⟨f, [], st⟩) h4 hr hl h1 fun v w' hrun d cs => stepR_round_end hro hk hrun
    · rename_i hnr
      have hnr : ∀ i, st.rnd ≠ .round i := fun i e => hnr i e
      exact ending_ok (c := ⟨f, [], st⟩) (b := b) (a := a) (todo := []) h4 h2 hnr h1 h3 fun cs => .one (stepR_end (h2.noRound hnr))
  | cons x k =>
    by_cases hfin : It.pl x
    case neg =>
      cases x with
      | fin =>
        obtain ⟨h1, cv, w2, h2, h3, h4, h6, h5⟩ := h
        exact ⟨h1, rfl, cv, w2, h2, h3, h4, h6, h5⟩
      | finP u =>
        obtain ⟨h1, cv, h2, h3, h4, h5⟩ := h
        exact ⟨h1, rfl, cv, h2, h3, h4, h5⟩
      | thrown u =>
        obtain ⟨b, a, todo, cv, rfl, h1, h2, h3, h4, h5⟩ := h
        exact thrown_ok (c := ⟨f, .thrown u :: k, st⟩) h4 h2 h1 h3 h5
      | leave =>
        obtain ⟨b, a, todo, rfl, h1, h2, h3, _, h5, h6⟩ := h
        exact ending1_ok (c := ⟨f, .leave :: k, st⟩) (b := b) (a := a) (todo := todo) h6 h2 h3 h1 h5 fun cs => Steps.refl _ _
      | _ => exact absurd trivial hfin
    have h' : ∃ (b : Frame) (a : Act), fr = b.atR a (er x ++ erl k) ∧ b.fn = f ∧ RndOk g st.rnd b ∧ Mk g st.mks a.defers ∧ SRel E g st a w ∧ ∀ y ∈ x :: k, It.pl y := by
      cases x <;> first
        | exact absurd hfin id
        | exact h
    obtain ⟨b, a, rfl, h1, h2, h3, h4, hxk⟩ := h'
    have hk : ∀ y ∈ k, It.pl y := fun y hy => hxk y (.tail _ hy)
    clear h
    cases x with
    | fin => exact absurd hfin id
    | finP u => exact absurd hfin id
    | thrown u => exact absurd hfin id
    | leave => exact absurd hfin id
    | begin =>
      simp only [Am.step]
      split
      · rename_i i hr
        unfold roundBegin
        split
        · rename_i f' ps as bd pd vals hb
          intro cs
          have h2' := h2
          rw [hr] at h2'
          obtain ⟨_, l, hl, hro⟩ := h2'
          obtain ⟨r, q1, q0, q2, q3, q4, _⟩ := record_put (s' := .busy) (pd' := pd) h4 hl hb
          have hp : r.pending = pd := by
            have hib := getD_some hb (by simp)
            obtain ⟨c, ob, vs, k1, k2, k3, k4, _⟩ := h4.rel.obs i _ _ hib
            rw [hl] at k1; cases k1
            obtain ⟨D, rfl⟩ := k4
            rw [q1] at k2; cases k2
            rfl
          have hrun := run_beginRound (P := P) q1 q0
          rw [show ({ r with state := .busy } : Loop) = { r with state := .busy, pending := pd } by rw [← hp]] at hrun
          refine ⟨g, _, _, .one (stepR_beginRound hro hrun), CRel.mk (a := a) (c := ⟨f, k, { st with mem := st.mem.set i (.ob (.loop f' ps as bd .busy pd) vals) }⟩) hk h1 h2 h3 ⟨fun j => (h4.tm j).mono q3, h4.nt, q2, by simpa using h4.fix, h4.glob.mono q3.pure⟩, q4, Fixed.refl _ _, rfl, rfl, rfl⟩
        · trivial
      · trivial
    | inScope bd => exact Goes.quiet (fun cs => .one (step_lone_go (by simp [stepG, stepG.exec, Frame.atR, er]))) hk h1 rfl h2 h3 h4 rfl rfl
    | inBlock id => exact Goes.quiet (fun cs => .one stepR_inBlock) hk h1 rfl h2 h3 h4 rfl rfl
    | forget keep =>
      intro cs
      obtain ⟨g', q1, q2, q3, q4, q5, q6⟩ := forget_ok h4 keep
      exact ⟨g', _, w, Steps.refl _ _, CRel.mk (c := ⟨f, k, forget keep st⟩) hk h1 (q6 _ h2) (q5 _ h3) q1, q2, q3, rfl, q4, forget_rnd⟩
    | inLoop i body =>
      intro cs
      obtain ⟨g', q1, q2, q3, q4, q5, q6⟩ := forgetO_ok h4 (E.keep f (2 * i))
      exact ⟨g', _, w, .one stepR_inLoop, CRel.mk (c := ⟨f, .code (i + 1) body :: .inLoop i body :: k, forgetO (E.keep f (2 * i)) st⟩) (nf trivial (nf trivial hk)) h1 (q6 _ h2) (q5 _ h3) q1, q2, q3, rfl, q4, forgetO_rnd⟩
    | ops rid ops i sure =>
      simp only [Am.step]
      cases ho : ops[i]? with
      | none =>
        have hi : ops.size - i = 0 := by
          have : ops.size ≤ i := by
            rcases Nat.lt_or_ge i ops.size with q | q
            · rw [Array.getElem?_eq_getElem q] at ho; cases ho
            · exact q
          omega
        refine Goes.quiet (c' := ⟨f, k, st⟩) (fun cs => .one ?_) hk h1 rfl h2 h3 h4 rfl rfl
        simp only [er, hi, List.range'_zero, List.cons_append, List.nil_append]
        exact stepR_region_end
      | some o =>
        obtain ⟨w1, w2, w3⟩ := wants_yes h4 (ops := ops) (o := o)
        have hi : i < ops.size := by
          rcases Nat.lt_or_ge i ops.size with q | q
          · exact q
          · rw [Array.getElem?_eq_none q] at ho; cases ho
        have skip : Region.wanted o (yielded ops a.tmps) = false → fits st o.dst = true → Goes P E g ⟨f, .ops rid ops i sure :: k, st⟩ (b.atR a (er (.ops rid ops i sure) ++ erl k)) w ⟨f, .ops rid ops (i + 1) false :: k, put st o.dst (.tup [])⟩ := by
          intro hw hf cs
          have hst := stepR_op_skip (P := P) (b := b) (a := a) (k := erl k) (cs := cs) (w := w) (ops := ops) (i := i) (rest := List.range' (i + 1) (ops.size - (i + 1))) (by simp [ho, hw])
          simp only [ho, Option.bind_some] at hst
          rw [← range'_head hi] at hst
          have hp := h4.put (v := .tup []) (cv := undef) hf (VA.tups.2 trivial) (Ext.refl g w) h4.rel h4.fix
          refine ⟨g, _, w, .one hst, CRel.mk (a := a.put o.dst undef) (c := ⟨f, .ops rid ops (i + 1) false :: k, put st o.dst (.tup [])⟩) (nf trivial hk) h1 (h2.put (Ext.refl g w) rfl) (h3.put (Ext.refl g w) rfl) hp, ?_, Fixed.refl _ _, rfl, ?_, put_rnd⟩
          · have : (put st o.dst (.tup [])).mem = st.mem := by unfold Am.put; cases o.dst <;> rfl
            show Stp g st.mem w g (put st o.dst (.tup [])).mem w
            rw [this]; exact Stp.refl _ _ _
          · show (put st o.dst (.tup [])).fix = st.fix
            unfold Am.put; cases o.dst <;> rfl
        dsimp only
        cases hwt : wants ops st.tm o with
        | yes => exact doOp_ok (c := ⟨f, .ops rid ops i sure :: k, st⟩) h4 h1 h2 h3 ho (w1 hwt) hk
        | no =>
          dsimp only
          cases hf : fits st o.dst with
          | false => trivial
          | true => exact skip (w2 hwt) hf
        | lost => trivial
        | ask d bb want =>
          obtain ⟨q1, q2⟩ := w3 d bb want hwt
          dsimp only
          cases sure with
          | false =>
            have known : ∀ b' : Bool, bb = b' → Goes P E g ⟨f, .ops rid ops i false :: k, st⟩ (b.atR a (er (.ops rid ops i false) ++ erl k)) w ⟨f, .ops rid ops i true :: k, put st (some d) (sB b')⟩ := by
              intro b' e
              subst e
              refine Goes.quiet (c' := ⟨f, .ops rid ops i true :: k, put st (some d) (sB bb)⟩) (fun cs => Steps.refl _ _) (nf trivial hk) h1 rfl h2 h3 (h4.known ?_) rfl rfl
              rw [q2]; exact .p _ _ (.sc _)
            exact ⟨known true, known false⟩
          | true =>
            dsimp only
            cases hb : bb == want with
            | true => exact doOp_ok (c := ⟨f, .ops rid ops i true :: k, st⟩) h4 h1 h2 h3 ho (q1.trans hb) hk
            | false =>
              dsimp only
              cases hf : fits st o.dst with
              | false => trivial
              | true => exact skip (q1.trans hb) hf
    | code i code =>
      cases code with
      | skip => exact Goes.quiet (c' := ⟨f, k, st⟩) (fun cs => .one stepR_skip) hk h1 rfl h2 h3 h4 rfl rfl
      | region id ops draw =>
        cases draw with
        | true =>
          simp only [Am.step]
          split
          · rename_i st' ok hq
            intro hok cs
            subst hok
            obtain ⟨g', a', w', r1, r2, r3, r4, r5, r6, r7⟩ := draw_ok (b := b) (k := erl k) h4 hq
            refine ⟨g', _, w', r1 cs, CRel.mk (a := a') (c := ⟨f, k, { st' with mks := st.mks, rnd := st.rnd }⟩) hk h1 (h2.ext r7) (by rw [r2]; exact h3.ext r7) ⟨r3.tm, r3.nt, r3.rel, r3.fix, r3.glob⟩, r4, r5, rfl, r6, rfl⟩
          · split
            · rename_i sts hq
              obtain ⟨st', hm, g', a', w', r1, r2, r3, r4, r5, r6, r7⟩ := fork_ok (b := b) (k := erl k) (rid := id) h4 hq
              intro cs
              exact ⟨_, List.mem_map.2 ⟨st', hm, rfl⟩, g', _, w', r1 cs, CRel.mk (a := a') (c := ⟨f, k, { st' with mks := st.mks, rnd := st.rnd }⟩) hk h1 (h2.ext r7) (by rw [r2]; exact h3.ext r7) ⟨r3.tm, r3.nt, r3.rel, r3.fix, r3.glob⟩, r4, r5, rfl, r6, rfl⟩
            intro O st' hO hq cs
            obtain ⟨g', a', w', r1, r2, r3, r4, r5, r6, r7⟩ := led_ok (b := b) (k := k) hO h4 hq cs
            have hk' : ∀ y ∈ behindOpen id ops k, It.pl y := by
              unfold behindOpen
              cases isLast ops with
              | false => exact hk
              | true => exact nf trivial hk
            exact ⟨g', _, w', r1, CRel.mk (a := a') (c := ⟨f, behindOpen id ops k, { st' with mks := st.mks, rnd := st.rnd }⟩) hk' h1 (h2.ext r7) (by rw [r2]; exact h3.ext r7) ⟨r3.tm, r3.nt, r3.rel, r3.fix, r3.glob⟩, r4, r5, rfl, r6, rfl⟩
        | false =>
          refine Goes.quiet (c' := ⟨f, .ops id ops 0 false :: k, st⟩) (fun cs => .one ?_) (nf trivial hk) h1 rfl h2 h3 h4 rfl rfl
          have := stepR_region (P := P) (b := b) (a := a) (k := erl k) (cs := cs) (w := w) (ops := ops) (id := id)
          simpa [erl, er, List.range_eq_range'] using this
      | seq x y => exact Goes.quiet (c' := ⟨f, .code i x :: .code (i + nodes x) y :: k, st⟩) (fun cs => .one stepR_seq) (nf trivial (nf trivial hk)) h1 rfl h2 h3 h4 rfl rfl
      | cond x y z =>
        simp only [Am.step]
        split
        · rename_i t hx
          have hv := ev_sound h4 x
          rw [hx, VA.pv] at hv
          generalize hz : a.eval x = cv at hv
          cases hv
          refine ⟨fun e => ?_, fun e => ?_⟩ <;> subst e
          · refine Goes.quiet (c' := ⟨f, .code (i + 1) y :: forgets (E.keep f (2 * i)) k, st⟩) (fun cs => .one ?_) (nf trivial (forgets_fin hk)) h1 rfl h2 h3 h4 rfl rfl
            simp only [erl, erl_forgets]; exact stepR_cond hz
          · refine Goes.quiet (c' := ⟨f, .code (i + 1 + nodes y) z :: forgets (E.keep f (2 * i)) k, st⟩) (fun cs => .one ?_) (nf trivial (forgets_fin hk)) h1 rfl h2 h3 h4 rfl rfl
            simp only [erl, erl_forgets]; exact stepR_cond hz
        · trivial
      | block id body => exact Goes.quiet (c' := ⟨f, .code i body :: .inBlock id :: k, st⟩) (fun cs => .one stepR_block) (nf trivial (nf trivial hk)) h1 rfl h2 h3 h4 rfl rfl
      | loop body =>
        intro cs
        obtain ⟨g', q1, q2, q3, q4, q5, q6⟩ := forgetO_ok h4 (E.keep f (2 * i))
        refine ⟨g', b.atR a (erl (.code (i + 1) body :: .inLoop i body :: forgets (E.keep f (2 * i + 1)) k)), w, .one ?_, CRel.mk (c := ⟨f, .code (i + 1) body :: .inLoop i body :: forgets (E.keep f (2 * i + 1)) k, forgetO (E.keep f (2 * i)) st⟩) (nf trivial (nf trivial (forgets_fin hk))) h1 (q6 _ h2) (q5 _ h3) q1, q2, q3, rfl, q4, forgetO_rnd⟩
        simp only [erl, erl_forgets]; exact stepR_loop
      | exit id =>
        simp only [Am.step]
        split
        · rename_i k' hk'
          exact Goes.quiet (c' := ⟨f, k', st⟩) (fun cs => .one (stepR_exit (exitIn_erl hk'))) (exitIn_fin hk hk') h1 rfl h2 h3 h4 rfl rfl
        · rename_i hx
          split
          · rename_i j hr
            rw [hr] at h2
            obtain ⟨hk, l, hl, hro⟩ := h2
            exact roundEnd_ok (c := ⟨f, .code i (.exit id) :: k, st⟩) h4 hr hl h1 fun v w' hrun d cs => stepR_round_exit hro hk (exitIn_none hx) hrun
          · trivial
      | scope bd => exact Goes.quiet (c' := ⟨f, .code i bd :: .inScope bd :: k, st⟩) (fun cs => .one (step_lone_go (by simp [stepG, stepG.exec, Frame.atR, erl, er]))) (nf trivial (nf trivial hk)) h1 rfl h2 h3 h4 rfl rfl
      | label l => exact Goes.quiet (c' := ⟨f, k, st⟩) (fun cs => .one stepR_label) hk h1 rfl h2 h3 h4 rfl rfl
      | goto l =>
        simp only [Am.step]
        split
        · rename_i k' hk'
          exact Goes.quiet (c' := ⟨f, k', st⟩) (fun cs => .one (stepR_goto (gotoIt_erl hk'))) (gotoIt_fin hk hk') h1 rfl h2 h3 h4 rfl rfl
        · trivial
      | rangeFunc x ps as bd =>
        simp only [Am.step]
        split
        · rename_i hr
          have h2' := h2
          rw [hr] at h2'
          unfold rangeGo
          split
          · rename_i gf first captured hx
            dsimp only
            cases hlt : allLt (close (rangeMem st f ps as bd) 0 (first ++ [.vy (st.mem.length + 1)] ++ captured)) (rangeMem st f ps as bd).length with
            | false => trivial
            | true =>
              subst h1
              intro v m1 hd m2 pd hend cs
              obtain ⟨g', a', w', s1, s2, s3, s4, s5, s6⟩ := range_ok (P := P) (k := erl k) h4 h2'.2 h3 hx hlt hd hend cs
              have e : (pd.map Item.code).toList ++ erl k = erl (behind ⟨b.fn, k, { st with mem := rangeMem st b.fn ps as bd, mks := .range st.mem.length :: st.mks }⟩ m2 pd).todo := by
                cases pd <;> rfl
              rw [e] at s1
              refine ⟨g', _, w', s1, CRel.mk (a := a') (c := behind ⟨b.fn, k, { st with mem := rangeMem st b.fn ps as bd, mks := .range st.mem.length :: st.mks }⟩ m2 pd) ?_ rfl (h2.ext s6) s2 s3, s4, s5, rfl, rfl, rfl⟩
              cases pd with
              | none => exact hk
              | some code => exact nf trivial hk
          · trivial
        · trivial
      | ret =>
        simp only [Am.step]
        split
        · rename_i j hr
          rw [hr] at h2
          obtain ⟨hk, l, hl, hro⟩ := h2
          exact roundEnd_ok (c := ⟨f, .code i .ret :: k, st⟩) h4 hr hl h1 fun v w' hrun d cs => stepR_round_ret hro hk hrun
        · rename_i hnr
          have hnr : ∀ i, st.rnd ≠ .round i := fun i e => hnr i e
          exact ending_ok (c := ⟨f, .code i .ret :: k, st⟩) (b := b) (a := a) (todo := .code .ret :: erl k) h4 h2 hnr h1 h3 fun cs => .one (stepR_ret (h2.noRound hnr))
      | _ => trivial

end
end Go.Am
end

section
namespace Go.Am
open Go.RowKit

def NamesOk (P : Program) : Prop := ∀ (f : FuncId) (fn : Func), P.funcs[f]? = some fn → (fn.name == "runtime.NumGoroutine") = false

def Good (P : Program) (E : Env) (c : Cfg) (o : Out) : Prop :=
  ∀ (g : Gh) (fr : Frame) (w : World) (cs : List Frame), CRel P E g c fr w → match o with
    | .ret v m' => ∃ g' fr' w' cv w2, Steps P (lone fr cs w) (lone fr' cs w') ∧ Outs P c.st.rnd fr' w' cv w2 ∧ fr'.fn = c.f ∧ VA g' w2 v cv ∧ Rel g' m' w2 ∧ Stp g c.st.mem w g' m' w2 ∧ Fixed g g' c.st.fix ∧ c.st.fix ≤ m'.length
    | .pan v m' => ∃ g' fr' w' cv, Steps P (lone fr cs w) (lone fr' cs w') ∧ fr'.leaving P w' (.panicked [{ v := cv, recovered := false }]) ∧ fr'.fn = c.f ∧ VA g' w' v cv ∧ Rel g' m' w' ∧ Stp g c.st.mem w g' m' w' ∧ Fixed g g' c.st.fix ∧ c.st.fix ≤ m'.length

section
variable {P : Program} {E : Env}

theorem Good.of_goes {c c' : Cfg} {o : Out} (hg : ∀ g fr w, CRel P E g c fr w → Goes P E g c fr w c') (h : Good P E c' o) : Good P E c o := by
  intro g fr w cs hc
  obtain ⟨g', fr', w', q1, q2, q3, q4, q5, q6, q7⟩ := hg g fr w hc cs
  cases o with
  | ret v m' =>
    obtain ⟨g2, fr2, w2, cv, w3, r1, r2, r3, r4, r5, r6, r7, r8⟩ := h g' fr' w' cs q2
    refine ⟨g2, fr2, w2, cv, w3, q1.trans r1, by rw [← q7]; exact r2, r3.trans q5, r4, r5, q3.trans r6, q4.trans ?_, by rw [← q6]; exact r8⟩
    rw [← q6]; exact r7
  | pan v m' =>
    obtain ⟨g2, fr2, w2, cv, r1, r2, r3, r4, r5, r6, r7, r8⟩ := h g' fr' w' cs q2
    refine ⟨g2, fr2, w2, cv, q1.trans r1, r2, r3.trans q5, r4, r5, q3.trans r6, q4.trans ?_, by rw [← q6]; exact r8⟩
    rw [← q6]; exact r7

theorem upTo_range : ∀ n, upTo n = List.range n
  | 0 => rfl
  | n + 1 => by rw [upTo, upTo_range n, List.range_succ]

theorem look_range : ∀ (l : List AV) (s k : Nat), look ((List.range' s l.length).zip l) k = if s ≤ k then l.getD (k - s) .junk else .junk
  | [], s, k => by simp [look]
  | v :: l, s, k => by
    simp only [List.length_cons, List.range'_succ, List.zip_cons_cons, look_cons]
    by_cases e : s = k
    · subst e; simp
    · simp only [e, if_false]
      rw [look_range l (s + 1) k]
      by_cases h : s + 1 ≤ k
      · have h1 : s ≤ k := by omega
        have h2 : k - s = (k - (s + 1)) + 1 := by omega
        simp [h, h1, h2]
      · have h1 : ¬ s ≤ k := by omega
        simp [h, h1]

def roleOf : Bool → Rnd
  | false => .call
  | true => .late
def kindOf : Bool → CallKind
  | false => .normal
  | true => .deferred

theorem CRel.enterK {g : Gh} {w : World} {f : FuncId} {args : List AV} {m : Mem} {c : Cfg} {cargs : Array Value} (z : Bool) (hi : init P f args m = some c) (hr : Rel g m w) (ha : VAs g w args cargs.toList) (hg : GlobOk E g w) :
    CRel P E g { c with st := { c.st with rnd := roleOf z } } (Frame.enter P f cargs (kindOf z)) w := by
  unfold init at hi
  split at hi
  · rename_i fn hf
    split at hi
    · rename_i body hb
      simp only [Option.some.injEq] at hi; subst hi
      have hlen := ha.len
      simp only [Array.length_toList] at hlen
      let b : Frame := { (default : Frame) with fn := f, kind := kindOf z, roundOf := none }
      have hen : Frame.enter P f cargs (kindOf z) = b.atR { tmps := cargs ++ Array.replicate (fn.ntmps - cargs.size) undef, defers := [] } [.code body] := by
        simp [Frame.enter, Frame.atR, hf, hb, b]
      rw [hen]
      refine CRel.mk (c := ⟨f, [.code 0 body], ⟨(upTo args.length).zip args, max fn.ntmps args.length, m, m.length, [], roleOf z⟩⟩) (nf trivial (fun _ h => by cases h)) rfl (by cases z <;> exact ⟨rfl, rfl⟩) trivial ⟨?_, ?_, hr, Nat.le_refl _, hg⟩
      · intro k
        rw [upTo_range, List.range_eq_range', look_range]
        simp only [Nat.zero_le, if_true, Nat.sub_zero]
        rcases Nat.lt_or_ge k args.length with hk | hk
        · rw [List.getD_eq_getElem?_getD, List.getElem?_eq_getElem hk]
          have hk' : k < cargs.toList.length := by simp; omega
          have hk2 : k < cargs.size := by omega
          have := ha.get k hk hk'
          simp only [Option.getD_some, Array.getD_eq_getD_getElem?]
          rw [Array.getElem?_append_left hk2, Array.getElem?_eq_getElem hk2]
          simpa using this
        · rw [List.getD_eq_getElem?_getD, List.getElem?_eq_none hk]
          exact .junk _
      · simp; omega
    · cases hi
  · cases hi

theorem init_rnd {f : FuncId} {args : List AV} {m : Mem} {c : Cfg} (hi : init P f args m = some c) : c.st.mem = m ∧ c.st.fix = m.length ∧ c.f = f ∧ c.st.rnd = .call := by
  unfold init at hi
  split at hi
  · split at hi
    · simp only [Option.some.injEq] at hi; subst hi; exact ⟨rfl, rfl, rfl, rfl⟩
    · cases hi
  · cases hi

theorem CRel.enter {g : Gh} {w : World} {f : FuncId} {args : List AV} {m : Mem} {c : Cfg} {cargs : Array Value} (hi : init P f args m = some c) (hr : Rel g m w) (ha : VAs g w args cargs.toList) (hg : GlobOk E g w) :
    CRel P E g c (Frame.enter P f cargs .normal) w := by
  have h := CRel.enterK (P := P) false hi hr ha hg
  have e : ({ c with st := { c.st with rnd := roleOf false } } : Cfg) = c := by
    obtain ⟨_, _, _, h4⟩ := init_rnd hi
    obtain ⟨f, t, tm, nt, mem, fix, mks, rnd⟩ := c
    simp only at h4
    subst h4
    rfl
  rw [e] at h
  exact h

theorem init_body (hN : NamesOk P) {f : FuncId} {args : List AV} {m : Mem} {c : Cfg} (hi : init P f args m = some c) : ∃ fn, P.funcs[f]? = some fn ∧ fn.body.isSome = true ∧ (fn.name == "runtime.NumGoroutine") = false := by
  unfold init at hi
  split at hi
  · rename_i fn hf
    split at hi
    · rename_i body hb
      exact ⟨fn, hf, by simp [hb], hN f fn hf⟩
    · cases hi
  · cases hi

theorem doesP_of_good (hN : NamesOk P) {f : FuncId} {args : List AV} {m : Mem} {c : Cfg} {v : AV} {m' : Mem} (hi : init P f args m = some c) (h : Good P E c (.pan v m')) : DoesP P E f args m v m' := by
  refine ⟨init_body hN hi, fun g w cargs cs hr ha hg => ?_⟩
  obtain ⟨g', fr', w', cv, q1, q2, q3, q4, q5, q6, q7, q8⟩ := h g _ w cs (CRel.enter hi hr ha hg)
  obtain ⟨e1, e2, e3, e4⟩ := init_rnd hi
  rw [e1] at q6; rw [e2] at q7 q8; rw [e3] at q3
  exact ⟨_, g', cv, fr', q1, q2, q3, q4, q5, q6, q7, q8⟩

theorem does_of_good (hN : NamesOk P) {f : FuncId} {args : List AV} {m : Mem} {c : Cfg} {v : AV} {m' : Mem} (hi : init P f args m = some c) (h : Good P E c (.ret v m')) : Does P E f args m v m' := by
  refine ⟨init_body hN hi, fun g w cargs cs hr ha hg => ?_⟩
  obtain ⟨g', fr', w', cv, w2, q1, q2, q3, q4, q5, q6, q7, q8⟩ := h g _ w cs (CRel.enter hi hr ha hg)
  obtain ⟨e1, e2, e3, e4⟩ := init_rnd hi
  rw [e1] at q6; rw [e2] at q7 q8; rw [e3] at q3; rw [e4] at q2
  obtain ⟨q2, rfl⟩ := q2
  exact ⟨_, g', cv, fr', q1, q2, q3, q4, q5, q6, q7, q8⟩

theorem putAll_sound {g : Gh} {w : World} : ∀ (ds : List Nat) (vs : List AV) (cvs : List Value) (tm : Tms) (t : Array Value), VAs g w vs cvs → ds.length = vs.length → (∀ d ∈ ds, d < t.size) → (∀ k, VA g w (look tm k) (t.getD k undef)) →
    (∀ k, VA g w (look (putAll tm ds vs) k) (((ds.zip cvs).foldl (fun t (q : Nat × Value) => t.setIfInBounds q.1 q.2) t).getD k undef)) ∧ ((ds.zip cvs).foldl (fun t (q : Nat × Value) => t.setIfInBounds q.1 q.2) t).size = t.size
  | [], [], [], tm, t, _, _, _, h => ⟨h, rfl⟩
  | d :: ds, v :: vs, cv :: cvs, tm, t, hv, hl, hd, h => by
    have hdt := hd d (.head _)
    obtain ⟨q1, q2⟩ := putAll_sound ds vs cvs ((d, v) :: tm) (t.setIfInBounds d cv) hv.2 (by simpa using hl) (fun d' hd' => by simpa using hd d' (.tail _ hd')) fun k => by
      simp only [look_cons]
      by_cases hk : d = k
      · subst hk
        simp only [if_true, Array.getD_eq_getD_getElem?, Array.getElem?_setIfInBounds_self_of_lt hdt, Option.getD_some]
        exact hv.1
      · simp only [hk, if_false, Array.getD_eq_getD_getElem?]
        rw [Array.getElem?_setIfInBounds_ne hk, ← Array.getD_eq_getD_getElem?]
        exact h k
    exact ⟨q1, q2.trans (by simp)⟩
  | [], _ :: _, _, _, _, _, hl, _, _ => by simp at hl
  | _ :: _, [], _, _, _, _, hl, _, _ => by simp at hl
  | [], [], _ :: _, _, _, h, _, _, _ => h.elim
  | _ :: _, _ :: _, [], _, _, h, _, _, _ => h.elim

theorem doesR_of_good {args : List AV} {m : Mem} {c : Cfg} {v : AV} {m' : Mem} (hi : initR args m = some c) (h : Good P E c (.ret v m')) : DoesR P E args m v m' := by
  intro g w i l xs cxs d cs hargs hr hl hx hg
  subst hargs
  unfold initR at hi
  dsimp only at hi
  split at hi
  · rename_i f ps as bd s pd vals hb
    cases hc : (Nat.beq xs.length ps.toList.length && allLt ps.toList vals.length) with
    | false => rw [hc] at hi; cases hi
    | true =>
      rw [hc] at hi
      simp only [cond_true, Option.some.injEq] at hi
      simp only [Bool.and_eq_true] at hc
      have hlen := Nat.eq_of_beq_eq_true hc.1
      have hlt := allLt_mem hc.2
      have hib := getD_some hb (by simp)
      obtain ⟨c0, ob, vs, k1, k2, k3, k4, _⟩ := hr.obs i _ _ hib
      rw [hl] at k1; cases k1
      obtain ⟨D, rfl⟩ := k4
      have hxl := hx.len
      simp only [Array.length_toList] at hxl
      have hvl := k3.len
      have hyield := run_yield (P := P) (args := cxs) k2 (by show cxs.size = ps.size; simp at hlen; omega)
      dsimp only at hyield
      have hfold : (ps.zip cxs).foldl (fun tmps (t, a) => tmps.setIfInBounds t a) vs.toArray = (ps.toList.zip cxs.toList).foldl (fun t (q : Nat × Value) => t.setIfInBounds q.1 q.2) vs.toArray := by
        rw [← Array.foldl_toList, Array.toList_zip]
      rw [hfold] at hyield
      obtain ⟨t1, t2⟩ := putAll_sound ps.toList xs cxs.toList ((upTo vals.length).zip vals) vs.toArray hx hlen.symm (fun d hd => by have := hlt d hd; simp; omega) fun k => by
        rw [upTo_range, List.range_eq_range', look_range]
        simp only [Nat.zero_le, if_true, Nat.sub_zero]
        rcases Nat.lt_or_ge k vals.length with hk | hk
        · rw [List.getD_eq_getElem?_getD, List.getElem?_eq_getElem hk]
          have hk' : k < vs.length := by omega
          have := k3.get k hk hk'
          simp only [Option.getD_some, Array.getD_eq_getD_getElem?]
          simpa [hk'] using this
        · rw [List.getD_eq_getElem?_getD, List.getElem?_eq_none hk]
          exact .junk _
      generalize (ps.toList.zip cxs.toList).foldl (fun t (q : Nat × Value) => t.setIfInBounds q.1 q.2) vs.toArray = T at *
      let b : Frame := { (default : Frame) with fn := f, kind := .normal, roundOf := some l }
      have hen : Frame.round l f T as bd .normal = b.atR { tmps := T, defers := [] } (erl c.todo) := by
        rw [← hi]
        simp [Frame.round, Frame.atR, erl, er, b]
      have hrel : CRel P E g c (Frame.round l f T as bd .normal) w := by
        rw [hen]
        subst hi
        exact CRel.mk (nf trivial (nf trivial (nf trivial fun _ h => by cases h))) rfl ⟨rfl, l, hl, rfl⟩ trivial ⟨t1, by rw [t2]; simp; omega, hr, Nat.le_refl _, hg⟩
      have hm : c.st.mem = m ∧ c.st.fix = m.length ∧ c.st.rnd = .round i := by subst hi; exact ⟨rfl, rfl, rfl⟩
      obtain ⟨e1, e2, e3⟩ := hm
      obtain ⟨g', fr', w', cv, w2, q1, q2, q3, q4, q5, q6, q7, q8⟩ := h g _ w (d :: cs) hrel
      rw [e1] at q6; rw [e2] at q7 q8; rw [e3] at q2
      exact ⟨f, T, as, bd, w2, g', cv, hyield, q1.trans (q2 d cs), q4, q5, q6, q7, q8⟩
  · cases hi

theorem good_done {c : Cfg} {o : Out} (h : Am.step P E c = .done o) : Good P E c o := by
  intro g fr w cs hc
  have hs := step_ok hc
  rw [h] at hs
  cases o with
  | ret v m' =>
    obtain ⟨h1, rfl, cv, w2, h2, h3, h4, h6, h5⟩ := hs
    exact ⟨g, fr, w, cv, w2, Steps.refl _ _, h2, h1, h3, h4, h6, Fixed.refl _ _, h5⟩
  | pan v m' =>
    obtain ⟨h1, rfl, cv, h2, h3, h4, h5⟩ := hs
    exact ⟨g, fr, w, cv, Steps.refl _ _, h2, h1, h3, h4, Stp.refl _ _ _, Fixed.refl _ _, h5⟩

theorem goes_next {c c' : Cfg} (h : Am.step P E c = .next c') : ∀ g fr w, CRel P E g c fr w → Goes P E g c fr w c' := by
  intro g fr w hc
  have hs := step_ok hc
  rw [h] at hs; exact hs

theorem goes_must {c c' : Cfg} (h : Am.step P E c = .must true c') : ∀ g fr w, CRel P E g c fr w → Goes P E g c fr w c' := by
  intro g fr w hc
  have hs := step_ok hc
  rw [h] at hs; exact hs rfl

theorem goes_test {c y z : Cfg} {b : Bool} (h : Am.step P E c = .test b y z) : ∀ g fr w, CRel P E g c fr w → Goes P E g c fr w (match b with | true => y | false => z) := by
  intro g fr w hc
  have hs := step_ok hc
  rw [h] at hs
  cases b with
  | true => exact hs.1 rfl
  | false => exact hs.2 rfl

theorem goes_call {c c' : Cfg} {f : FuncId} {args : List AV} {m : Mem} {ord : List Nat} {dst : Option Tmp} {v : AV} {m1 : Mem} (h : Am.step P E c = .call f args m ord dst c') (hd : Does P E f args m v m1) :
    ∀ g fr w, CRel P E g c fr w → Goes P E g c fr w { c' with st := back ord dst c'.st v m1 } := by
  intro g fr w hc
  have hs := step_ok hc
  rw [h] at hs
  exact hs.1 v m1 hd

theorem goes_thrown {c c' : Cfg} {f : FuncId} {args : List AV} {m : Mem} {ord : List Nat} {dst : Option Tmp} {v : AV} {m1 : Mem} (h : Am.step P E c = .call f args m ord dst c') (hd : DoesP P E f args m v m1) :
    ∀ g fr w, CRel P E g c fr w → Goes P E g c fr w (thrownAt ord c' v m1) := by
  intro g fr w hc
  have hs := step_ok hc
  rw [h] at hs
  exact hs.2 v m1 hd

theorem goes_late {c c' : Cfg} {f : FuncId} {args : List AV} {m : Mem} {ord : List Nat} {pv : Option AV} {m1 : Mem} (h : Am.step P E c = .late f args m ord pv c') (hd : DoesL P E f args m pv m1) :
    ∀ g fr w, CRel P E g c fr w → Goes P E g c fr w { c' with st := back ord none c'.st (.tup []) m1 } := by
  intro g fr w hc
  have hs := step_ok hc
  rw [h] at hs
  exact hs m1 hd

theorem toRec_goes {b : Frame} {a : Act} {cs : List Frame} {w : World} : ∀ (n : Nat) (t t' : List It), toRec n t = some t' → (∀ x ∈ t, It.pl x) → Steps P (lone (b.atR a (erl t)) cs w) (lone (b.atR a (erl t')) cs w) ∧ ∀ x ∈ t', It.pl x
  | 0, _, _, h, _ => by cases h
  | n + 1, t, t', h, hp => by
    unfold toRec at h
    split at h
    · simp only [Option.some.injEq] at h; subst h
      exact ⟨Steps.refl _ _, hp⟩
    · obtain ⟨h1, h2⟩ := toRec_goes n _ t' h (nf trivial (nf trivial fun y hy => hp y (.tail _ hy)))
      exact ⟨.head stepR_seq h1, h2⟩
    · rename_i id ops k
      obtain ⟨h1, h2⟩ := toRec_goes n _ t' h (nf trivial fun y hy => hp y (.tail _ hy))
      refine ⟨.head ?_ h1, h2⟩
      have := stepR_region (P := P) (b := b) (a := a) (k := erl k) (cs := cs) (w := w) (ops := ops) (id := id)
      simpa [erl, er, List.range_eq_range'] using this
    · obtain ⟨h1, h2⟩ := toRec_goes n _ t' h (nf trivial (nf trivial fun y hy => hp y (.tail _ hy)))
      exact ⟨.head (step_lone_go (by simp [stepG, stepG.exec, Frame.atR, erl, er])) h1, h2⟩
    · obtain ⟨h1, h2⟩ := toRec_goes n _ t' h (nf trivial (nf trivial fun y hy => hp y (.tail _ hy)))
      exact ⟨.head stepR_block h1, h2⟩
    · cases h

theorem step_recover {b : Frame} {a : Act} {k : List Item} {c0 : Frame} {cs : List Frame} {w : World} {ops : Array Oper} {i : Nat} {rest : List Nat} {o : Oper} {cpv : Option Value} (hk : b.kind = .deferred) (hb : b.roundOf = none) (ho : ops[i]? = some o) (hr : isRec o = true)
    (h0 : c0.mode = lateMode cpv false) :
    _root_.Go.step P (lone (b.atR a (.inRegion ops (i :: rest) :: k)) (c0 :: cs) w) = .next (lone (b.atR (a.put o.dst (cpv.getD .nilIface)) (.inRegion ops rest :: k)) ({ c0 with mode := lateMode cpv true } :: cs) w) := by
  unfold isRec at hr
  split at hr
  · rename_i c hop hgd
    split at hr
    · rename_i hcal harg
      have harr : c.args = #[] := by have := congrArg List.toArray harg; simpa using this
      have hw : Region.wanted o (yielded ops a.tmps) = true := by unfold Region.wanted; rw [hgd]
      have hg := stepGR_op (P := P) (b := b) (k := k) (cs := c0 :: cs) (w := w) (rest := rest) ho hw
      have hrun : (o.semAt b.roundOf a.eval).run P w = .ok .recover w := by
        rw [hb]
        simp only [Oper.semAt, execOp, hop, resolve, hcal, harr, Sem.run_bind, Sem.run_pure, Result.andThen_ok, invoke, builtin]
      have hfin : ∀ v, (b.atR a (.inRegion ops (i :: rest) :: k)).finish v = b.atR (a.put o.dst v) (.inRegion ops rest :: k) := fun v => by rw [Frame.finish_atR, ho]; rfl
      have hkk : (b.atR a (.inRegion ops (i :: rest) :: k)).kind = .deferred := hk
      have htr := tryRecover_deferred hkk (c0 :: cs)
      have hro : (b.atR a (.inRegion ops (i :: rest) :: k)).roundOf = none := hb
      refine step_lone_go ?_
      rw [hg]
      cases cpv with
      | none =>
        have e : recoverD (c0 :: cs) = none := by unfold recoverD; simp only [h0, lateMode]
        rw [e] at htr
        have h00 : ({ c0 with mode := lateMode none true } : Frame) = c0 := by rw [show lateMode none true = c0.mode from h0.symm]
        rw [h00]
        simp only [stepG.apply, Sem.runT_eq, hrun, hro, htr, GStep.bare_after, GStep.bare_go, hfin, Option.getD_none, if_true]
      | some v =>
        have e : recoverD (c0 :: cs) = some (v, { c0 with mode := lateMode (some v) true } :: cs) := by unfold recoverD; simp only [h0, lateMode]
        rw [e] at htr
        simp only [stepG.apply, Sem.runT_eq, hrun, hro, htr, GStep.bare_after, GStep.bare_go, hfin, Option.getD_some, if_true]
    · cases hr
  · cases hr

theorem doesL_of_good (hN : NamesOk P) {f : FuncId} {args : List AV} {m : Mem} {pv : Option AV} {c : Cfg} {v : AV} {m' : Mem} (hi : initL P f args m pv = some c) (h : Good P E c (.ret v m')) : DoesL P E f args m pv m' := by
  unfold initL at hi
  split at hi
  · rename_i c0 hi0
    split at hi
    · rename_i t1 hi1
      refine ⟨init_body hN hi0, fun g w cargs cpv fr0 cs h0 hpv hr ha hg => ?_⟩
      obtain ⟨e1, e2, e3, _⟩ := init_rnd hi0
      have hen := CRel.enterK (P := P) true hi0 hr ha hg
      have hcode : ∃ body, c0.todo = [.code 0 body] := by
        unfold init at hi0
        split at hi0
        · split at hi0
          · simp only [Option.some.injEq] at hi0; subst hi0; exact ⟨_, rfl⟩
          · cases hi0
        · cases hi0
      obtain ⟨body, hbody⟩ := hcode
      obtain ⟨f0, t0, st0⟩ := c0
      simp only at hbody e1 e2 e3 hi1 hi
      subst hbody
      obtain ⟨b, a, hfr, h1, h2, h3, h4, hk⟩ := hen
      simp only at h1 h2 h3 h4 hk
      obtain ⟨hsteps, hpl⟩ := toRec_goes (P := P) (b := b) (a := a) (cs := fr0 :: cs) (w := w) 20 _ _ hi1 hk
      have hen2 : Frame.enter P f cargs .deferred = b.atR a (erl [It.code 0 body]) := hfr
      rw [hen2]
      unfold doRec at hi
      simp only at hi
      split at hi
      · rename_i rid ops i sure k
        split at hi
        · rename_i o ho
          have hlt : i < ops.size := by
            rcases Nat.lt_or_ge i ops.size with q | q
            · exact q
            · rw [Array.getElem?_eq_none q] at ho; cases ho
          have hk' : ∀ y ∈ k, It.pl y := fun y hy => hpl y (.tail _ hy)
          cases hb : (isRec o && fits { st0 with rnd := .late } o.dst) with
          | false => rw [hb] at hi; cases hi
          | true =>
            rw [hb] at hi
            simp only [cond_true, Option.some.injEq] at hi
            simp only [Bool.and_eq_true] at hb
            have hstep := step_recover (P := P) (a := a) (k := erl k) (cs := cs) (w := w) (rest := List.range' (i + 1) (ops.size - (i + 1))) (cpv := cpv) h2.1 h2.2 ho hb.1 h0
            have hva : VA g w (pv.getD (.p (.sc .nilIface))) (cpv.getD .nilIface) := by
              cases pv with
              | none => cases cpv with
                | none => exact .p _ _ (.sc _)
                | some _ => exact hpv.elim
              | some u => cases cpv with
                | none => exact hpv.elim
                | some cv => exact hpv
            have hput := h4.put (m' := st0.mem) hb.2 hva (Ext.refl g w) h4.rel h4.fix
            have hcr : CRel P E g c (b.atR (a.put o.dst (cpv.getD .nilIface)) (.inRegion ops (List.range' (i + 1) (ops.size - (i + 1))) :: erl k)) w := by
              subst hi
              exact CRel.mk (c := ⟨f0, .ops rid ops (i + 1) false :: k, put { st0 with rnd := .late } o.dst (pv.getD (.p (.sc .nilIface)))⟩) (nf trivial hk') h1 (by rw [put_rnd]; exact h2) (h3.put (st := { st0 with rnd := .late }) (st' := { st0 with rnd := .late }) (Ext.refl g w) rfl) hput
            obtain ⟨g2, fr2, w2, cv, w3, r1, r2, r3, r4, r5, r6, r7, r8⟩ := h g _ w ({ fr0 with mode := lateMode cpv true } :: cs) hcr
            have hc : c.st.mem = m ∧ c.st.fix = m.length ∧ c.st.rnd = .late := by
              subst hi
              refine ⟨?_, ?_, ?_⟩
              · rw [← e1]
                show (put { st0 with rnd := .late } o.dst _).mem = st0.mem
                unfold Am.put; cases o.dst <;> rfl
              · rw [← e2]
                show (put { st0 with rnd := .late } o.dst _).fix = st0.fix
                unfold Am.put; cases o.dst <;> rfl
              · show (put { st0 with rnd := .late } o.dst _).rnd = .late
                rw [put_rnd]
            obtain ⟨c1, c2, c3⟩ := hc
            rw [c3] at r2
            obtain ⟨⟨r2, r2'⟩, rfl⟩ := r2
            rw [c1] at r6
            rw [c2] at r7 r8
            refine ⟨_, g2, cv, fr2, hsteps.trans (.head ?_ r1), r2, r2', r5, r6, r7, r8⟩
            have he : erl (.ops rid ops i sure :: k) = .inRegion ops (i :: List.range' (i + 1) (ops.size - (i + 1))) :: erl k := by
              simp only [erl, er, range'_head hlt, List.cons_append, List.nil_append]
            rw [he]
            exact hstep
        · cases hi
      · cases hi
    · cases hi
  · cases hi

theorem goes_round {c c' : Cfg} {args : List AV} {m : Mem} {ord : List Nat} {dst : Option Tmp} {v : AV} {m1 : Mem} (h : Am.step P E c = .round args m ord dst c') (hd : DoesR P E args m v m1) :
    ∀ g fr w, CRel P E g c fr w → Goes P E g c fr w { c' with st := back ord dst c'.st v m1 } := by
  intro g fr w hc
  have hs := step_ok hc
  rw [h] at hs
  exact hs v m1 hd

theorem goes_range {c c' : Cfg} {f : FuncId} {args : List AV} {m : Mem} {ord : List Nat} {L : Nat} {v : AV} {m1 m2 : Mem} {pd : Option Code} (h : Am.step P E c = .range f args m ord L c') (hd : Does P E f args m v m1)
    (he : rangeEnd (back ord none c'.st v m1).mem L = some (m2, pd)) : ∀ g fr w, CRel P E g c fr w → Goes P E g c fr w (behind c' m2 pd) := by
  intro g fr w hc
  have hs := step_ok hc
  rw [h] at hs
  exact hs v m1 hd m2 pd he

theorem Good.of_any {c : Cfg} {l : List Cfg} {o : Out} (hg : ∀ g fr w, CRel P E g c fr w → GoesAny P E g c fr w l) (h : ∀ c' ∈ l, Good P E c' o) : Good P E c o := by
  intro g fr w cs hc
  obtain ⟨c', hm, g', fr', w', q1, q2, q3, q4, q5, q6, q7⟩ := hg g fr w hc cs
  cases o with
  | ret v m' =>
    obtain ⟨g2, fr2, w2, cv, w3, r1, r2, r3, r4, r5, r6, r7, r8⟩ := h c' hm g' fr' w' cs q2
    refine ⟨g2, fr2, w2, cv, w3, q1.trans r1, by rw [← q7]; exact r2, r3.trans q5, r4, r5, q3.trans r6, q4.trans ?_, by rw [← q6]; exact r8⟩
    rw [← q6]; exact r7
  | pan v m' =>
    obtain ⟨g2, fr2, w2, cv, r1, r2, r3, r4, r5, r6, r7, r8⟩ := h c' hm g' fr' w' cs q2
    refine ⟨g2, fr2, w2, cv, q1.trans r1, r2, r3.trans q5, r4, r5, q3.trans r6, q4.trans ?_, by rw [← q6]; exact r8⟩
    rw [← q6]; exact r7

theorem goes_fork {c : Cfg} {l : List Cfg} (h : Am.step P E c = .fork l) : ∀ g fr w, CRel P E g c fr w → GoesAny P E g c fr w l := by
  intro g fr w hc
  have hs := step_ok hc
  rw [h] at hs; exact hs

theorem goes_draw {c c' : Cfg} {rid : Nat} {ops : Array Oper} {O : FuncId → List AV → Mem → Option (AV × Mem)} {st' : St} (h : Am.step P E c = .draw rid ops c') (hO : ∀ g args m v m1, O g args m = some (v, m1) → Does P E g args m v m1)
    (hq : ledRun P E c'.f rid O ops c'.st = some (st', true)) : ∀ g fr w, CRel P E g c fr w → Goes P E g c fr w { c' with st := { st' with mks := c'.st.mks, rnd := c'.st.rnd } } := by
  intro g fr w hc
  have hs := step_ok hc
  rw [h] at hs
  exact hs O st' hO hq

def Calls' (P : Program) (E : Env) (l : List Call') : Prop := ∀ q ∈ l, Does P E q.g q.args q.m q.v q.m'

theorem knownAt_does {K : List Call'} (hK : Calls' P E K) {g : FuncId} {args : List AV} {m : Mem} {r : AV × Mem} (h : knownAt K g args m = some r) : Does P E g args m r.1 r.2 := by
  induction K with
  | nil => cases h
  | cons q K ih =>
    simp only [knownAt] at h
    cases hb : (Nat.beq q.g g && (eqAVs args q.args && eqMem m q.m)) with
    | true =>
      rw [hb] at h
      simp only [cond_true, Option.some.injEq] at h
      subst h
      simp only [Bool.and_eq_true] at hb
      obtain ⟨h1, h2, h3⟩ := hb
      have h1 := Nat.eq_of_beq_eq_true h1
      have h2 := eqAVs_eq h2
      have h3 := eqMem_eq h3
      subst h1; subst h2; subst h3
      exact hK q (.head _)
    | false =>
      rw [hb] at h
      exact ih (fun x hx => hK x (.tail _ hx)) h

theorem eqOut_eq {o p : Out} (h : eqOut o p = true) : o = p := by
  cases o with
  | ret v m => cases p with
    | ret u n =>
      simp only [eqOut, Bool.and_eq_true] at h
      rw [eqAV_eq h.1, eqMem_eq h.2]
    | pan u n => cases h
  | pan v m => cases p with
    | ret u n => cases h
    | pan u n =>
      simp only [eqOut, Bool.and_eq_true] at h
      rw [eqAV_eq h.1, eqMem_eq h.2]

theorem agree_all : ∀ {l : List (Option Out)} {o : Out}, agree l = some o → ∀ x ∈ l, x = some o
  | [], _, h, _, _ => by cases h
  | [x], o, h, y, hy => by
    cases hy with
    | head => exact h
    | tail _ hy => cases hy
  | x :: y :: r, o, h, z, hz => by
    simp only [agree] at h
    split at h
    · rename_i o1 p1 h1
      cases hb : eqOut o1 p1 with
      | false => rw [hb] at h; cases h
      | true =>
        rw [hb] at h
        simp only [cond_true, Option.some.injEq] at h
        subst h
        cases hz with
        | head => rw [eqOut_eq hb]
        | tail _ hz => exact agree_all h1 z hz
    · cases h

theorem exec_sound (hN : NamesOk P) {K : List Call'} (hK : Calls' P E K) : ∀ (n : Nat) (c : Cfg) (o : Out), exec P E K n c = some o → Good P E c o
  | 0, _, _, h => by cases h
  | n + 1, c, o, h => by
    unfold exec at h
    split at h
    · rename_i c' hs; exact Good.of_goes (goes_next hs) (exec_sound hN hK n c' o h)
    · rename_i b c' hs
      cases b with
      | false => cases h
      | true => exact Good.of_goes (goes_must hs) (exec_sound hN hK n c' o h)
    · rename_i b y z hs
      have := goes_test hs
      cases b with
      | true => exact Good.of_goes this (exec_sound hN hK n y o h)
      | false => exact Good.of_goes this (exec_sound hN hK n z o h)
    · rename_i g args m ord dst c' hs
      split at h
      · rename_i v m1 hk
        exact Good.of_goes (goes_call hs (knownAt_does hK hk)) (exec_sound hN hK n _ o h)
      · split at h
        · rename_i ci hi
          split at h
          · rename_i v m1 he
            have hd := does_of_good hN hi (exec_sound hN hK n ci _ he)
            exact Good.of_goes (goes_call hs hd) (exec_sound hN hK n _ o h)
          · rename_i u m1 he
            have hd := doesP_of_good hN hi (exec_sound hN hK n ci _ he)
            exact Good.of_goes (goes_thrown hs hd) (exec_sound hN hK n _ o h)
          · cases h
        · cases h
    · rename_i g args m ord pv c' hs
      split at h
      · rename_i ci hi
        split at h
        · rename_i v m1 he
          have hd := doesL_of_good hN hi (exec_sound hN hK n ci _ he)
          exact Good.of_goes (goes_late hs hd) (exec_sound hN hK n _ o h)
        · cases h
      · cases h
    · rename_i args m ord dst c' hs
      split at h
      · rename_i ci hi
        split at h
        · rename_i v m1 he
          have hd := doesR_of_good hi (exec_sound hN hK n ci _ he)
          exact Good.of_goes (goes_round hs hd) (exec_sound hN hK n _ o h)
        · cases h
      · cases h
    · rename_i g args m ord L c' hs
      split at h
      · rename_i ci hi
        split at h
        · rename_i v m1 he
          split at h
          · rename_i m2 pd hend
            have hd := does_of_good hN hi (exec_sound hN hK n ci _ he)
            exact Good.of_goes (goes_range hs hd hend) (exec_sound hN hK n _ o h)
          · cases h
        · cases h
      · cases h
    · rename_i rid ops c' hs
      split at h
      · rename_i st' ok hq
        cases ok with
        | false => cases h
        | true =>
          refine Good.of_goes (goes_draw hs (fun g args m v m1 hO => ?_) hq) (exec_sound hN hK n _ o h)
          split at hO
          · rename_i r hk
            simp only [Option.some.injEq] at hO
            subst hO
            exact knownAt_does hK hk
          · split at hO
            · rename_i ci hi
              split at hO
              · rename_i v' m1' he
                simp only [Option.some.injEq, Prod.mk.injEq] at hO
                obtain ⟨rfl, rfl⟩ := hO
                exact does_of_good hN hi (exec_sound hN hK n ci _ he)
              · cases hO
            · cases hO
      · cases h
    · rename_i l hs
      exact Good.of_any (goes_fork hs) fun c' hc' => exec_sound hN hK n c' o (agree_all h _ (List.mem_map.2 ⟨c', hc', rfl⟩))
    · rename_i o' hs
      simp only [Option.some.injEq] at h; subst h
      exact good_done hs
    · cases h

theorem does_of_known (hN : NamesOk P) {K : List Call'} (hK : Calls' P E K) {n : Nat} {f : FuncId} {args : List AV} {m m' : Mem} {v : AV} (h : execF P E K n f args m = some (.ret v m')) : Does P E f args m v m' := by
  unfold execF at h
  split at h
  · rename_i c hi; exact does_of_good hN hi (exec_sound hN hK n c _ h)
  · cases h

theorem calls_nil : Calls' P E [] := fun _ hq => by cases hq

theorem calls_cons {q : Call'} {K : List Call'} (h : Does P E q.g q.args q.m q.v q.m') (hK : Calls' P E K) : Calls' P E (q :: K) := by
  intro x hx
  cases hx with
  | head => exact h
  | tail _ hx => exact hK x hx

def FinOk (P : Program) (E : Env) (c : Cfg) : Fin → Prop
  | .out o => Good P E c o
  | .at c' => ∀ o, Good P E c' o → Good P E c o

theorem FinOk.of_goes {c c' : Cfg} {r : Fin} (hg : ∀ g fr w, CRel P E g c fr w → Goes P E g c fr w c') (h : FinOk P E c' r) : FinOk P E c r := by
  cases r with
  | out o => exact Good.of_goes hg h
  | «at» c2 => exact fun o ho => Good.of_goes hg (h o ho)

end
end Go.Am
end

section
namespace Go.Am
noncomputable section

abbrev OpT := Program → (Nat → Blk) → Bool → Nat → (Operand → AV) → Oper → Res

def oSlow (P : Program) (rd : Nat → Blk) (wr : Bool) (nid : Nat) (ρ : Operand → AV) (o : Oper) : Res := op1 P rd wr nid ρ o
def oMove (x : Operand) (_ : Program) (_ : Nat → Blk) (_ : Bool) (_ : Nat) (ρ : Operand → AV) (_ : Oper) : Res := some (ρ x, [], true)
def oLoad (t : TypeId) (a : Operand) (P : Program) (rd : Nat → Blk) (_ : Bool) (_ : Nat) (ρ : Operand → AV) (_ : Oper) : Res := okUpd (loadOp P rd t (ρ a))
def oStore (t : TypeId) (a v : Operand) (P : Program) (rd : Nat → Blk) (_ : Bool) (_ : Nat) (ρ : Operand → AV) (_ : Oper) : Res := storeOp P rd t (ρ a) (ρ v)
def oNil (x : Operand) (P : Program) (_ : Nat → Blk) (_ : Bool) (_ : Nat) (ρ : Operand → AV) (o : Oper) : Res := noUpd (nilCheckOp P ρ o (ρ x))
def oFieldAddr (t : TypeId) (x : Operand) (f : Nat) (P : Program) (_ : Nat → Blk) (_ : Bool) (_ : Nat) (ρ : Operand → AV) (_ : Oper) : Res := noUpd (fieldAddrOp P t (ρ x) f)
def oField (t : TypeId) (x : Operand) (f : Nat) (P : Program) (_ : Nat → Blk) (_ : Bool) (_ : Nat) (ρ : Operand → AV) (_ : Oper) : Res := okUpd (fieldOp P t (ρ x) f)
def oIndexAddr (t : TypeId) (x i : Operand) (P : Program) (_ : Nat → Blk) (_ : Bool) (_ : Nat) (ρ : Operand → AV) (_ : Oper) : Res := okUpd (indexAddrOp P t (ρ x) (ρ i))
def oIndex (t : TypeId) (x i : Operand) (P : Program) (_ : Nat → Blk) (_ : Bool) (_ : Nat) (ρ : Operand → AV) (_ : Oper) : Res := okUpd (indexOp P t (ρ x) (ρ i))
def oConvert (s d : TypeId) (x : Operand) (P : Program) (rd : Nat → Blk) (_ : Bool) (nid : Nat) (ρ : Operand → AV) (o : Oper) : Res := convertOp P rd nid ρ o s d (ρ x)

def oBin (op : BinOp) (t : TypeId) (x y : Operand) (P : Program) (_ : Nat → Blk) (_ : Bool) (_ : Nat) (ρ : Operand → AV) (o : Oper) : Res := match nilLit y with
    | true => slNilOp P op t (ρ x)
    | false => match nilPair (ρ x) (ρ y) with
      | true => nilOp P op t (ρ x) (ρ y)
      | false => match samePtr (ρ x) (ρ y) with
        | true => samePtrOp P op t
        | false => okUpd (binOpOp P ρ o op (ρ x) (ρ y))
def oUn (op : UnOp) (x : Operand) (P : Program) (_ : Nat → Blk) (_ : Bool) (_ : Nat) (ρ : Operand → AV) (o : Oper) : Res := okUpd (unOpOp P ρ o op (ρ x))
def oSlice (t : TypeId) (x : Operand) (lo hi mx : Option Operand) (P : Program) (_ : Nat → Blk) (_ : Bool) (_ : Nat) (ρ : Operand → AV) (_ : Oper) : Res := okUpd (sliceOp P ρ t (ρ x) lo hi mx)
def oExtract (x : Operand) (i : Nat) (_ : Program) (_ : Nat → Blk) (_ : Bool) (_ : Nat) (ρ : Operand → AV) (_ : Oper) : Res := match ρ x with
    | .tup vs => noUpd vs[i]?
    | _ => none
def oBuild (t : TypeId) (parts : Array (Nat × Operand)) (P : Program) (_ : Nat → Blk) (_ : Bool) (_ : Nat) (ρ : Operand → AV) (_ : Oper) : Res := okUpd (buildOp P t (parts.toList.map fun q => (q.1, ρ q.2)))
def oPick (c a b : Operand) (_ : Program) (_ : Nat → Blk) (_ : Bool) (_ : Nat) (ρ : Operand → AV) (_ : Oper) : Res := match ρ c with
    | .p (.sc (.bool t)) => some (cond t (ρ a) (ρ b), [], true)
    | _ => none

def opFn : Op → OpT
  | .binOp op t x y _ => oBin op t x y
  | .unOp op _ x => oUn op x
  | .slice t x lo hi mx => oSlice t x lo hi mx
  | .extract x i => oExtract x i
  | .build t parts => oBuild t parts
  | .pick c a b => oPick c a b
  | .move x => oMove x
  | .assign x => oMove x
  | .load t a => oLoad t a
  | .store t a v => oStore t a v
  | .nilCheck x => oNil x
  | .fieldAddr t x f => oFieldAddr t x f
  | .field t x f => oField t x f
  | .indexAddr t x i => oIndexAddr t x i
  | .index t x i => oIndex t x i
  | .convert s d x => oConvert s d x
  | _ => oSlow

def opF (P : Program) (rd : Nat → Blk) (wr : Bool) (nid : Nat) (ρ : Operand → AV) (o : Oper) : Res := opFn o.op P rd wr nid ρ o

theorem opF_eq (P : Program) (rd : Nat → Blk) (wr : Bool) (nid : Nat) (ρ : Operand → AV) (o : Oper) : opF P rd wr nid ρ o = op1 P rd wr nid ρ o := by
  obtain ⟨dst, op, type, pos, after, guard⟩ := o
  cases op <;> rfl

def lookF (tm : Tms) (i : Nat) : AV := List.rec (motive := fun _ => AV) .junk (fun p _ ih => Bool.rec (motive := fun _ => AV) ih p.2 (Nat.beq p.1 i)) tm

theorem lookF_eq : ∀ (tm : Tms) (i : Nat), lookF tm i = look tm i
  | [], _ => rfl
  | (k, v) :: r, i => by
    show Bool.rec (motive := fun _ => AV) (lookF r i) v (Nat.beq k i) = cond (Nat.beq k i) v (look r i)
    rw [lookF_eq r i]
    cases Nat.beq k i <;> rfl

def evTmp (t : Nat) (_ : Env) (tm : Tms) : AV := lookF tm t
def evSlow (x : Operand) (E : Env) (tm : Tms) : AV := ev E tm x
def evFn : Operand → Env → Tms → AV
  | .tmp t => evTmp t
  | .const v => fun _ _ => ofV v
  | x => evSlow x

def evF (E : Env) (tm : Tms) (x : Operand) : AV := evFn x E tm

theorem evF_eq (E : Env) (tm : Tms) : evF E tm = ev E tm := by
  funext x
  cases x with
  | tmp t => exact lookF_eq tm t
  | const v => rfl
  | global g => rfl
  | func f => rfl

def isCall : Op → Bool
  | .call _ | .defer _ | .panic _ => true
  | _ => false

def makesF : Op → Bool
  | .alloc _ | .box .. | .buildSlice .. | .makeSlice .. | .convert .. | .makeMap .. | .range .. => true
  | .call c => makes ⟨none, .call c, 0, "", #[], none⟩
  | _ => false

def opAt (ops : Array Oper) (i : Nat) : Option Oper := List.rec (motive := fun _ => Nat → Option Oper) (fun _ => none) (fun a _ ih i => Nat.rec (motive := fun _ => Option Oper) (some a) (fun j _ => ih j) i) ops.toList i

theorem opAt_eq (ops : Array Oper) (i : Nat) : opAt ops i = ops[i]? := by
  have : ∀ (l : List Oper) (i : Nat), List.rec (motive := fun _ => Nat → Option Oper) (fun _ => none) (fun a _ ih i => Nat.rec (motive := fun _ => Option Oper) (some a) (fun j _ => ih j) i) l i = l[i]? := by
    intro l
    induction l with
    | nil => intro i; rfl
    | cons a l ih =>
      intro i
      cases i with
      | zero => rfl
      | succ i => exact (ih i).trans (by simp)
  rw [opAt, this]
  simp

def outFn : Res → Option Tmp → FuncId → List It → Tms → Nat → Mem → Nat → List Mark → Rnd → Ev
  | none => fun _ _ _ _ _ _ _ _ _ => .fail
  | some (v, [], ok) => fun dst f k tm nt mem fix mks rnd => Option.rec (motive := fun _ => Ev) (.must (ok && true) ⟨f, k, ⟨tm, nt, mem, fix, mks, rnd⟩⟩) (fun d => .must (ok && Nat.blt d nt) ⟨f, k, ⟨(d, v) :: tm, nt, mem, fix, mks, rnd⟩⟩) dst
  | some (v, us, ok) => fun dst f k tm nt mem fix mks rnd => Option.rec (motive := fun _ => Ev) (.must (ok && true) ⟨f, k, ⟨tm, nt, apply mem us, fix, mks, rnd⟩⟩) (fun d => .must (ok && Nat.blt d nt) ⟨f, k, ⟨(d, v) :: tm, nt, apply mem us, fix, mks, rnd⟩⟩) dst

abbrev StT (α : Type) := Program → Env → FuncId → Tms → Nat → Mem → Nat → List Mark → Rnd → α

def slowly (todo : List It) : StT Ev := fun P E f tm nt mem fix mks rnd => step P E ⟨f, todo, ⟨tm, nt, mem, fix, mks, rnd⟩⟩

def doPlain (o : Oper) (rid : Nat) (ops : Array Oper) (i : Nat) (_ : Bool) (k : List It) : StT Ev := fun P E f tm nt mem fix mks rnd =>
  outFn (opF P (fun i => mem.getD i .dead) (E.wr f (o.dst.getD 0)) mem.length (evF E tm) o) o.dst f (.ops rid ops (i + 1) false :: k) tm nt mem fix mks rnd
def doSlow (_ : Oper) (rid : Nat) (ops : Array Oper) (i : Nat) (sure : Bool) (k : List It) : StT Ev := slowly (.ops rid ops i sure :: k)

abbrev DoT := Oper → Nat → Array Oper → Nat → Bool → List It → StT Ev
def pick3 : Bool → Bool → Option (Nat × Bool) → DoT
  | false, false, none => doPlain
  | _, _, _ => doSlow

def opsFn : Option Oper → Nat → Array Oper → Nat → Bool → List It → StT Ev
  | none => fun _ _ _ _ k _ _ f tm nt mem fix mks rnd => .next ⟨f, k, ⟨tm, nt, mem, fix, mks, rnd⟩⟩
  | some o => pick3 (isCall o.op) (makesF o.op) o.guard o

def cdSlow (i : Nat) (c : Code) (k : List It) : StT Ev := slowly (.code i c :: k)
def cdSkip (_ : Nat) (k : List It) : StT Ev := fun _ _ f tm nt mem fix mks rnd => .next ⟨f, k, ⟨tm, nt, mem, fix, mks, rnd⟩⟩
def cdReg (id : Nat) (ops : Array Oper) (_ : Nat) (k : List It) : StT Ev := fun _ _ f tm nt mem fix mks rnd => .next ⟨f, .ops id ops 0 false :: k, ⟨tm, nt, mem, fix, mks, rnd⟩⟩
def cdSeq (a b : Code) (i : Nat) (k : List It) : StT Ev := fun _ _ f tm nt mem fix mks rnd => .next ⟨f, .code i a :: .code (i + nodes a) b :: k, ⟨tm, nt, mem, fix, mks, rnd⟩⟩
def cdBlock (id : Nat) (b : Code) (i : Nat) (k : List It) : StT Ev := fun _ _ f tm nt mem fix mks rnd => .next ⟨f, .code i b :: .inBlock id :: k, ⟨tm, nt, mem, fix, mks, rnd⟩⟩
def condFn : AV → Cfg → Cfg → Ev
  | .p (.sc (.bool t)) => fun y z => .test t y z
  | _ => fun _ _ => .fail
def cdCond (x : Operand) (a b : Code) (i : Nat) (k : List It) : StT Ev := fun _ E f tm nt mem fix mks rnd =>
  condFn (evF E tm x) ⟨f, .code (i + 1) a :: forgets (E.keep f (2 * i)) k, ⟨tm, nt, mem, fix, mks, rnd⟩⟩ ⟨f, .code (i + 1 + nodes a) b :: forgets (E.keep f (2 * i)) k, ⟨tm, nt, mem, fix, mks, rnd⟩⟩
def cdExit (id : Nat) (i : Nat) (k : List It) : StT Ev := fun P E f tm nt mem fix mks rnd => Option.rec (motive := fun _ => Ev) (slowly (.code i (.exit id) :: k) P E f tm nt mem fix mks rnd) (fun k' => .next ⟨f, k', ⟨tm, nt, mem, fix, mks, rnd⟩⟩) (exitIn id k)
def codeFn : Code → Nat → List It → StT Ev
  | .block id b => cdBlock id b
  | .cond x a b => cdCond x a b
  | .exit id => cdExit id
  | .skip => cdSkip
  | .seq a b => cdSeq a b
  | .region id ops false => cdReg id ops
  | c => fun i k => cdSlow i c k

def itNext (k : List It) : StT Ev := fun _ _ f tm nt mem fix mks rnd => .next ⟨f, k, ⟨tm, nt, mem, fix, mks, rnd⟩⟩
def itFn : It → List It → StT Ev
  | .inBlock _ => itNext
  | .inScope _ => itNext
  | .ops rid ops i sure => fun k => opsFn (opAt ops i) rid ops i sure k
  | .code i c => fun k => codeFn c i k
  | x => fun k => slowly (x :: k)

def todoFn : List It → StT Ev
  | [] => slowly []
  | x :: k => itFn x k

def stepX (P : Program) (E : Env) (c : Cfg) : Ev := Cfg.rec (motive := fun _ => Ev) (fun f todo st => St.rec (motive := fun _ => Ev) (fun tm nt mem fix mks rnd => todoFn todo P E f tm nt mem fix mks rnd) st) c

theorem makesF_eq (o : Oper) : makesF o.op = makes o := by
  obtain ⟨dst, op, type, pos, after, guard⟩ := o
  cases op <;> rfl

theorem stepX_eq (P : Program) (E : Env) (c : Cfg) : stepX P E c = step P E c := by
  obtain ⟨f, todo, tm, nt, mem, fix, mks, rnd⟩ := c
  cases todo with
  | nil => rfl
  | cons x k =>
    cases x with
    | code i c =>
      cases c with
      | region id ops b => cases b <;> rfl
      | cond x a b =>
        show condFn (evF E tm x) _ _ = _
        rw [evF_eq]
        simp only [step]
        split
        · rename_i t ht; rw [ht]; rfl
        · rename_i hne
          generalize ev E tm x = v at hne
          cases v with
          | p v => cases v with
            | sc v => cases v with
              | bool t => exact absurd rfl (hne t)
              | _ => rfl
            | _ => rfl
          | _ => rfl
      | exit id =>
        show Option.rec (motive := fun _ => Ev) _ _ (exitIn id k) = _
        cases he : exitIn id k with
        | none => rfl
        | some k' => simp only [step, he]
      | _ => rfl
    | ops rid ops i sure =>
      show opsFn (opAt ops i) rid ops i sure k P E f tm nt mem fix mks rnd = _
      rw [opAt_eq]
      cases ho : ops[i]? with
      | none => simp only [opsFn, step, ho]
      | some o =>
        show pick3 (isCall o.op) (makesF o.op) o.guard o rid ops i sure k P E f tm nt mem fix mks rnd = _
        cases h1 : isCall o.op with
        | true => rfl
        | false =>
          cases h2 : makesF o.op with
          | true => rfl
          | false =>
            cases h3 : o.guard with
            | some q => rfl
            | none =>
              rw [makesF_eq] at h2
              have ht : target (ev E tm) o = none := by
                obtain ⟨dst, op, type, pos, after, guard⟩ := o
                cases op <;> first | rfl | cases h1
              have hy : targetY (ev E tm) o = none := by
                obtain ⟨dst, op, type, pos, after, guard⟩ := o
                cases op <;> first | rfl | cases h1
              show outFn (opF P (fun i => mem.getD i .dead) (E.wr f (o.dst.getD 0)) mem.length (evF E tm) o) o.dst f (.ops rid ops (i + 1) false :: k) tm nt mem fix mks rnd = _
              rw [opF_eq, evF_eq]
              have hr : reserve o mem = mem := by simp [reserve, h2]
              simp only [step, ho, wants, h3, doOp, ht, hy, hr]
              cases hop : op1 P (fun i => mem.getD i .dead) (E.wr f (o.dst.getD 0)) mem.length (ev E tm) o with
              | none =>
                clear hop hr hy ht h3 h2 ho
                obtain ⟨dst, op, type, pos, after, guard⟩ := o
                cases op <;> first | rfl | cases h1
              | some r =>
                obtain ⟨v, us, ok⟩ := r
                cases us with
                | nil => cases hd : o.dst <;> simp [outFn, fits, put, apply]
                | cons u us => cases hd : o.dst <;> simp [outFn, fits, put]
    | _ => rfl

abbrev RunT := Program → Env → List Call' → (Cfg → Option Out) → Option Out

def rNext (c : Cfg) : RunT := fun _ _ _ ih => ih c
def rMust (b : Bool) (c : Cfg) : RunT := fun _ _ _ ih => Bool.rec (motive := fun _ => Option Out) none (ih c) b
def rTest (b : Bool) (y z : Cfg) : RunT := fun _ _ _ ih => Bool.rec (motive := fun _ => Option Out) (ih z) (ih y) b
def rCall (g : FuncId) (args : List AV) (m : Mem) (ord : List Nat) (dst : Option Tmp) (c : Cfg) : RunT := fun P _ K ih => match knownAt K g args m with
      | some (v, m1) => ih { c with st := back ord dst c.st v m1 }
      | none => match init P g args m with
        | some ci => match ih ci with
          | some (.ret v m1) => ih { c with st := back ord dst c.st v m1 }
          | some (.pan u m1) => ih (thrownAt ord c u m1)
          | none => none
        | none => none
def rLate (g : FuncId) (args : List AV) (m : Mem) (ord : List Nat) (pv : Option AV) (c : Cfg) : RunT := fun P _ _ ih => match initL P g args m pv with
      | some ci => match ih ci with
        | some (.ret _ m1) => ih { c with st := back ord none c.st (.tup []) m1 }
        | _ => none
      | none => none
def rRound (args : List AV) (m : Mem) (ord : List Nat) (dst : Option Tmp) (c : Cfg) : RunT := fun _ _ _ ih => match initR args m with
      | some ci => match ih ci with
        | some (.ret v m1) => ih { c with st := back ord dst c.st v m1 }
        | _ => none
      | none => none
def rRange (g : FuncId) (args : List AV) (m : Mem) (ord : List Nat) (L : Nat) (c : Cfg) : RunT := fun P _ _ ih => match init P g args m with
      | some ci => match ih ci with
        | some (.ret v m1) => match rangeEnd (back ord none c.st v m1).mem L with
          | some (m2, pd) => ih (behind c m2 pd)
          | none => none
        | _ => none
      | none => none
def rDraw (rid : Nat) (ops : Array Oper) (c : Cfg) : RunT := fun P E K ih => match ledRun P E c.f rid (fun g args m => match knownAt K g args m with
          | some r => some r
          | none => match init P g args m with
            | some ci => match ih ci with
              | some (.ret v m1) => some (v, m1)
              | _ => none
            | none => none) ops c.st with
      | some (st, ok) => cond ok (ih { c with st := { st with mks := c.st.mks, rnd := c.st.rnd } }) none
      | none => none
def rFork (l : List Cfg) : RunT := fun _ _ _ ih => agree (l.map ih)
def rDone (o : Out) : RunT := fun _ _ _ _ => some o
def rFail : RunT := fun _ _ _ _ => none

def evnFn : Ev → RunT
  | .next c => rNext c
  | .must b c => rMust b c
  | .test b y z => rTest b y z
  | .call g args m ord dst c => rCall g args m ord dst c
  | .round args m ord dst c => rRound args m ord dst c
  | .range g args m ord L c => rRange g args m ord L c
  | .draw rid ops c => rDraw rid ops c
  | .fork l => rFork l
  | .late g args m ord pv c => rLate g args m ord pv c
  | .done o => rDone o
  | .fail => rFail

def execX (P : Program) (E : Env) (K : List Call') (n : Nat) : Cfg → Option Out :=
  Nat.rec (motive := fun _ => Cfg → Option Out) (fun _ => none) (fun _ ih c => evnFn (stepX P E c) P E K ih) n

theorem execX_eq (P : Program) (E : Env) (K : List Call') : ∀ n, execX P E K n = exec P E K n
  | 0 => by funext c; rfl
  | n + 1 => by
    funext c
    show evnFn (stepX P E c) P E K (execX P E K n) = exec P E K (n + 1) c
    rw [stepX_eq, execX_eq P E K n]
    unfold exec
    cases step P E c with
    | must b c => cases b <;> rfl
    | test b y z => cases b <;> rfl
    | _ => rfl

def execXF (P : Program) (E : Env) (K : List Call') (n : Nat) (g : FuncId) (args : List AV) (m : Mem) : Option Out :=
  match init P g args m with
  | some c => execX P E K n c
  | none => none

theorem execXF_eq (P : Program) (E : Env) (K : List Call') (n : Nat) (g : FuncId) (args : List AV) (m : Mem) : execXF P E K n g args m = execF P E K n g args m := by
  unfold execXF execF
  rw [execX_eq]
  cases init P g args m <;> rfl

theorem does_fast {P : Program} {E : Env} (hN : NamesOk P) {K : List Call'} (hK : Calls' P E K) {n : Nat} {f : FuncId} {args : List AV} {m m' : Mem} {v : AV} (h : execXF P E K n f args m = some (.ret v m')) : Does P E f args m v m' :=
  does_of_known hN hK (n := n) (by rw [← execXF_eq]; exact h)

end
end Go.Am
end

section
namespace Go.Am
open Go.RowKit

inductive Tree where
  | out (o : Out)
  | at (c : Cfg)
  | must (b : Bool) (t : Tree)
  | need (p : Prop) (t : Tree)
  | test (b : Bool) (y z : Tree)
  | call (q : Call') (t : Tree)
  | stuck

structure Orc where
  call : FuncId → List AV → Mem → Option (AV × Mem)
  led : FuncId → List AV → Mem → Option (AV × Mem) := fun _ _ _ => none
  cut : FuncId → Nat → Bool
  fork : FuncId → Nat → Nat → Bool
  hard : FuncId → Nat → Nat → Bool
  shape : FuncId → Nat → Nat → Option (AV → AV)

def place (c : Cfg) : Nat × Nat := match c.todo with
  | .code i _ :: _ => (0, i)
  | .ops rid _ k _ :: _ => (rid + 1, k)
  | _ => (0, 0)

def cutAt (O : Orc) (c : Cfg) : Bool := match c.todo with
  | .inLoop i _ :: _ => O.cut c.f i
  | .code i (.loop _) :: _ => O.cut c.f i
  | _ => false

def destOf (c : Cfg) : Option Tmp := match c.todo with
  | .ops _ ops k _ :: _ => match ops[k]? with
    | some o => o.dst
    | none => none
  | _ => none

def inOps (c : Cfg) : Bool := match c.todo with
  | .ops .. :: _ => true
  | _ => false

def reshape (sh : AV → AV) (d : Tmp) (c : Cfg) : Cfg := { c with st := put c.st (some d) (sh (look c.st.tm d)) }

def shaped (sh : Option (AV → AV)) (d : Option Tmp) (c : Cfg) (k : Cfg → Tree) : Tree :=
  match sh, d, inOps c with
  | some sh, some d, true => .need (look c.st.tm d = sh (look c.st.tm d)) (k (reshape sh d c))
  | _, _, _ => k c

def hardly (h b : Bool) (t : Tree) : Tree :=
  match h with
  | true => .must b t
  | false => match b with
    | true => t
    | false => .stuck

inductive Sc where
  | fork (y z : Sc)
  | yes (s : Sc)
  | no (s : Sc)
  | lit (s : Sc)
  | ans (g : FuncId) (v : AV) (m : Mem) (s : Sc)
  | led (f rid : Nat) (L : FuncId → List AV → Mem → Option (AV × Mem)) (s : Sc)
  | fin

def takeAns (g : FuncId) : Sc → Option (AV × Mem × Sc)
  | .ans h v m s => cond (Nat.beq h g) (some (v, m, s)) none
  | _ => none

def takeLed (f rid : Nat) : Sc → Option ((FuncId → List AV → Mem → Option (AV × Mem)) × Sc)
  | .led f' rid' L s => cond (Nat.beq f f' && Nat.beq rid rid') (some (L, s)) none
  | _ => none

def askOne (E : Env) (O : FuncId → List AV → Mem → Option (AV × Mem)) (o : Oper) (st : St) : List Call' :=
  match target (ev E st.tm) o with
  | some (g, args) => match O g (renL (idx (close st.mem 0 args)) args) (pack st.mem (close st.mem 0 args)) with
    | some (v, m1) => [⟨g, renL (idx (close st.mem 0 args)) args, pack st.mem (close st.mem 0 args), v, m1⟩]
    | none => []
  | none => []

def askGo (P : Program) (E : Env) (f rid : Nat) (O : FuncId → List AV → Mem → Option (AV × Mem)) (ops : Array Oper) : List Oper → Nat → St → List Call'
  | [], _, _ => []
  | o :: r, nx, st =>
    let skip := askGo P E f rid O ops r nx (put st o.dst (.tup []))
    let doIt := askOne E O o st ++ match ledOne P E f rid O nx o st with
      | some (d, nx1, _) => askGo P E f rid O ops r nx1 (put { st with mem := apply st.mem d.us } o.dst d.v)
      | none => []
    match wants ops st.tm o with
    | .yes => doIt
    | .no => skip
    | .ask _ b want => match b == want with
      | true => doIt
      | false => skip
    | .lost => []

def asked (P : Program) (E : Env) (f rid : Nat) (O : FuncId → List AV → Mem → Option (AV × Mem)) (ops : Array Oper) (st : St) : List Call' :=
  askGo P E f rid O ops (ops.toList.take (openOps ops)) st.mem.length { st with mem := st.mem ++ frees (60 + ops.size) }

def callsT : List Call' → Tree → Tree
  | [], t => t
  | q :: r, t => .call q (callsT r t)

def grow (P : Program) (E : Env) (O : Orc) : Nat → Bool → Cfg → Sc → (Out → Sc → Tree) → Tree
  | 0, _, _, _, _ => .stuck
  | n + 1, top, c, s, K => match cutAt O c with
    | true => match top, step P E c with
      | true, .next c' => .at c'
      | _, _ => .stuck
    | false => match step P E c with
      | .next c' => grow P E O n top c' s K
      | .must b c' =>
        hardly (O.hard c.f (place c).1 (place c).2) b (shaped (O.shape c.f (place c).1 (place c).2) (destOf c) c' fun c => grow P E O n top c s K)
      | .test b y z => match O.fork c.f (place c).1 (place c).2 with
        | true => match s with
          | .fork s s' => .test b (grow P E O n top y s K) (grow P E O n top z s' K)
          | .yes s => .must b (grow P E O n top y s K)
          | .no s => .must (!b) (grow P E O n top z s K)
          | .lit s => match b with
            | true => grow P E O n top y s K
            | false => grow P E O n top z s K
          | s => .test b (grow P E O n top y s K) (grow P E O n top z s K)
        | false => match b with
          | true => grow P E O n top y s K
          | false => grow P E O n top z s K
      | .call g args m ord dst c' => match takeAns g s with
       | some (v, m1, s) => .call ⟨g, args, m, v, m1⟩ (shaped (O.shape c.f (place c).1 (place c).2) (destOf c) { c' with st := back ord dst c'.st v m1 } fun c => grow P E O n top c s K)
       | none => match O.call g args m with
        | some (v, m1) => .call ⟨g, args, m, v, m1⟩ (shaped (O.shape c.f (place c).1 (place c).2) (destOf c) { c' with st := back ord dst c'.st v m1 } fun c => grow P E O n top c s K)
        | none => match init P g args m with
          | some ci => grow P E O n false ci s fun o s => match o with
            | .ret v m1 => grow P E O n top { c' with st := back ord dst c'.st v m1 } s K
            | .pan u m1 => grow P E O n top (thrownAt ord c' u m1) s K
          | none => .stuck
      | .late g args m ord pv c' => match initL P g args m pv with
        | some ci => grow P E O n false ci s fun o s => match o with
          | .ret _ m1 => grow P E O n top { c' with st := back ord none c'.st (.tup []) m1 } s K
          | .pan .. => .stuck
        | none => .stuck
      | .round args m ord dst c' => match initR args m with
        | some ci => grow P E O n false ci s fun o s => match o with
          | .ret v m1 => grow P E O n top { c' with st := back ord dst c'.st v m1 } s K
          | .pan .. => .stuck
        | none => .stuck
      | .range g args m ord L c' => match O.call g args m with
       | some (v, m1) => match rangeEnd (back ord none c'.st v m1).mem L with
          | some (m2, pd) => .call ⟨g, args, m, v, m1⟩ (grow P E O n top (behind c' m2 pd) s K)
          | none => .stuck
       | none => match init P g args m with
        | some ci => grow P E O n false ci s fun o s => match o with
          | .ret v m1 => match rangeEnd (back ord none c'.st v m1).mem L with
            | some (m2, pd) => grow P E O n top (behind c' m2 pd) s K
            | none => .stuck
          | .pan .. => .stuck
        | none => .stuck
      | .draw rid ops c' => match takeLed c'.f rid s with
       | some (L, s) => match ledRun P E c'.f rid L ops c'.st with
        | some (st, ok) => callsT (asked P E c'.f rid L ops c'.st) (hardly (O.hard c.f (place c).1 (place c).2) ok (grow P E O n top { c' with st := { st with mks := c'.st.mks, rnd := c'.st.rnd } } s K))
        | none => .stuck
       | none => match ledRun P E c'.f rid O.led ops c'.st with
        | some (st, ok) => callsT (asked P E c'.f rid O.led ops c'.st) (hardly (O.hard c.f (place c).1 (place c).2) ok (grow P E O n top { c' with st := { st with mks := c'.st.mks, rnd := c'.st.rnd } } s K))
        | none => .stuck
      | .done o => K o s
      | _ => .stuck

def Tree.ok (P : Program) (E : Env) (o : Out) : Tree → Prop
  | .out o' => o' = o
  | .at c => Good P E c o
  | .must b t => b = true ∧ t.ok P E o
  | .need p t => p ∧ t.ok P E o
  | .test b y z => (b = true → y.ok P E o) ∧ (b = false → z.ok P E o)
  | .call q t => Does P E q.g q.args q.m q.v q.m' ∧ t.ok P E o
  | .stuck => False

section
variable {P : Program} {E : Env}

theorem reshape_ok {sh : AV → AV} {d : Tmp} {c : Cfg} {o : Out} (hin : inOps c = true) (h : look c.st.tm d = sh (look c.st.tm d)) (hg : Good P E (reshape sh d c) o) : Good P E c o := by
  intro g fr w cs hc
  have hc' : CRel P E g (reshape sh d c) fr w := by
    obtain ⟨f, todo, st⟩ := c
    cases todo with
    | nil => cases hin
    | cons x k =>
      cases x with
      | ops rid ops i sure =>
        obtain ⟨b, a, q1, q2, q3, q4, q5, q6⟩ := hc
        exact ⟨b, a, q1, q2, q3, q4, q5.known (h ▸ q5.tm d), q6⟩
      | _ => cases hin
  exact hg g fr w cs hc'

theorem hardly_ok {h b : Bool} {t : Tree} {o : Out} (k : (hardly h b t).ok P E o) : b = true ∧ t.ok P E o := by
  cases h with
  | true => exact k
  | false => cases b with
    | true => exact ⟨rfl, k⟩
    | false => exact k.elim

def Tells (P : Program) (E : Env) (top : Bool) (c : Cfg) (K : Out → Sc → Tree) (o : Out) : Prop := (∃ o1 s1, Good P E c o1 ∧ (K o1 s1).ok P E o) ∨ (top = true ∧ Good P E c o)

theorem Tells.of_goes {top : Bool} {c c' : Cfg} {K : Out → Sc → Tree} {o : Out} (hg : ∀ g fr w, CRel P E g c fr w → Goes P E g c fr w c') (h : Tells P E top c' K o) : Tells P E top c K o := by
  rcases h with ⟨o1, s1, h1, h2⟩ | ⟨h1, h2⟩
  · exact .inl ⟨o1, s1, Good.of_goes hg h1, h2⟩
  · exact .inr ⟨h1, Good.of_goes hg h2⟩

theorem shaped_tells {top : Bool} {sh : Option (AV → AV)} {d : Option Tmp} {c : Cfg} {k : Cfg → Tree} {K : Out → Sc → Tree} {o : Out} (hk : ∀ c, (k c).ok P E o → Tells P E top c K o) (h : (shaped sh d c k).ok P E o) : Tells P E top c K o := by
  unfold shaped at h
  split at h
  · rename_i hin
    rcases hk _ h.2 with ⟨o1, s1, h1, h2⟩ | ⟨h1, h2⟩
    · exact .inl ⟨o1, s1, reshape_ok hin h.1 h1, h2⟩
    · exact .inr ⟨h1, reshape_ok hin h.1 h2⟩
  · exact hk c h

def Right (P : Program) (E : Env) (call : FuncId → List AV → Mem → Option (AV × Mem)) : Prop := ∀ g args m v m1, call g args m = some (v, m1) → Does P E g args m v m1

theorem callsT_ok {t : Tree} {o : Out} : ∀ {l : List Call'}, (callsT l t).ok P E o → Calls' P E l ∧ t.ok P E o
  | [], h => ⟨fun _ hq => (by cases hq), h⟩
  | q :: l, h => ⟨fun q' hq => by
      cases hq with
      | head => exact h.1
      | tail _ hq => exact (callsT_ok (l := l) h.2).1 q' hq, (callsT_ok (l := l) h.2).2⟩

open Classical in
noncomputable def only (O : FuncId → List AV → Mem → Option (AV × Mem)) (l : List Call') (g : FuncId) (args : List AV) (m : Mem) : Option (AV × Mem) :=
  if ∃ q ∈ l, q.g = g ∧ q.args = args ∧ q.m = m then O g args m else none

theorem only_of {O : FuncId → List AV → Mem → Option (AV × Mem)} {l : List Call'} {g : FuncId} {args : List AV} {m : Mem} (h : ∃ q ∈ l, q.g = g ∧ q.args = args ∧ q.m = m) : only O l g args m = O g args m := by
  unfold only; rw [if_pos h]

theorem askOne_same0 {f rid : Nat} {O O' : FuncId → List AV → Mem → Option (AV × Mem)} {nx : Nat} {o : Oper} {st : St} (h : ∀ q ∈ askOne E O o st, O' q.g q.args q.m = O q.g q.args q.m) {r : Did × Nat × Bool} (hr : ledOne0 P E f rid O nx o st = some r) : ledOne0 P E f rid O' nx o st = some r := by
  unfold ledOne0 at hr ⊢
  unfold askOne at h
  cases ht : target (ev E st.tm) o with
  | none => simp only [ht] at hr ⊢; exact hr
  | some ga =>
    obtain ⟨g, args⟩ := ga
    simp only [ht] at hr h ⊢
    cases hO : O g (renL (idx (close st.mem 0 args)) args) (pack st.mem (close st.mem 0 args)) with
    | none => simp only [hO] at hr; cases hr
    | some vm =>
      obtain ⟨v, m1⟩ := vm
      simp only [hO] at h hr
      have := h _ (.head _)
      simp only at this
      rw [this, hO]
      exact hr

theorem askOne_same {f rid : Nat} {O O' : FuncId → List AV → Mem → Option (AV × Mem)} {nx : Nat} {o : Oper} {st : St} (h : ∀ q ∈ askOne E O o st, O' q.g q.args q.m = O q.g q.args q.m) {r : Did × Nat × Bool} (hr : ledOne P E f rid O nx o st = some r) : ledOne P E f rid O' nx o st = some r := by
  unfold ledOne at hr ⊢
  cases hl : ledOne0 P E f rid O nx o st with
  | none =>
    rw [hl] at hr
    unfold tellV at hr
    split at hr <;> cases hr
  | some x =>
    rw [askOne_same0 h hl]
    rw [hl] at hr
    exact hr

theorem askGo_same {f rid : Nat} {O O' : FuncId → List AV → Mem → Option (AV × Mem)} {ops : Array Oper} : ∀ (l : List Oper) (nx : Nat) (st : St) (r : St × Nat × List Did × Bool), (∀ q ∈ askGo P E f rid O ops l nx st, O' q.g q.args q.m = O q.g q.args q.m) → ledGo P E f rid O ops l nx st = some r → ledGo P E f rid O' ops l nx st = some r
  | [], _, _, _, _, h => h
  | o :: l, nx, st, r, ha, h => by
    unfold ledGo at h ⊢
    unfold askGo at ha
    have hskip : ∀ r, (∀ q ∈ askGo P E f rid O ops l nx (put st o.dst (.tup [])), O' q.g q.args q.m = O q.g q.args q.m) →
        (match ledGo P E f rid O ops l nx (put st o.dst (.tup [])) with
          | some (st', nx', ds, ok) => some (st', nx', (⟨.tup [], [], [], fun _ _ => false⟩ : Did) :: ds, fits st o.dst && ok)
          | none => none) = some r →
        (match ledGo P E f rid O' ops l nx (put st o.dst (.tup [])) with
          | some (st', nx', ds, ok) => some (st', nx', (⟨.tup [], [], [], fun _ _ => false⟩ : Did) :: ds, fits st o.dst && ok)
          | none => none) = some r := by
      intro r hq hr
      cases hg : ledGo P E f rid O ops l nx (put st o.dst (.tup [])) with
      | none => rw [hg] at hr; cases hr
      | some x => rw [askGo_same l nx _ x hq hg]; rw [hg] at hr; exact hr
    have hdo : ∀ r, (∀ q ∈ askOne E O o st ++ (match ledOne P E f rid O nx o st with
          | some (d, nx1, _) => askGo P E f rid O ops l nx1 (put { st with mem := apply st.mem d.us } o.dst d.v)
          | none => []), O' q.g q.args q.m = O q.g q.args q.m) →
        (match ledOne P E f rid O nx o st with
          | some (d, nx1, ok) => match ledGo P E f rid O ops l nx1 (put { st with mem := apply st.mem d.us } o.dst d.v) with
            | some (st', nx', ds, ok') => some (st', nx', d :: ds, ok && (fits st o.dst && ok'))
            | none => none
          | none => none) = some r →
        (match ledOne P E f rid O' nx o st with
          | some (d, nx1, ok) => match ledGo P E f rid O' ops l nx1 (put { st with mem := apply st.mem d.us } o.dst d.v) with
            | some (st', nx', ds, ok') => some (st', nx', d :: ds, ok && (fits st o.dst && ok'))
            | none => none
          | none => none) = some r := by
      intro r hq hr
      cases h1 : ledOne P E f rid O nx o st with
      | none => rw [h1] at hr; cases hr
      | some x =>
        obtain ⟨d, nx1, ok⟩ := x
        rw [askOne_same (fun q hm => hq q (List.mem_append.2 (.inl hm))) h1]
        rw [h1] at hr hq
        dsimp only at hr hq ⊢
        cases hg : ledGo P E f rid O ops l nx1 (put { st with mem := apply st.mem d.us } o.dst d.v) with
        | none => rw [hg] at hr; cases hr
        | some y => rw [askGo_same l nx1 _ y (fun q hm => hq q (List.mem_append.2 (.inr hm))) hg]; rw [hg] at hr; exact hr
    dsimp only at h ha ⊢
    cases hw : wants ops st.tm o with
    | yes => simp only [hw] at h ha ⊢; exact hdo r ha h
    | no => simp only [hw] at h ha ⊢; exact hskip r ha h
    | lost => simp only [hw] at h; cases h
    | ask d b want =>
      simp only [hw] at h ha ⊢
      cases hb : b == want with
      | true => simp only [hb] at h ha ⊢; exact hdo r ha h
      | false => simp only [hb] at h ha ⊢; exact hskip r ha h

theorem led_asked {f rid : Nat} {O : FuncId → List AV → Mem → Option (AV × Mem)} {ops : Array Oper} {st : St} {r : St × Bool} (h : ledRun P E f rid O ops st = some r) : ledRun P E f rid (only O (asked P E f rid O ops st)) ops st = some r := by
  unfold ledRun at h ⊢
  cases hg : ledGo P E f rid O ops (ops.toList.take (openOps ops)) st.mem.length { st with mem := st.mem ++ frees (60 + ops.size) } with
  | none => rw [hg] at h; cases h
  | some x =>
    rw [askGo_same (O' := only O (asked P E f rid O ops st)) _ _ _ x (fun q hq => only_of ⟨q, hq, rfl, rfl, rfl⟩) hg]
    rw [hg] at h; exact h

theorem askOne_is {O : FuncId → List AV → Mem → Option (AV × Mem)} {o : Oper} {st : St} {q : Call'} (h : q ∈ askOne E O o st) : O q.g q.args q.m = some (q.v, q.m') := by
  unfold askOne at h
  split at h
  · split at h
    · rename_i hO
      cases h with
      | head => exact hO
      | tail _ h => cases h
    · cases h
  · cases h

theorem askGo_is {f rid : Nat} {O : FuncId → List AV → Mem → Option (AV × Mem)} {ops : Array Oper} : ∀ (l : List Oper) (nx : Nat) (st : St) (q : Call'), q ∈ askGo P E f rid O ops l nx st → O q.g q.args q.m = some (q.v, q.m')
  | [], _, _, _, h => by cases h
  | o :: l, nx, st, q, h => by
    unfold askGo at h
    have hdo : q ∈ askOne E O o st ++ (match ledOne P E f rid O nx o st with
          | some (d, nx1, _) => askGo P E f rid O ops l nx1 (put { st with mem := apply st.mem d.us } o.dst d.v)
          | none => []) → O q.g q.args q.m = some (q.v, q.m') := by
      intro h
      rcases List.mem_append.1 h with h | h
      · exact askOne_is h
      · split at h
        · exact askGo_is l _ _ q h
        · cases h
    dsimp only at h
    split at h
    · exact hdo h
    · exact askGo_is l _ _ q h
    · split at h
      · exact hdo h
      · exact askGo_is l _ _ q h
    · cases h

theorem only_right {f rid : Nat} {O : FuncId → List AV → Mem → Option (AV × Mem)} {ops : Array Oper} {st : St} (h : Calls' P E (asked P E f rid O ops st)) : Right P E (only O (asked P E f rid O ops st)) := by
  intro g args m v m1 hO
  unfold only at hO
  split at hO
  · rename_i hq
    obtain ⟨q, hm, rfl, rfl, rfl⟩ := hq
    have := askGo_is _ _ _ q hm
    rw [this] at hO
    obtain ⟨rfl, rfl⟩ : q.v = v ∧ q.m' = m1 := by simpa using hO
    exact h q hm
  · cases hO

theorem grow_sound (hN : NamesOk P) {O : Orc} {o : Out} : ∀ (n : Nat) (top : Bool) (c : Cfg) (s : Sc) (K : Out → Sc → Tree), (grow P E O n top c s K).ok P E o → Tells P E top c K o
  | 0, _, _, _, _, h => h.elim
  | n + 1, top, c, s, K, h => by
    unfold grow at h
    split at h
    · split at h
      · rename_i c' hs; exact .inr ⟨rfl, Good.of_goes (goes_next hs) h⟩
      · exact h.elim
    · split at h
      · rename_i c' hs; exact Tells.of_goes (goes_next hs) (grow_sound hN n top c' s K h)
      · rename_i b c' hs
        obtain ⟨rfl, hb⟩ := hardly_ok h
        exact Tells.of_goes (goes_must hs) (shaped_tells (fun c => grow_sound hN n top c s K) hb)
      · rename_i b y z hs
        have gt := goes_test hs
        split at h
        · split at h
          · cases b with
            | true => exact Tells.of_goes gt (grow_sound hN n top y _ K (h.1 rfl))
            | false => exact Tells.of_goes gt (grow_sound hN n top z _ K (h.2 rfl))
          · obtain ⟨rfl, h⟩ := h
            exact Tells.of_goes gt (grow_sound hN n top y _ K h)
          · obtain ⟨hb, h⟩ := h
            cases b with
            | true => cases hb
            | false => exact Tells.of_goes gt (grow_sound hN n top z _ K h)
          · cases b with
            | true => exact Tells.of_goes gt (grow_sound hN n top y _ K h)
            | false => exact Tells.of_goes gt (grow_sound hN n top z _ K h)
          · cases b with
            | true => exact Tells.of_goes gt (grow_sound hN n top y _ K (h.1 rfl))
            | false => exact Tells.of_goes gt (grow_sound hN n top z _ K (h.2 rfl))
        · cases b with
          | true => exact Tells.of_goes gt (grow_sound hN n top y _ K h)
          | false => exact Tells.of_goes gt (grow_sound hN n top z _ K h)
      · rename_i f args m ord dst c' hs
        split at h
        · rename_i v m1 s' _
          exact Tells.of_goes (goes_call hs h.1) (shaped_tells (fun c => grow_sound hN n top c s' K) h.2)
        split at h
        · exact Tells.of_goes (goes_call hs h.1) (shaped_tells (fun c => grow_sound hN n top c s K) h.2)
        · split at h
          · rename_i ci hi
            rcases grow_sound hN n false ci s _ h with ⟨o1, s1, h1, h2⟩ | ⟨h1, _⟩
            · cases o1 with
              | ret v m1 => exact Tells.of_goes (goes_call hs (does_of_good hN hi h1)) (grow_sound hN n top _ s1 K h2)
              | pan v m1 => exact Tells.of_goes (goes_thrown hs (doesP_of_good hN hi h1)) (grow_sound hN n top _ s1 K h2)
            · cases h1
          · exact h.elim
      · rename_i g args m ord pv c' hs
        split at h
        · rename_i ci hi
          rcases grow_sound hN n false ci s _ h with ⟨o1, s1, h1, h2⟩ | ⟨h1, _⟩
          · cases o1 with
            | ret v m1 => exact Tells.of_goes (goes_late hs (doesL_of_good hN hi h1)) (grow_sound hN n top _ s1 K h2)
            | pan v m1 => exact h2.elim
          · cases h1
        · exact h.elim
      · rename_i args m ord dst c' hs
        split at h
        · rename_i ci hi
          rcases grow_sound hN n false ci s _ h with ⟨o1, s1, h1, h2⟩ | ⟨h1, _⟩
          · cases o1 with
            | ret v m1 => exact Tells.of_goes (goes_round hs (doesR_of_good hi h1)) (grow_sound hN n top _ s1 K h2)
            | pan v m1 => exact h2.elim
          · cases h1
        · exact h.elim
      · rename_i g args m ord L c' hs
        split at h
        · split at h
          · rename_i m2 pd hend
            exact Tells.of_goes (goes_range hs h.1 hend) (grow_sound hN n top _ s K h.2)
          · exact h.elim
        split at h
        · rename_i ci hi
          rcases grow_sound hN n false ci s _ h with ⟨o1, s1, h1, h2⟩ | ⟨h1, _⟩
          · cases o1 with
            | ret v m1 =>
              dsimp only at h2
              split at h2
              · rename_i m2 pd hend
                exact Tells.of_goes (goes_range hs (does_of_good hN hi h1) hend) (grow_sound hN n top _ s1 K h2)
              · exact h2.elim
            | pan v m1 => exact h2.elim
          · cases h1
        · exact h.elim
      · rename_i rid ops c' hs
        split at h
        · rename_i L s' _
          split at h
          · rename_i st ok hq
            obtain ⟨hcs, h⟩ := callsT_ok h
            obtain ⟨rfl, hb⟩ := hardly_ok h
            exact Tells.of_goes (goes_draw hs (only_right hcs) (led_asked hq)) (grow_sound hN n top _ s' K hb)
          · exact h.elim
        split at h
        · rename_i st ok hq
          obtain ⟨hcs, h⟩ := callsT_ok h
          obtain ⟨rfl, hb⟩ := hardly_ok h
          exact Tells.of_goes (goes_draw hs (only_right hcs) (led_asked hq)) (grow_sound hN n top _ s K hb)
        · exact h.elim
      · rename_i o' hs
        exact .inl ⟨o', s, good_done hs, h⟩
      · exact h.elim

def atEnd (o : Out) (_ : Sc) : Tree := .out o

theorem good_of_tree (hN : NamesOk P) {O : Orc} {n : Nat} {c : Cfg} {s : Sc} {t : Tree} {o : Out} (ht : grow P E O n true c s atEnd = t) (h : t.ok P E o) : Good P E c o := by
  subst ht
  rcases grow_sound hN n true c s atEnd h with ⟨o1, s1, h1, h2⟩ | ⟨_, h1⟩
  · have : o1 = o := h2
    exact this ▸ h1
  · exact h1

def growF (P : Program) (E : Env) (O : Orc) (n : Nat) (f : FuncId) (args : List AV) (m : Mem) (s : Sc) : Tree :=
  match init P f args m with
  | some c => grow P E O n true c s atEnd
  | none => .stuck

theorem does_of_tree (hN : NamesOk P) {O : Orc} {n : Nat} {f : FuncId} {args : List AV} {m m' : Mem} {s : Sc} {v : AV} {t : Tree} (ht : growF P E O n f args m s = t) (h : t.ok P E (.ret v m')) : Does P E f args m v m' := by
  subst ht
  unfold growF at h
  split at h
  · rename_i c hi; exact does_of_good hN hi (good_of_tree hN rfl h)
  · exact h.elim

theorem namesOk_of {P : Program} (h : (P.funcs.toList.all fun fn => !(fn.name == "runtime.NumGoroutine")) = true) : NamesOk P := by
  intro f fn hf
  rw [List.all_eq_true] at h
  have := h fn (by rw [← Array.getElem?_toList] at hf; exact List.mem_of_getElem? hf)
  simpa using this

def findLoop (E : Env) (f t : Nat) : Code → Nat → List It → Option (Code × List It)
  | .loop b, i, k => match Nat.beq i t with
    | true => some (b, k)
    | false => findLoop E f t b (i + 1) (.inLoop i b :: forgets (E.keep f (2 * i + 1)) k)
  | .seq a b, i, k => match findLoop E f t a i (.code (i + nodes a) b :: k) with
    | some r => some r
    | none => findLoop E f t b (i + nodes a) k
  | .cond _ a b, i, k => match findLoop E f t a (i + 1) (forgets (E.keep f (2 * i)) k) with
    | some r => some r
    | none => findLoop E f t b (i + 1 + nodes a) (forgets (E.keep f (2 * i)) k)
  | .block id b, i, k => findLoop E f t b i (.inBlock id :: k)
  | .scope b, i, k => findLoop E f t b i (.inScope b :: k)
  | _, _, _ => none

def bodyCfg (P : Program) (E : Env) (f t : Nat) (vs : List AV) (m : Mem) (fix nt : Nat) : Cfg :=
  match P.funcs[f]? with
  | some fn => match fn.body with
    | some c => match findLoop E f t c 0 [] with
      | some (b, k) => ⟨f, .code (t + 1) b :: .inLoop t b :: forgets (E.keep f (2 * t + 1)) k, ⟨((E.keep f (2 * t)).getD []).zip vs, nt, m, fix, [], .call⟩⟩
      | none => ⟨f, [], ⟨[], 0, [], 0, [], .call⟩⟩
    | none => ⟨f, [], ⟨[], 0, [], 0, [], .call⟩⟩
  | none => ⟨f, [], ⟨[], 0, [], 0, [], .call⟩⟩

def isAt (l : List (Nat × Nat × Nat)) (f a b : Nat) : Bool := match l with
  | [] => false
  | (f', a', b') :: r => cond (Nat.beq f f') (cond (Nat.beq a a') (cond (Nat.beq b b') true (isAt r f a b)) (isAt r f a b)) (isAt r f a b)

def isCut (l : List (Nat × Nat)) (f a : Nat) : Bool := match l with
  | [] => false
  | (f', a') :: r => cond (Nat.beq f f') (cond (Nat.beq a a') true (isCut r f a)) (isCut r f a)

def keepAt (rows : List (Nat × Nat × List Nat)) (f j : Nat) : Option (List Nat) := match rows with
  | [] => none
  | (f', j', l) :: r => cond (Nat.beq f f' && Nat.beq j j') (some l) (keepAt r f j)

def noLed (_ : FuncId) (_ : List AV) (_ : Mem) : Option (AV × Mem) := none

def orcL (call led : FuncId → List AV → Mem → Option (AV × Mem)) (cuts : List (Nat × Nat)) (forks hards : List (Nat × Nat × Nat)) : Orc where
  call := call
  led := led
  cut := isCut cuts
  fork := isAt forks
  hard := isAt hards
  shape _ _ _ := none

def shapeAt (l : List (Nat × Nat × Nat × AV)) (f a b : Nat) : Option (AV → AV) := match l with
  | [] => none
  | (f', a', b', v) :: r => cond (Nat.beq f f' && (Nat.beq a a' && Nat.beq b b')) (some fun _ => v) (shapeAt r f a b)

def orcS (call led : FuncId → List AV → Mem → Option (AV × Mem)) (cuts : List (Nat × Nat)) (forks hards : List (Nat × Nat × Nat)) (shape : FuncId → Nat → Nat → Option (AV → AV)) : Orc where
  call := call
  led := led
  cut := isCut cuts
  fork := isAt forks
  hard := isAt hards
  shape := shape

def findRange (t : Nat) : Code → Nat → Option (Array Tmp × Code × Code)
  | .rangeFunc _ ps as bd, i => cond (Nat.beq i t) (some (ps, as, bd)) none
  | .seq a b, i => match findRange t a i with
    | some r => some r
    | none => findRange t b (i + nodes a)
  | .cond _ a b, i => match findRange t a (i + 1) with
    | some r => some r
    | none => findRange t b (i + 1 + nodes a)
  | .block _ b, i => findRange t b i
  | .scope b, i => findRange t b i
  | .loop b, i => findRange t b (i + 1)
  | _, _ => none

def loopK (P : Program) (f t : Nat) (st : LoopState) (pd : Option Code) : ObK :=
  match P.funcs[f]? with
  | some fn => match fn.body with
    | some c => match findRange t c 0 with
      | some (ps, as, bd) => .loop f ps as bd st pd
      | none => .opq
    | none => .opq
  | none => .opq

end
end Go.Am
end
