/-
  Every step of the executor is the machine's.
-/
import Derived.Test.YtiphaojaolcidaaDoorAm17b
import Derived.Test.YtiphaojaolcidaaDoorAm16d
namespace Go.Am
open Go.RowKit

section
variable {P : Program} {E : Env} {g : Gh} {w : World}

theorem exitIn_erl {id : Nat} : ∀ {k k' : List It}, exitIn id k = some k' → exitTo id (erl k) = some (erl k')
  | [], _, h => by simp [exitIn] at h
  | .inBlock i :: k, k', h => by
    simp only [exitIn] at h
    cases hb : Nat.beq i id with
    | true =>
      simp only [hb, cond_true, Option.some.injEq] at h; subst h
      have := Nat.eq_of_beq_eq_true hb
      subst this
      simp [erl, er, exitTo]
    | false =>
      simp only [hb, cond_false] at h
      have hne : (i == id) = false := by
        rw [beq_eq_false_iff_ne]; intro e; subst e; simp [Nat.beq_refl] at hb
      simp only [erl, er, List.cons_append, List.nil_append, exitTo, hne, Bool.false_eq_true, if_false]
      exact exitIn_erl h
  | .code _ _ :: k, k', h => by
    simp only [exitIn] at h
    simpa [erl, er, exitTo] using exitIn_erl h
  | .ops _ _ _ _ :: k, k', h => by
    simp only [exitIn] at h
    simpa [erl, er, exitTo] using exitIn_erl h
  | .inLoop _ _ :: k, k', h => by
    simp only [exitIn] at h
    simpa [erl, er, exitTo] using exitIn_erl h
  | .forget _ :: k, k', h => by
    simp only [exitIn] at h
    simpa [erl, er] using exitIn_erl h
  | .fin :: k, k', h => by
    simp only [exitIn] at h
    simpa [erl, er] using exitIn_erl h
  | .finP _ :: k, k', h => by
    simp only [exitIn] at h
    simpa [erl, er] using exitIn_erl h
  | .thrown _ :: k, k', h => by
    simp only [exitIn] at h
    simpa [erl, er] using exitIn_erl h
  | .leave :: k, k', h => by
    simp only [exitIn] at h
    simpa [erl, er] using exitIn_erl h
  | .begin :: k, k', h => by
    simp only [exitIn] at h
    simpa [erl, er, exitTo] using exitIn_erl h
  | .inScope _ :: k, k', h => by
    simp only [exitIn] at h
    simpa [erl, er, exitTo] using exitIn_erl h

theorem exitIn_none {id : Nat} : ∀ {k : List It}, exitIn id k = none → exitTo id (erl k) = none
  | [], _ => rfl
  | .inBlock i :: k, h => by
    simp only [exitIn] at h
    cases hb : Nat.beq i id with
    | true => simp [hb] at h
    | false =>
      simp only [hb, cond_false] at h
      have hne : (i == id) = false := by
        rw [beq_eq_false_iff_ne]; intro e; subst e; simp [Nat.beq_refl] at hb
      simp only [erl, er, List.cons_append, List.nil_append, exitTo, hne, Bool.false_eq_true, if_false]
      exact exitIn_none h
  | .code _ _ :: k, h => by
    simp only [exitIn] at h
    simpa [erl, er, exitTo] using exitIn_none h
  | .ops _ _ _ _ :: k, h => by
    simp only [exitIn] at h
    simpa [erl, er, exitTo] using exitIn_none h
  | .inLoop _ _ :: k, h => by
    simp only [exitIn] at h
    simpa [erl, er, exitTo] using exitIn_none h
  | .forget _ :: k, h => by
    simp only [exitIn] at h
    simpa [erl, er] using exitIn_none h
  | .fin :: k, h => by
    simp only [exitIn] at h
    simpa [erl, er] using exitIn_none h
  | .finP _ :: k, h => by
    simp only [exitIn] at h
    simpa [erl, er] using exitIn_none h
  | .thrown _ :: k, h => by
    simp only [exitIn] at h
    simpa [erl, er] using exitIn_none h
  | .leave :: k, h => by
    simp only [exitIn] at h
    simpa [erl, er] using exitIn_none h
  | .begin :: k, h => by
    simp only [exitIn] at h
    simpa [erl, er, exitTo] using exitIn_none h
  | .inScope _ :: k, h => by
    simp only [exitIn] at h
    simpa [erl, er, exitTo] using exitIn_none h

theorem gotoIt_erl {l : Nat} : ∀ {k k' : List It}, gotoIt l k = some k' → gotoIn l (erl k) = some (erl k')
  | [], _, h => by simp [gotoIt] at h
  | .inScope b :: k, k', h => by
    simp only [gotoIt] at h
    simp only [erl, er, List.cons_append, List.nil_append, gotoIn]
    cases hf : findLabel b l with
    | some rest =>
      simp only [hf, Option.some.injEq] at h; subst h
      rfl
    | none =>
      simp only [hf] at h
      exact gotoIt_erl h
  | .code _ _ :: k, k', h => by
    simp only [gotoIt] at h
    simpa [erl, er, gotoIn] using gotoIt_erl h
  | .ops _ _ _ _ :: k, k', h => by
    simp only [gotoIt] at h
    simpa [erl, er, gotoIn] using gotoIt_erl h
  | .inBlock _ :: k, k', h => by
    simp only [gotoIt] at h
    simpa [erl, er, gotoIn] using gotoIt_erl h
  | .inLoop _ _ :: k, k', h => by
    simp only [gotoIt] at h
    simpa [erl, er, gotoIn] using gotoIt_erl h
  | .forget _ :: k, k', h => by
    simp only [gotoIt] at h
    simpa [erl, er] using gotoIt_erl h
  | .fin :: k, k', h => by
    simp only [gotoIt] at h
    simpa [erl, er] using gotoIt_erl h
  | .finP _ :: k, k', h => by
    simp only [gotoIt] at h
    simpa [erl, er] using gotoIt_erl h
  | .thrown _ :: k, k', h => by
    simp only [gotoIt] at h
    simpa [erl, er] using gotoIt_erl h
  | .leave :: k, k', h => by
    simp only [gotoIt] at h
    simpa [erl, er] using gotoIt_erl h
  | .begin :: k, k', h => by
    simp only [gotoIt] at h
    simpa [erl, er, gotoIn] using gotoIt_erl h

theorem gotoIt_fin {l : Nat} : ∀ {k k' : List It}, (∀ x ∈ k, It.pl x) → gotoIt l k = some k' → ∀ x ∈ k', It.pl x
  | [], _, _, h => by simp [gotoIt] at h
  | x :: k, k', hf, h => by
    have ht : ∀ y ∈ k, It.pl y := fun y hy => hf y (.tail _ hy)
    cases x with
    | inScope b =>
      simp only [gotoIt] at h
      cases hl : findLabel b l with
      | some rest =>
        simp only [hl, Option.some.injEq] at h; subst h
        intro y hy
        cases hy with
        | head => exact trivial
        | tail _ hy => exact hf y hy
      | none =>
        simp only [hl] at h
        exact gotoIt_fin ht h
    | _ => simp only [gotoIt] at h; exact gotoIt_fin ht h

theorem exitIn_fin {id : Nat} : ∀ {k k' : List It}, (∀ x ∈ k, It.pl x) → exitIn id k = some k' → ∀ x ∈ k', It.pl x
  | [], _, _, h => by simp [exitIn] at h
  | x :: k, k', hf, h => by
    have ht : ∀ y ∈ k, It.pl y := fun y hy => hf y (.tail _ hy)
    cases x with
    | inBlock i =>
      simp only [exitIn] at h
      cases hb : Nat.beq i id with
      | true => simp only [hb, cond_true, Option.some.injEq] at h; subst h; exact ht
      | false => simp only [hb, cond_false] at h; exact exitIn_fin ht h
    | _ => simp only [exitIn] at h; exact exitIn_fin ht h

theorem look_zip {g' : Gh} {ρ : Nat → Option Nat} {f : Nat → Value} : ∀ (keep : List Nat) (tm : Tms), (∀ k, VA g' w (ren ρ (look tm k)) (f k)) → ∀ k, VA g' w (look (keep.zip (renL ρ (keep.map (look tm)))) k) (f k)
  | [], tm, _, k => .junk _
  | i :: keep, tm, h, k => by
    simp only [List.map_cons, renL, List.zip_cons_cons, look_cons]
    by_cases e : i = k
    · subst e; simp only [if_true]; exact h i
    · simp only [e, if_false]; exact look_zip keep tm h k

theorem forget_rnd {keep : List Nat} {st : St} : (forget keep st).rnd = st.rnd := by
  obtain ⟨tm, nt, mem, fix, mks, rnd⟩ := st
  cases mks with
  | cons i l => rfl
  | nil => cases rnd <;> rfl

theorem forgetO_rnd {keep : Option (List Nat)} {st : St} : (forgetO keep st).rnd = st.rnd := by
  cases keep with
  | none => rfl
  | some keep => exact forget_rnd

theorem forget_ok {st : St} {a : Act} (h : SRel E g st a w) (keep : List Nat) : ∃ g', SRel E g' (forget keep st) a w ∧ Stp g st.mem w g' (forget keep st).mem w ∧ Fixed g g' st.fix ∧ (forget keep st).fix = st.fix ∧ (∀ ds, Mk g st.mks ds → Mk g' (forget keep st).mks ds) ∧ ∀ b, RndOk g st.rnd b → RndOk g' (forget keep st).rnd b := by
  obtain ⟨tm, nt, mem, fix, mks, rnd⟩ := st
  have stay : forget keep ⟨tm, nt, mem, fix, mks, rnd⟩ = ⟨tm, nt, mem, fix, mks, rnd⟩ → _ := fun this => (show ∃ g', SRel E g' (forget keep ⟨tm, nt, mem, fix, mks, rnd⟩) a w ∧ Stp g mem w g' (forget keep ⟨tm, nt, mem, fix, mks, rnd⟩).mem w ∧ Fixed g g' fix ∧ (forget keep ⟨tm, nt, mem, fix, mks, rnd⟩).fix = fix ∧ (∀ ds, Mk g mks ds → Mk g' (forget keep ⟨tm, nt, mem, fix, mks, rnd⟩).mks ds) ∧ ∀ b, RndOk g rnd b → RndOk g' (forget keep ⟨tm, nt, mem, fix, mks, rnd⟩).rnd b from by
    rw [this]
    exact ⟨g, h, Stp.refl _ _ _, Fixed.refl _ _, rfl, fun _ q => q, fun _ q => q⟩)
  cases mks with
  | cons i mks => exact stay rfl
  | nil =>
    cases rnd with
    | round i => exact stay rfl
    | late => exact stay rfl
    | call =>
      obtain ⟨hnd, hfix⟩ := close_spec mem fix (keep.map (look tm))
      obtain ⟨h1, h2⟩ := h.rel.pack hnd
      have hlen : fix ≤ (close mem fix (keep.map (look tm))).length := by
        rcases Nat.eq_zero_or_pos fix with e | e
        · omega
        · have := lt_of_get (hfix (fix - 1) (by omega)); omega
      refine ⟨g.pack (close mem fix (keep.map (look tm))), ⟨look_zip keep tm fun k => (h.tm k).ren (Renames.pack g _), h.nt, h1, ?_, h.glob.mono fun _ _ p => ⟨p, rfl⟩⟩, ?_, ?_, rfl, ?_, fun _ q => q⟩
      · show fix ≤ (Am.pack mem _).length
        simpa [Am.pack] using hlen
      · exact ⟨Nat.le_refl _, fun _ _ _ => rfl, fun _ _ p => ⟨p, rfl⟩, fun _ _ p => .inl p, fun c ho => .inl (h2 c ho), rfl, rfl, rfl⟩
      · intro k c hk hc
        have := hfix k hk
        simp [Gh.pack, this, hc]
      · intro ds hd
        cases ds with
        | nil => exact trivial
        | cons _ _ => exact hd.elim

theorem forgetO_ok {st : St} {a : Act} (h : SRel E g st a w) (keep : Option (List Nat)) : ∃ g', SRel E g' (forgetO keep st) a w ∧ Stp g st.mem w g' (forgetO keep st).mem w ∧ Fixed g g' st.fix ∧ (forgetO keep st).fix = st.fix ∧ (∀ ds, Mk g st.mks ds → Mk g' (forgetO keep st).mks ds) ∧ ∀ b, RndOk g st.rnd b → RndOk g' (forgetO keep st).rnd b := by
  cases keep with
  | none => exact ⟨g, h, Stp.refl _ _ _, Fixed.refl _ _, rfl, fun _ q => q, fun _ q => q⟩
  | some keep => exact forget_ok h keep

theorem erl_forgets (keep : Option (List Nat)) (k : List It) : erl (forgets keep k) = erl k := by cases keep <;> rfl

theorem forgets_fin {keep : Option (List Nat)} {k : List It} (h : ∀ x ∈ k, It.pl x) : ∀ x ∈ forgets keep k, It.pl x := by
  cases keep with
  | none => exact h
  | some keep =>
    intro x hx
    cases hx with
    | head => exact trivial
    | tail _ hx => exact h x hx

/-- A round's record is written. -/
theorem record_put {st : St} {a : Act} {i l : Nat} {f : FuncId} {ps : Array Tmp} {as bd : Code} {s s' : LoopState} {pd pd' : Option Code} {vals : List AV}
    (h : SRel E g st a w) (hl : g.blk i = some l) (hb : st.mem.getD i .dead = .ob (.loop f ps as bd s pd) vals) :
    ∃ r : Loop, w.heap[l]? = some (.loop r) ∧ r.state = s ∧
      Rel g (st.mem.set i (.ob (.loop f ps as bd s' pd') vals)) (w.putObj l (.loop { r with state := s', pending := pd' })) ∧
      Ext g w g (w.putObj l (.loop { r with state := s', pending := pd' })) ∧
      Stp g st.mem w g (st.mem.set i (.ob (.loop f ps as bd s' pd') vals)) (w.putObj l (.loop { r with state := s', pending := pd' })) ∧
      Owned g st.mem l := by
  have hib := getD_some hb (by simp)
  obtain ⟨c, ob, vs, k1, k2, k3, k4, _⟩ := h.rel.obs i _ _ hib
  rw [hl] at k1; cases k1
  obtain ⟨D, rfl⟩ := k4
  obtain ⟨e1, e2, e3⟩ := setBlock_world w (o' := .loop { state := s', pending := pd', fn := f, tmps := vs.toArray, params := ps, assign := as, body := bd, defers := D }) k2
  obtain ⟨r1, r2, r3⟩ := h.rel.writeOb (ob' := .loop f ps as bd s' pd') (l' := vals) (vs' := vs) hib hl e1 e2 rfl rfl rfl e3 ⟨D, rfl⟩ k3
  exact ⟨_, k2, rfl, r1, r2, r3, i, _, hib, rfl, hl⟩

theorem roundEnd_ok {c : Cfg} {b : Frame} {a : Act} {i l : Nat} {jump : Option Code} {todo : List Item} (hs : SRel E g c.st a w) (hrn : c.st.rnd = .round i) (hl : g.blk i = some l) (hbf : b.fn = c.f)
    (hst : ∀ (v : Value) (w' : World), (Instr.endRound l jump).run P w = .ok v w' → ∀ (d : Frame) (cs : List Frame), _root_.Go.step P (lone (b.atR a todo) (d :: cs) w) = .next (lone (d.finish v) cs w')) :
    EvOk P E g c (b.atR a todo) w (roundEnd c i jump) := by
  unfold roundEnd
  split
  · rename_i f ps as bd s pd vals hb
    dsimp only
    cases hlt : Nat.blt i c.st.fix with
    | false => trivial
    | true =>
    rw [Nat.blt_eq] at hlt
    intro cs
    obtain ⟨r, q1, _, q2, q3, q4, q5⟩ := record_put (s' := endState jump) (pd' := jump) hs hl hb
    have hrun := run_endRound (P := P) jump q1
    have hstate : (if jump.isNone then LoopState.ready else .done) = (endState jump) := by cases jump <;> rfl
    rw [hstate] at hrun
    generalize hm : c.st.mem.set i (.ob (.loop f ps as bd (endState jump) jump) vals) = m at *
    obtain ⟨hnd, hfix⟩ := close_spec m c.st.fix []
    generalize hord : close m c.st.fix [] = ord at *
    obtain ⟨p1, p2⟩ := q2.pack hnd
    have hlen : c.st.fix ≤ ord.length := by
      rcases Nat.eq_zero_or_pos c.st.fix with e | e
      · omega
      · have := lt_of_get (hfix (c.st.fix - 1) (by omega)); omega
    have own : ∀ c', Owned (g.pack ord) (Am.pack m ord) c' → Owned g c.st.mem c' := fun c' ho => (q4.owned c' (p2 c' ho)).elim id fun hh => by
      have h1 := q2.owned_lt (p2 c' ho)
      rw [World.putObj_size] at h1
      omega
    refine ⟨g.pack ord, _, w, Steps.refl _ _, ⟨hbf, .bool jump.isNone, _, ?_, .p _ _ (.sc _), p1, ?_, ?_⟩, ?_, ?_, rfl, rfl, rfl⟩
    · show Outs P c.st.rnd _ w _ _
      rw [hrn]
      exact fun d cs => .one (hst _ _ hrun d cs)
    · have hol : Owned (g.pack ord) (Am.pack m ord) l := by
        have hi := hfix i hlt
        have him : m[i]? = some (.ob (.loop f ps as bd (endState jump) jump) vals) := by
          rw [← hm, List.getElem?_set_self (lt_of_get (getD_some hb (by simp)))]
        refine ⟨i, renB (idx ord) (.ob (.loop f ps as bd (endState jump) jump) vals), ?_, rfl, by simp [Gh.pack, hi, hl]⟩
        unfold Am.pack
        rw [List.getElem?_map, hi]
        simp [List.getD_eq_getElem?_getD, him]
      exact ⟨by simp, fun c' _ hno => World.putObj_heap_other fun e => hno (e ▸ hol), fun c' o p => ⟨p, (q4.pure c' o p).2⟩, fun _ _ p => .inl p, fun _ ho => .inl ho, rfl, rfl, rfl⟩
    · show c.st.fix ≤ (Am.pack m ord).length
      simpa [Am.pack] using hlen
    · exact ⟨Nat.le_refl _, fun _ _ _ => rfl, fun _ _ p => ⟨p, rfl⟩, fun _ _ p => .inl p, fun c' ho => .inl (own c' ho), rfl, rfl, rfl⟩
    · intro k c' hk hc'
      have := hfix k hk
      simp [Gh.pack, this, hc']
  · trivial

theorem step_ok {c : Cfg} {fr : Frame} (h : CRel P E g c fr w) : EvOk P E g c fr w (Am.step P E c) := by
  obtain ⟨f, todo, st⟩ := c
  cases todo with
  | nil =>
    obtain ⟨b, a, rfl, h1, h2, h3, h4, _⟩ := h
    simp only [Am.step]
    split
    · rename_i i hr
      rw [hr] at h2
      obtain ⟨hk, l, hl, hro⟩ := h2
      exact roundEnd_ok (c := ⟨f, [], st⟩) h4 hr hl h1 fun v w' hrun d cs => stepR_round_end hro hk hrun
    · rename_i hnr
      have hnr : ∀ i, st.rnd ≠ .round i := fun i e => hnr i e
      exact ending_ok (c := ⟨f, [], st⟩) (b := b) (a := a) (todo := []) h4 h2 hnr h1 h3 fun cs => .one (stepR_end (h2.noRound hnr))
  | cons x k =>
    by_cases hfin : It.pl x
    case neg =>
      cases x with
      | fin =>
        obtain ⟨h1, cv, w2, h2, h3, h4, h6, h5⟩ := h
        exact ⟨h1, rfl, cv, w2, h2, h3, h4, h6, h5⟩
      | finP u =>
        obtain ⟨h1, cv, h2, h3, h4, h5⟩ := h
        exact ⟨h1, rfl, cv, h2, h3, h4, h5⟩
      | thrown u =>
        obtain ⟨b, a, todo, cv, rfl, h1, h2, h3, h4, h5⟩ := h
        exact thrown_ok (c := ⟨f, .thrown u :: k, st⟩) h4 h2 h1 h3 h5
      | leave =>
        obtain ⟨b, a, todo, rfl, h1, h2, h3, _, h5, h6⟩ := h
        exact ending1_ok (c := ⟨f, .leave :: k, st⟩) (b := b) (a := a) (todo := todo) h6 h2 h3 h1 h5 fun cs => Steps.refl _ _
      | _ => exact absurd trivial hfin
    have h' : ∃ (b : Frame) (a : Act), fr = b.atR a (er x ++ erl k) ∧ b.fn = f ∧ RndOk g st.rnd b ∧ Mk g st.mks a.defers ∧ SRel E g st a w ∧ ∀ y ∈ x :: k, It.pl y := by
      cases x <;> first
        | exact absurd hfin id
        | exact h
    obtain ⟨b, a, rfl, h1, h2, h3, h4, hxk⟩ := h'
    have hk : ∀ y ∈ k, It.pl y := fun y hy => hxk y (.tail _ hy)
    clear h
    cases x with
    | fin => exact absurd hfin id
    | finP u => exact absurd hfin id
    | thrown u => exact absurd hfin id
    | leave => exact absurd hfin id
    | begin =>
      simp only [Am.step]
      split
      · rename_i i hr
        unfold roundBegin
        split
        · rename_i f' ps as bd pd vals hb
          intro cs
          have h2' := h2
          rw [hr] at h2'
          obtain ⟨_, l, hl, hro⟩ := h2'
          obtain ⟨r, q1, q0, q2, q3, q4, _⟩ := record_put (s' := .busy) (pd' := pd) h4 hl hb
          have hp : r.pending = pd := by
            have hib := getD_some hb (by simp)
            obtain ⟨c, ob, vs, k1, k2, k3, k4, _⟩ := h4.rel.obs i _ _ hib
            rw [hl] at k1; cases k1
            obtain ⟨D, rfl⟩ := k4
            rw [q1] at k2; cases k2
            rfl
          have hrun := run_beginRound (P := P) q1 q0
          rw [show ({ r with state := .busy } : Loop) = { r with state := .busy, pending := pd } by rw [← hp]] at hrun
          refine ⟨g, _, _, .one (stepR_beginRound hro hrun), CRel.mk (a := a) (c := ⟨f, k, { st with mem := st.mem.set i (.ob (.loop f' ps as bd .busy pd) vals) }⟩) hk h1 h2 h3 ⟨fun j => (h4.tm j).mono q3, h4.nt, q2, by simpa using h4.fix, h4.glob.mono q3.pure⟩, q4, Fixed.refl _ _, rfl, rfl, rfl⟩
        · trivial
      · trivial
    | inScope bd => exact Goes.quiet (fun cs => .one (step_lone_go (by simp [stepG, stepG.exec, Frame.atR, er]))) hk h1 rfl h2 h3 h4 rfl rfl
    | inBlock id => exact Goes.quiet (fun cs => .one stepR_inBlock) hk h1 rfl h2 h3 h4 rfl rfl
    | forget keep =>
      intro cs
      obtain ⟨g', q1, q2, q3, q4, q5, q6⟩ := forget_ok h4 keep
      exact ⟨g', _, w, Steps.refl _ _, CRel.mk (c := ⟨f, k, forget keep st⟩) hk h1 (q6 _ h2) (q5 _ h3) q1, q2, q3, rfl, q4, forget_rnd⟩
    | inLoop i body =>
      intro cs
      obtain ⟨g', q1, q2, q3, q4, q5, q6⟩ := forgetO_ok h4 (E.keep f (2 * i))
      exact ⟨g', _, w, .one stepR_inLoop, CRel.mk (c := ⟨f, .code (i + 1) body :: .inLoop i body :: k, forgetO (E.keep f (2 * i)) st⟩) (nf trivial (nf trivial hk)) h1 (q6 _ h2) (q5 _ h3) q1, q2, q3, rfl, q4, forgetO_rnd⟩
    | ops rid ops i sure =>
      simp only [Am.step]
      cases ho : ops[i]? with
      | none =>
        have hi : ops.size - i = 0 := by
          have : ops.size ≤ i := by
            rcases Nat.lt_or_ge i ops.size with q | q
            · rw [Array.getElem?_eq_getElem q] at ho; cases ho
            · exact q
          omega
        refine Goes.quiet (c' := ⟨f, k, st⟩) (fun cs => .one ?_) hk h1 rfl h2 h3 h4 rfl rfl
        simp only [er, hi, List.range'_zero, List.cons_append, List.nil_append]
        exact stepR_region_end
      | some o =>
        obtain ⟨w1, w2, w3⟩ := wants_yes h4 (ops := ops) (o := o)
        have hi : i < ops.size := by
          rcases Nat.lt_or_ge i ops.size with q | q
          · exact q
          · rw [Array.getElem?_eq_none q] at ho; cases ho
        have skip : Region.wanted o (yielded ops a.tmps) = false → fits st o.dst = true → Goes P E g ⟨f, .ops rid ops i sure :: k, st⟩ (b.atR a (er (.ops rid ops i sure) ++ erl k)) w ⟨f, .ops rid ops (i + 1) false :: k, put st o.dst (.tup [])⟩ := by
          intro hw hf cs
          have hst := stepR_op_skip (P := P) (b := b) (a := a) (k := erl k) (cs := cs) (w := w) (ops := ops) (i := i) (rest := List.range' (i + 1) (ops.size - (i + 1))) (by simp [ho, hw])
          simp only [ho, Option.bind_some] at hst
          rw [← range'_head hi] at hst
          have hp := h4.put (v := .tup []) (cv := undef) hf (VA.tups.2 trivial) (Ext.refl g w) h4.rel h4.fix
          refine ⟨g, _, w, .one hst, CRel.mk (a := a.put o.dst undef) (c := ⟨f, .ops rid ops (i + 1) false :: k, put st o.dst (.tup [])⟩) (nf trivial hk) h1 (h2.put (Ext.refl g w) rfl) (h3.put (Ext.refl g w) rfl) hp, ?_, Fixed.refl _ _, rfl, ?_, put_rnd⟩
          · have : (put st o.dst (.tup [])).mem = st.mem := by unfold Am.put; cases o.dst <;> rfl
            show Stp g st.mem w g (put st o.dst (.tup [])).mem w
            rw [this]; exact Stp.refl _ _ _
          · show (put st o.dst (.tup [])).fix = st.fix
            unfold Am.put; cases o.dst <;> rfl
        dsimp only
        cases hwt : wants ops st.tm o with
        | yes => exact doOp_ok (c := ⟨f, .ops rid ops i sure :: k, st⟩) h4 h1 h2 h3 ho (w1 hwt) hk
        | no =>
          dsimp only
          cases hf : fits st o.dst with
          | false => trivial
          | true => exact skip (w2 hwt) hf
        | lost => trivial
        | ask d bb want =>
          obtain ⟨q1, q2⟩ := w3 d bb want hwt
          dsimp only
          cases sure with
          | false =>
            have known : ∀ b' : Bool, bb = b' → Goes P E g ⟨f, .ops rid ops i false :: k, st⟩ (b.atR a (er (.ops rid ops i false) ++ erl k)) w ⟨f, .ops rid ops i true :: k, put st (some d) (sB b')⟩ := by
              intro b' e
              subst e
              refine Goes.quiet (c' := ⟨f, .ops rid ops i true :: k, put st (some d) (sB bb)⟩) (fun cs => Steps.refl _ _) (nf trivial hk) h1 rfl h2 h3 (h4.known ?_) rfl rfl
              rw [q2]; exact .p _ _ (.sc _)
            exact ⟨known true, known false⟩
          | true =>
            dsimp only
            cases hb : bb == want with
            | true => exact doOp_ok (c := ⟨f, .ops rid ops i true :: k, st⟩) h4 h1 h2 h3 ho (q1.trans hb) hk
            | false =>
              dsimp only
              cases hf : fits st o.dst with
              | false => trivial
              | true => exact skip (q1.trans hb) hf
    | code i code =>
      cases code with
      | skip => exact Goes.quiet (c' := ⟨f, k, st⟩) (fun cs => .one stepR_skip) hk h1 rfl h2 h3 h4 rfl rfl
      | region id ops draw =>
        cases draw with
        | true =>
          simp only [Am.step]
          split
          · rename_i st' ok hq
            intro hok cs
            subst hok
            obtain ⟨g', a', w', r1, r2, r3, r4, r5, r6, r7⟩ := draw_ok (b := b) (k := erl k) h4 hq
            refine ⟨g', _, w', r1 cs, CRel.mk (a := a') (c := ⟨f, k, { st' with mks := st.mks, rnd := st.rnd }⟩) hk h1 (h2.ext r7) (by rw [r2]; exact h3.ext r7) ⟨r3.tm, r3.nt, r3.rel, r3.fix, r3.glob⟩, r4, r5, rfl, r6, rfl⟩
          · split
            · rename_i sts hq
              obtain ⟨st', hm, g', a', w', r1, r2, r3, r4, r5, r6, r7⟩ := fork_ok (b := b) (k := erl k) (rid := id) h4 hq
              intro cs
              exact ⟨_, List.mem_map.2 ⟨st', hm, rfl⟩, g', _, w', r1 cs, CRel.mk (a := a') (c := ⟨f, k, { st' with mks := st.mks, rnd := st.rnd }⟩) hk h1 (h2.ext r7) (by rw [r2]; exact h3.ext r7) ⟨r3.tm, r3.nt, r3.rel, r3.fix, r3.glob⟩, r4, r5, rfl, r6, rfl⟩
            intro O st' hO hq cs
            obtain ⟨g', a', w', r1, r2, r3, r4, r5, r6, r7⟩ := led_ok (b := b) (k := k) hO h4 hq cs
            have hk' : ∀ y ∈ behindOpen id ops k, It.pl y := by
              unfold behindOpen
              cases isLast ops with
              | false => exact hk
              | true => exact nf trivial hk
            exact ⟨g', _, w', r1, CRel.mk (a := a') (c := ⟨f, behindOpen id ops k, { st' with mks := st.mks, rnd := st.rnd }⟩) hk' h1 (h2.ext r7) (by rw [r2]; exact h3.ext r7) ⟨r3.tm, r3.nt, r3.rel, r3.fix, r3.glob⟩, r4, r5, rfl, r6, rfl⟩
        | false =>
          refine Goes.quiet (c' := ⟨f, .ops id ops 0 false :: k, st⟩) (fun cs => .one ?_) (nf trivial hk) h1 rfl h2 h3 h4 rfl rfl
          have := stepR_region (P := P) (b := b) (a := a) (k := erl k) (cs := cs) (w := w) (ops := ops) (id := id)
          simpa [erl, er, List.range_eq_range'] using this
      | seq x y => exact Goes.quiet (c' := ⟨f, .code i x :: .code (i + nodes x) y :: k, st⟩) (fun cs => .one stepR_seq) (nf trivial (nf trivial hk)) h1 rfl h2 h3 h4 rfl rfl
      | cond x y z =>
        simp only [Am.step]
        split
        · rename_i t hx
          have hv := ev_sound h4 x
          rw [hx, VA.pv] at hv
          generalize hz : a.eval x = cv at hv
          cases hv
          refine ⟨fun e => ?_, fun e => ?_⟩ <;> subst e
          · refine Goes.quiet (c' := ⟨f, .code (i + 1) y :: forgets (E.keep f (2 * i)) k, st⟩) (fun cs => .one ?_) (nf trivial (forgets_fin hk)) h1 rfl h2 h3 h4 rfl rfl
            simp only [erl, erl_forgets]; exact stepR_cond hz
          · refine Goes.quiet (c' := ⟨f, .code (i + 1 + nodes y) z :: forgets (E.keep f (2 * i)) k, st⟩) (fun cs => .one ?_) (nf trivial (forgets_fin hk)) h1 rfl h2 h3 h4 rfl rfl
            simp only [erl, erl_forgets]; exact stepR_cond hz
        · trivial
      | block id body => exact Goes.quiet (c' := ⟨f, .code i body :: .inBlock id :: k, st⟩) (fun cs => .one stepR_block) (nf trivial (nf trivial hk)) h1 rfl h2 h3 h4 rfl rfl
      | loop body =>
        intro cs
        obtain ⟨g', q1, q2, q3, q4, q5, q6⟩ := forgetO_ok h4 (E.keep f (2 * i))
        refine ⟨g', b.atR a (erl (.code (i + 1) body :: .inLoop i body :: forgets (E.keep f (2 * i + 1)) k)), w, .one ?_, CRel.mk (c := ⟨f, .code (i + 1) body :: .inLoop i body :: forgets (E.keep f (2 * i + 1)) k, forgetO (E.keep f (2 * i)) st⟩) (nf trivial (nf trivial (forgets_fin hk))) h1 (q6 _ h2) (q5 _ h3) q1, q2, q3, rfl, q4, forgetO_rnd⟩
        simp only [erl, erl_forgets]; exact stepR_loop
      | exit id =>
        simp only [Am.step]
        split
        · rename_i k' hk'
          exact Goes.quiet (c' := ⟨f, k', st⟩) (fun cs => .one (stepR_exit (exitIn_erl hk'))) (exitIn_fin hk hk') h1 rfl h2 h3 h4 rfl rfl
        · rename_i hx
          split
          · rename_i j hr
            rw [hr] at h2
            obtain ⟨hk, l, hl, hro⟩ := h2
            exact roundEnd_ok (c := ⟨f, .code i (.exit id) :: k, st⟩) h4 hr hl h1 fun v w' hrun d cs => stepR_round_exit hro hk (exitIn_none hx) hrun
          · trivial
      | scope bd => exact Goes.quiet (c' := ⟨f, .code i bd :: .inScope bd :: k, st⟩) (fun cs => .one (step_lone_go (by simp [stepG, stepG.exec, Frame.atR, erl, er]))) (nf trivial (nf trivial hk)) h1 rfl h2 h3 h4 rfl rfl
      | label l => exact Goes.quiet (c' := ⟨f, k, st⟩) (fun cs => .one stepR_label) hk h1 rfl h2 h3 h4 rfl rfl
      | goto l =>
        simp only [Am.step]
        split
        · rename_i k' hk'
          exact Goes.quiet (c' := ⟨f, k', st⟩) (fun cs => .one (stepR_goto (gotoIt_erl hk'))) (gotoIt_fin hk hk') h1 rfl h2 h3 h4 rfl rfl
        · trivial
      | rangeFunc x ps as bd =>
        simp only [Am.step]
        split
        · rename_i hr
          have h2' := h2
          rw [hr] at h2'
          unfold rangeGo
          split
          · rename_i gf first captured hx
            dsimp only
            cases hlt : allLt (close (rangeMem st f ps as bd) 0 (first ++ [.vy (st.mem.length + 1)] ++ captured)) (rangeMem st f ps as bd).length with
            | false => trivial
            | true =>
              subst h1
              intro v m1 hd m2 pd hend cs
              obtain ⟨g', a', w', s1, s2, s3, s4, s5, s6⟩ := range_ok (P := P) (k := erl k) h4 h2'.2 h3 hx hlt hd hend cs
              have e : (pd.map Item.code).toList ++ erl k = erl (behind ⟨b.fn, k, { st with mem := rangeMem st b.fn ps as bd, mks := .range st.mem.length :: st.mks }⟩ m2 pd).todo := by
                cases pd <;> rfl
              rw [e] at s1
              refine ⟨g', _, w', s1, CRel.mk (a := a') (c := behind ⟨b.fn, k, { st with mem := rangeMem st b.fn ps as bd, mks := .range st.mem.length :: st.mks }⟩ m2 pd) ?_ rfl (h2.ext s6) s2 s3, s4, s5, rfl, rfl, rfl⟩
              cases pd with
              | none => exact hk
              | some code => exact nf trivial hk
          · trivial
        · trivial
      | ret =>
        simp only [Am.step]
        split
        · rename_i j hr
          rw [hr] at h2
          obtain ⟨hk, l, hl, hro⟩ := h2
          exact roundEnd_ok (c := ⟨f, .code i .ret :: k, st⟩) h4 hr hl h1 fun v w' hrun d cs => stepR_round_ret hro hk hrun
        · rename_i hnr
          have hnr : ∀ i, st.rnd ≠ .round i := fun i e => hnr i e
          exact ending_ok (c := ⟨f, .code i .ret :: k, st⟩) (b := b) (a := a) (todo := .code .ret :: erl k) h4 h2 hnr h1 h3 fun cs => .one (stepR_ret (h2.noRound hnr))
      | _ => trivial

end
end Go.Am
