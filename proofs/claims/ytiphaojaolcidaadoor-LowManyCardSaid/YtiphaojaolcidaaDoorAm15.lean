/-
  The executor's steps are the machine's: the relation, operations, ends.
-/
import Derived.Test.YtiphaojaolcidaaDoorAm14
import Derived.AtR
import Derived.Recover
namespace Go.Am
open Go.RowKit

def er : It → List Item
  | .code _ c => [.code c]
  | .ops _ ops k _ => [.inRegion ops (List.range' k (ops.size - k))]
  | .inBlock id => [.inBlock id]
  | .inLoop _ b => [.inLoop b]
  | .inScope b => [.inScope b]
  | .forget _ => []
  | .fin => []
  | .begin => [.beginRound]
  | .finP _ => []
  | .thrown _ => []
  | .leave => []

/-- What stands in a frame that runs. -/
def It.pl : It → Prop
  | .fin | .finP _ | .thrown _ | .leave => False
  | _ => True

def erl : List It → List Item
  | [] => []
  | x :: k => er x ++ erl k

def GlobOk (E : Env) (g : Gh) (w : World) : Prop := ∀ i cs, E.glob i = some cs → VP g w (.pp 0 cs) (.pointer (some ⟨i, 0, none⟩))

theorem GlobOk.mono {E : Env} {g g' : Gh} {w w' : World} (h : GlobOk E g w) (e : ∀ c o, g.pure c o → g'.pure c o ∧ w'.cell? ⟨c, o, none⟩ = w.cell? ⟨c, o, none⟩) : GlobOk E g' w' := fun i cs hi => (h i cs hi).mono e

structure SRel (E : Env) (g : Gh) (st : St) (a : Act) (w : World) : Prop where
  tm : ∀ k, VA g w (look st.tm k) (a.tmps.getD k undef)
  nt : a.tmps.size = st.nt
  rel : Rel g st.mem w
  fix : st.fix ≤ st.mem.length
  glob : GlobOk E g w

/-- A frame of a call; or of a round of the range over a function whose record is this block; or of a deferred call. -/
def RndOk (g : Gh) (r : Rnd) (b : Frame) : Prop := match r with
  | .call => b.kind = .normal ∧ b.roundOf = none
  | .round i => b.kind = .normal ∧ ∃ l, g.blk i = some l ∧ b.roundOf = some l
  | .late => b.kind = .deferred ∧ b.roundOf = none

theorem RndOk.ext {g g' : Gh} (e : ∀ i c, g.blk i = some c → g'.blk i = some c) {r : Rnd} {b : Frame} (h : RndOk g r b) : RndOk g' r b := by
  cases r with
  | call => exact h
  | late => exact h
  | round i =>
    obtain ⟨h1, l, q1, q2⟩ := h
    exact ⟨h1, l, e i l q1, q2⟩

theorem RndOk.noRound {g : Gh} {r : Rnd} {b : Frame} (h : RndOk g r b) (hn : ∀ i, r ≠ .round i) : b.roundOf = none := by
  cases r with
  | call => exact h.2
  | late => exact h.2
  | round i => exact absurd rfl (hn i)

/-- Addresses in blocks. -/
def Mps (g : Gh) (l : List (Nat × Nat)) (cs : List Value) : Prop := All2 (fun q v => ∃ c, g.blk q.1 = some c ∧ v = .pointer (some ⟨c, q.2, none⟩)) l cs

/-- What a mark says of a frame's deferred call. -/
def Mark.Ok (g : Gh) : Mark → Deferred → Prop
  | .range b, d => ∃ D, g.blk b = some D ∧ d = { target := .collected D, args := #[] }
  | .late f l m, d => ∃ fa ca : Array Value, Mps g l fa.toList ∧ Mps g m ca.toList ∧ d = { target := .fn (.func f) ca, args := fa }

theorem Mark.Ok.ext {g g' : Gh} (e : ∀ i c, g.blk i = some c → g'.blk i = some c) {mk : Mark} {d : Deferred} (h : mk.Ok g d) : mk.Ok g' d := by
  cases mk with
  | range b =>
    obtain ⟨D, q1, q2⟩ := h
    exact ⟨D, e _ D q1, q2⟩
  | late f l m =>
    obtain ⟨fa, ca, q1, q2, q3⟩ := h
    exact ⟨fa, ca, All2.mono (fun _ _ ⟨c, k1, k2⟩ => ⟨c, e _ c k1, k2⟩) q1, All2.mono (fun _ _ ⟨c, k1, k2⟩ => ⟨c, e _ c k1, k2⟩) q2, q3⟩

/-- The marks among a frame's deferred calls. -/
def Mk (g : Gh) (mk : List Mark) (ds : List Deferred) : Prop := All2 (fun b d => b.Ok g d) mk ds

theorem Mk.ext {g g' : Gh} (e : ∀ i c, g.blk i = some c → g'.blk i = some c) {mk : List Mark} {ds : List Deferred} (h : Mk g mk ds) : Mk g' mk ds :=
  All2.mono (fun _ _ q => q.ext e) h

/-- A frame at its end: a call's is on its way out; a round's goes back to the one that yields. -/
def Outs (P : Program) (r : Rnd) (fr : Frame) (w : World) (cv : Value) (w2 : World) : Prop := match r with
  | .call => fr.leaving P w (.returned cv) ∧ w2 = w
  | .late => (fr.going P w (.returned cv) ∧ fr.kind = .deferred) ∧ w2 = w
  | .round _ => ∀ (c : Frame) (cs : List Frame), Steps P (lone fr (c :: cs) w) (lone (c.finish cv) cs w2)

/-- How a frame that throws, or returns, goes; behind a 'recover', if it was asked. -/
def lateMode : Option Value → Bool → FrameMode
  | none, _ => .returning
  | some v, b => .panicking [{ v := v, recovered := b }]

def CRel (P : Program) (E : Env) (g : Gh) (c : Cfg) (fr : Frame) (w : World) : Prop :=
  match c.todo with
  | .fin :: _ => fr.fn = c.f ∧ ∃ cv w2, Outs P c.st.rnd fr w cv w2 ∧ VA g w2 (look c.st.tm 0) cv ∧ Rel g c.st.mem w2 ∧ Stp g c.st.mem w g c.st.mem w2 ∧ c.st.fix ≤ c.st.mem.length
  | .finP u :: _ => fr.fn = c.f ∧ ∃ cv, fr.leaving P w (.panicked [{ v := cv, recovered := false }]) ∧ VA g w u cv ∧ Rel g c.st.mem w ∧ c.st.fix ≤ c.st.mem.length
  | .thrown u :: _ => ∃ (b : Frame) (a : Act) (todo : List Item) (cv : Value), fr = { b.atR a todo with mode := lateMode (some cv) false } ∧ b.fn = c.f ∧ RndOk g c.st.rnd b ∧ Mk g c.st.mks a.defers ∧ SRel E g c.st a w ∧ VA g w u cv
  | .leave :: _ => ∃ (b : Frame) (a : Act) (todo : List Item), fr = { b.atR a todo with mode := .returning } ∧ b.fn = c.f ∧ RndOk g c.st.rnd b ∧ (∀ i, c.st.rnd ≠ .round i) ∧ c.st.mks = [] ∧ a.defers = [] ∧ SRel E g c.st a w
  | _ => ∃ (b : Frame) (a : Act), fr = b.atR a (erl c.todo) ∧ b.fn = c.f ∧ RndOk g c.st.rnd b ∧ Mk g c.st.mks a.defers ∧ SRel E g c.st a w ∧ ∀ x ∈ c.todo, It.pl x

/-- From a configuration the machine goes on to what another one tells. -/
def Goes (P : Program) (E : Env) (g : Gh) (c : Cfg) (fr : Frame) (w : World) (c' : Cfg) : Prop :=
  ∀ cs, ∃ g' fr' w', Steps P (lone fr cs w) (lone fr' cs w') ∧ CRel P E g' c' fr' w' ∧ Stp g c.st.mem w g' c'.st.mem w' ∧ Fixed g g' c.st.fix ∧ c'.f = c.f ∧ c'.st.fix = c.st.fix ∧ c'.st.rnd = c.st.rnd

/-- A call of a function, of these values, in this memory, tells this value and leaves that memory. -/
def Does (P : Program) (E : Env) (f : FuncId) (args : List AV) (m : Mem) (v : AV) (m' : Mem) : Prop :=
  (∃ fn, P.funcs[f]? = some fn ∧ fn.body.isSome = true ∧ (fn.name == "runtime.NumGoroutine") = false) ∧
  ∀ (g : Gh) (w : World) (cargs : Array Value) (cs : List Frame), Rel g m w → VAs g w args cargs.toList → GlobOk E g w →
    ∃ w' g' cv fr, Steps P (lone (Frame.enter P f cargs .normal) cs w) (lone fr cs w') ∧ fr.leaving P w' (.returned cv) ∧ fr.fn = f ∧
      VA g' w' v cv ∧ Rel g' m' w' ∧ Stp g m w g' m' w' ∧ Fixed g g' m.length ∧ m.length ≤ m'.length

/-- A call that throws this value. -/
def DoesP (P : Program) (E : Env) (f : FuncId) (args : List AV) (m : Mem) (v : AV) (m' : Mem) : Prop :=
  (∃ fn, P.funcs[f]? = some fn ∧ fn.body.isSome = true ∧ (fn.name == "runtime.NumGoroutine") = false) ∧
  ∀ (g : Gh) (w : World) (cargs : Array Value) (cs : List Frame), Rel g m w → VAs g w args cargs.toList → GlobOk E g w →
    ∃ w' g' cv fr, Steps P (lone (Frame.enter P f cargs .normal) cs w) (lone fr cs w') ∧ fr.leaving P w' (.panicked [{ v := cv, recovered := false }]) ∧ fr.fn = f ∧
      VA g' w' v cv ∧ Rel g' m' w' ∧ Stp g m w g' m' w' ∧ Fixed g g' m.length ∧ m.length ≤ m'.length

/-- What was thrown, if something was. -/
def OptVA (g : Gh) (w : World) : Option AV → Option Value → Prop
  | none, none => True
  | some u, some v => VA g w u v
  | _, _ => False

/-- A deferred call, which asks what was thrown. -/
def DoesL (P : Program) (E : Env) (f : FuncId) (args : List AV) (m : Mem) (pv : Option AV) (m' : Mem) : Prop :=
  (∃ fn, P.funcs[f]? = some fn ∧ fn.body.isSome = true ∧ (fn.name == "runtime.NumGoroutine") = false) ∧
  ∀ (g : Gh) (w : World) (cargs : Array Value) (cpv : Option Value) (c0 : Frame) (cs : List Frame), c0.mode = lateMode cpv false → OptVA g w pv cpv → Rel g m w → VAs g w args cargs.toList → GlobOk E g w →
    ∃ w' g' cv fr, Steps P (lone (Frame.enter P f cargs .deferred) (c0 :: cs) w) (lone fr ({ c0 with mode := lateMode cpv true } :: cs) w') ∧ fr.going P w' (.returned cv) ∧ fr.kind = .deferred ∧
      Rel g' m' w' ∧ Stp g m w g' m' w' ∧ Fixed g g' m.length ∧ m.length ≤ m'.length

/-- A round, asked for by a call of 'yield' with these values, in this memory, tells this value and leaves that memory. The first value is 'yield' itself. -/
def DoesR (P : Program) (E : Env) (args : List AV) (m : Mem) (v : AV) (m' : Mem) : Prop :=
  ∀ (g : Gh) (w : World) (i l : Nat) (xs : List AV) (cxs : Array Value) (c : Frame) (cs : List Frame), args = .vy i :: xs → Rel g m w → g.blk i = some l → VAs g w xs cxs.toList → GlobOk E g w →
    ∃ f tmps as bd w' g' cv, (Instr.yield l cxs).run P w = .ok (.round l f tmps as bd) w ∧ Steps P (lone (Frame.round l f tmps as bd .normal) (c :: cs) w) (lone (c.finish cv) cs w') ∧
      VA g' w' v cv ∧ Rel g' m' w' ∧ Stp g m w g' m' w' ∧ Fixed g g' m.length ∧ m.length ≤ m'.length

section
variable {P : Program} {E : Env} {g : Gh} {w : World}

theorem ev_sound {st : St} {a : Act} (h : SRel E g st a w) (x : Operand) : VA g w (ev E st.tm x) (a.eval x) := by
  cases x with
  | tmp t => exact h.tm t
  | const v => exact VA.ofV v
  | global i =>
    simp only [ev, Act.eval]
    cases hg : E.glob i with
    | none => exact .p _ _ (.sc _)
    | some cs => exact .p _ _ (h.glob i cs hg)
  | func f => exact VA.fns.2 ⟨#[], #[], rfl, trivial, trivial⟩

theorem look_cons (tm : Tms) (d k : Nat) (v : AV) : look ((d, v) :: tm) k = if d = k then v else look tm k := by
  simp only [look]
  by_cases h : d = k
  · subst h; simp [Nat.beq_refl]
  · have : Nat.beq d k = false := by rw [Bool.eq_false_iff]; intro e; exact h (Nat.eq_of_beq_eq_true e)
    simp [this, h]

theorem SRel.put {st : St} {a : Act} {g' : Gh} {w' : World} {m' : Mem} (h : SRel E g st a w) {dst : Option Tmp} {v : AV} {cv : Value} (hf : fits st dst = true) (hv : VA g' w' v cv) (he : Ext g w g' w') (hr : Rel g' m' w') (hx : st.fix ≤ m'.length) :
    SRel E g' (Am.put { st with mem := m' } dst v) (a.put dst cv) w' := by
  cases dst with
  | none => exact ⟨fun k => (h.tm k).mono he, h.nt, hr, hx, h.glob.mono he.pure⟩
  | some d =>
    have hd : d < a.tmps.size := by rw [h.nt]; simpa [fits, Nat.blt_eq] using hf
    refine ⟨fun k => ?_, by simp [Act.put, Am.put, h.nt], hr, hx, h.glob.mono he.pure⟩
    simp only [Am.put, look_cons, Act.put]
    by_cases hk : d = k
    · subst hk
      simp only [if_true, Array.getD_eq_getD_getElem?, Array.getElem?_setIfInBounds_self_of_lt hd, Option.getD_some]
      exact hv
    · simp only [hk, if_false, Array.getD_eq_getD_getElem?]
      rw [Array.getElem?_setIfInBounds_ne hk, ← Array.getD_eq_getD_getElem?]
      exact (h.tm k).mono he

/-- A slot that is known another way. -/
theorem SRel.known {st : St} {a : Act} (h : SRel E g st a w) {d : Nat} {v : AV} (hv : VA g w v (a.tmps.getD d undef)) : SRel E g (Am.put st (some d) v) a w := by
  refine ⟨fun k => ?_, h.nt, h.rel, h.fix, h.glob⟩
  simp only [Am.put, look_cons]
  by_cases hk : d = k
  · subst hk; simp only [if_true]; exact hv
  · simp only [hk, if_false]; exact h.tm k

theorem range'_head {k n : Nat} (h : k < n) : List.range' k (n - k) = k :: List.range' (k + 1) (n - (k + 1)) := by
  rw [show n - k = (n - (k + 1)) + 1 by omega, List.range'_succ]

theorem semAt_eq {o : Oper} {ro : Option Nat} {ρ : Operand → Value} {n : Next} {w' : World} (hr : (execOp ρ o).run P w = .ok n w') (hn : ∀ d, n ≠ .defer d) : o.semAt ro ρ = execOp ρ o := by
  unfold Oper.semAt
  cases ro with
  | none => rfl
  | some l =>
    cases ho : o.op <;> first
      | rfl
      | (exfalso
         simp only [execOp, ho, Sem.run_bind] at hr
         revert hr
         cases (resolve ρ _ o.type).run P w <;> intro hr <;> simp [Result.andThen] at hr
         exact hn _ hr.1.symm)

theorem step_op {b : Frame} {a : Act} {k : List Item} {cs : List Frame} {w' : World} {ops : Array Oper} {i : Nat} {rest : List Nat} {o : Oper} {v : Value} (ho : ops[i]? = some o) (hw : Region.wanted o (yielded ops a.tmps) = true)
    (hr : (execOp a.eval o).run P w = .ok (.value v) w' ∨ ((execOp a.eval o).run P w = .ok .skip w' ∧ v = undef)) :
    _root_.Go.step P (lone (b.atR a (.inRegion ops (i :: rest) :: k)) cs w) = .next (lone (b.atR (a.put o.dst v) (.inRegion ops rest :: k)) cs w') := by
  have hg := stepGR_op (P := P) (b := b) (k := k) (cs := cs) (w := w) (rest := rest) ho hw
  have hfin : (b.atR a (.inRegion ops (i :: rest) :: k)).finish v = b.atR (a.put o.dst v) (.inRegion ops rest :: k) := by rw [Frame.finish_atR, ho]; rfl
  refine step_lone_go ?_
  rw [hg, ← hfin]
  rcases hr with hr | ⟨hr, rfl⟩
  · rw [semAt_eq hr fun _ e => by cases e]; simp [stepG.apply, hr]
  · rw [semAt_eq hr fun _ e => by cases e]; simp [stepG.apply, hr]

theorem step_enter {b : Frame} {a : Act} {k : List Item} {cs : List Frame} {w' : World} {ops : Array Oper} {i : Nat} {rest : List Nat} {o : Oper} {f : FuncId} {args : Array Value} (ho : ops[i]? = some o) (hw : Region.wanted o (yielded ops a.tmps) = true)
    (hr : (execOp a.eval o).run P w = .ok (.enter f args) w') :
    _root_.Go.step P (lone (b.atR a (.inRegion ops (i :: rest) :: k)) cs w) = .next (lone (Frame.enter P f args .normal) (b.atR a (.inRegion ops (i :: rest) :: k) :: cs) w') := by
  have hg := stepGR_op (P := P) (b := b) (k := k) (cs := cs) (w := w) (rest := rest) ho hw
  exact step_lone_go (by rw [hg, semAt_eq hr fun _ e => by cases e]; simp [stepG.apply, hr, Frame.atR])

/-- What 'wants' says. -/
theorem wants_yes {st : St} {a : Act} (h : SRel E g st a w) {ops : Array Oper} {o : Oper} :
    (wants ops st.tm o = .yes → Region.wanted o (yielded ops a.tmps) = true) ∧ (wants ops st.tm o = .no → Region.wanted o (yielded ops a.tmps) = false) ∧
    (∀ d b want, wants ops st.tm o = .ask d b want → Region.wanted o (yielded ops a.tmps) = (b == want) ∧ a.tmps.getD d undef = .bool b) := by
  unfold wants Region.wanted
  cases hg : o.guard with
  | none => simp
  | some q =>
    obtain ⟨j, want⟩ := q
    simp only [yielded]
    cases hj : ops[j]? with
    | none => simp
    | some oj =>
      simp only [Option.bind_some]
      cases hd : oj.dst with
      | none => simp
      | some d =>
        simp only [Option.bind_some]
        have hv := h.tm d
        have hget : a.tmps.getD d undef = (a.tmps[d]?).getD undef := by rw [Array.getD_eq_getD_getElem?]
        generalize hz : a.tmps.getD d undef = z at hv hget
        generalize hl : look st.tm d = x at hv
        cases hv with
        | p pv cv hp =>
          cases hp with
          | sc =>
            cases z with
            | bool b =>
              have : a.tmps[d]? = some (.bool b) := by
                cases ha : a.tmps[d]? with
                | none => rw [ha] at hget; cases hget
                | some u => rw [ha] at hget; simp at hget; rw [hget]
              refine ⟨fun h => (by cases h), fun h => (by cases h), ?_⟩
              rintro d' b' w' e
              cases e
              refine ⟨?_, hz⟩
              simp only [this]
              cases b <;> cases want <;> rfl
            | _ => exact ⟨fun h => (by cases h), fun h => (by cases h), fun _ _ _ h => (by cases h)⟩
          | _ => exact ⟨fun h => (by cases h), fun h => (by cases h), fun _ _ _ h => (by cases h)⟩
        | tup l cs hl' hh =>
          refine ⟨fun h => (by cases h), fun _ => ?_, fun _ _ _ h => (by cases h)⟩
          cases ha : a.tmps[d]? with
          | none => simp
          | some u =>
            rw [ha] at hget; simp at hget
            subst hget
            simp
        | _ => exact ⟨fun h => (by cases h), fun h => (by cases h), fun _ _ _ h => (by cases h)⟩

end
end Go.Am
