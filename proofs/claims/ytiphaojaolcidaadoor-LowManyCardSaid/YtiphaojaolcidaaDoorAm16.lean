/-
  The executor's steps are the machine's: calls, ends, every step.
-/
import Derived.Test.YtiphaojaolcidaaDoorAm15
import Derived.Laws.Externs
import Derived.KernelRfl
namespace Go.Am
open Go.RowKit

section
variable {P : Program} {E : Env} {g : Gh} {w : World}

theorem apply_length : ∀ (us : Upd) (m : Mem), (apply m us).length = m.length
  | [], _ => rfl
  | (i, b) :: us, m => by simp [apply, apply_length us]

/-- From a configuration the machine goes on to what one of some tells. -/
def GoesAny (P : Program) (E : Env) (g : Gh) (c : Cfg) (fr : Frame) (w : World) (l : List Cfg) : Prop :=
  ∀ cs, ∃ c' ∈ l, ∃ g' fr' w', Steps P (lone fr cs w) (lone fr' cs w') ∧ CRel P E g' c' fr' w' ∧ Stp g c.st.mem w g' c'.st.mem w' ∧ Fixed g g' c.st.fix ∧ c'.f = c.f ∧ c'.st.fix = c.st.fix ∧ c'.st.rnd = c.st.rnd

/-- What an event tells of the machine. (Regions whose order is open: elsewhere.) -/
def EvOk (P : Program) (E : Env) (g : Gh) (c : Cfg) (fr : Frame) (w : World) : Ev → Prop
  | .next c' => Goes P E g c fr w c'
  | .must b c' => b = true → Goes P E g c fr w c'
  | .test b y z => (b = true → Goes P E g c fr w y) ∧ (b = false → Goes P E g c fr w z)
  | .call f args m ord dst c' => (∀ v m1, Does P E f args m v m1 → Goes P E g c fr w { c' with st := back ord dst c'.st v m1 }) ∧ ∀ u m1, DoesP P E f args m u m1 → Goes P E g c fr w (thrownAt ord c' u m1)
  | .late f args m ord pv c' => ∀ m1, DoesL P E f args m pv m1 → Goes P E g c fr w { c' with st := back ord none c'.st (.tup []) m1 }
  | .round args m ord dst c' => ∀ v m1, DoesR P E args m v m1 → Goes P E g c fr w { c' with st := back ord dst c'.st v m1 }
  | .range f args m ord L c' => ∀ v m1, Does P E f args m v m1 → ∀ m2 pd, rangeEnd (back ord none c'.st v m1).mem L = some (m2, pd) → Goes P E g c fr w (behind c' m2 pd)
  | .draw rid ops c' => ∀ (O : FuncId → List AV → Mem → Option (AV × Mem)) (st' : St), (∀ g args m v m1, O g args m = some (v, m1) → Does P E g args m v m1) → ledRun P E c'.f rid O ops c'.st = some (st', true) →
      Goes P E g c fr w { c' with st := { st' with mks := c'.st.mks, rnd := c'.st.rnd } }
  | .fork l => GoesAny P E g c fr w l
  | .done (.ret v m') => fr.fn = c.f ∧ m' = c.st.mem ∧ ∃ cv w2, Outs P c.st.rnd fr w cv w2 ∧ VA g w2 v cv ∧ Rel g m' w2 ∧ Stp g m' w g m' w2 ∧ c.st.fix ≤ m'.length
  | .done (.pan v m') => fr.fn = c.f ∧ m' = c.st.mem ∧ ∃ cv, fr.leaving P w (.panicked [{ v := cv, recovered := false }]) ∧ VA g w v cv ∧ Rel g m' w ∧ c.st.fix ≤ m'.length
  | .fail => True

theorem nf {x : It} {k : List It} (hx : It.pl x) (hk : ∀ y ∈ k, It.pl y) : ∀ y ∈ x :: k, It.pl y := by
  intro y hy
  cases hy with
  | head => exact hx
  | tail _ hy => exact hk y hy

theorem CRel.mk {c : Cfg} {b : Frame} {a : Act} (hnf : ∀ x ∈ c.todo, It.pl x) (h1 : b.fn = c.f) (h2 : RndOk g c.st.rnd b) (h3 : Mk g c.st.mks a.defers) (h4 : SRel E g c.st a w) : CRel P E g c (b.atR a (erl c.todo)) w := by
  unfold CRel
  split
  · rename_i hk; exact absurd (hnf _ (by rw [hk]; exact .head _)) id
  · rename_i hk; exact absurd (hnf _ (by rw [hk]; exact .head _)) id
  · rename_i hk; exact absurd (hnf _ (by rw [hk]; exact .head _)) id
  · rename_i hk; exact absurd (hnf _ (by rw [hk]; exact .head _)) id
  · exact ⟨b, a, rfl, h1, h2, h3, h4, hnf⟩

/-- The machine goes some steps; memory stays. -/
theorem Goes.quiet {c c' : Cfg} {b : Frame} {a : Act} {fr : Frame} (hst : ∀ cs, Steps P (lone fr cs w) (lone (b.atR a (erl c'.todo)) cs w))
    (hnf : ∀ x ∈ c'.todo, It.pl x) (h1 : b.fn = c.f) (hf : c'.f = c.f) (h2 : RndOk g c'.st.rnd b) (h3 : Mk g c'.st.mks a.defers) (h4 : SRel E g c'.st a w) (hm : c'.st.mem = c.st.mem) (hx : c'.st.fix = c.st.fix) (hr : c'.st.rnd = c.st.rnd := by rfl) : Goes P E g c fr w c' := by
  intro cs
  exact ⟨g, _, w, hst cs, CRel.mk hnf (h1.trans hf.symm) h2 h3 h4, by rw [hm]; exact Stp.refl _ _ _, Fixed.refl _ _, hf, hx, hr⟩

theorem put_defers {a : Act} {d : Option Tmp} {v : Value} : (a.put d v).defers = a.defers := by cases d <;> rfl
theorem put_mk {st : St} {d : Option Tmp} {v : AV} : (Am.put st d v).mks = st.mks := by cases d <;> rfl

theorem put_rnd {st : St} {d : Option Tmp} {v : AV} : (Am.put st d v).rnd = st.rnd := by cases d <;> rfl

theorem RndOk.put {g g' : Gh} {w w' : World} {st st' : St} {b : Frame} {d : Option Tmp} {u : AV} (h : RndOk g st.rnd b) (e : Ext g w g' w') (hm : st'.rnd = st.rnd) : RndOk g' (Am.put st' d u).rnd b := by
  rw [put_rnd, hm]
  exact h.ext fun i c q => (e.blk i c q).1

theorem Mk.put {g g' : Gh} {w w' : World} {st st' : St} {a : Act} {d : Option Tmp} {v : Value} {u : AV} (h : Mk g st.mks a.defers) (e : Ext g w g' w') (hm : st'.mks = st.mks) : Mk g' (Am.put st' d u).mks (a.put d v).defers := by
  rw [put_defers, put_mk, hm]
  exact h.ext fun i c q => (e.blk i c q).1

theorem run_call {a : Act} {o : Oper} {c : Call} {x : Operand} {f : FuncId} {fa ca : Array Value} (ho : o.op = .call c) (hc : c.callee = .value x) (hx : a.eval x = .func (.func f) fa ca)
    {fn : Func} (hf : P.funcs[f]? = some fn) (hb : fn.body.isSome = true) (hn : (fn.name == "runtime.NumGoroutine") = false) :
    (execOp a.eval o).run P w = .ok (.enter f (fa ++ c.args.map a.eval ++ ca)) w := by
  have hbn : fn.body.isNone = false := by cases hq : fn.body <;> simp_all
  simp only [execOp, ho, resolve, hc, hx, Deferred.ofValue, Sem.run_bind, Sem.run_pure, Result.andThen_ok, invoke, callFunc, run_program, hf, hn, Bool.false_eq_true, if_false, hbn]

theorem step_round {b : Frame} {a : Act} {k : List Item} {cs : List Frame} {w' : World} {ops : Array Oper} {i : Nat} {rest : List Nat} {o : Oper} {l : Nat} {f : FuncId} {tmps : Array Value} {as bd : Code} (ho : ops[i]? = some o)
    (hw : Region.wanted o (yielded ops a.tmps) = true) (hr : (execOp a.eval o).run P w = .ok (.round l f tmps as bd) w') :
    _root_.Go.step P (lone (b.atR a (.inRegion ops (i :: rest) :: k)) cs w) = .next (lone (Frame.round l f tmps as bd .normal) (b.atR a (.inRegion ops (i :: rest) :: k) :: cs) w') := by
  have hg := stepGR_op (P := P) (b := b) (k := k) (cs := cs) (w := w) (rest := rest) ho hw
  exact step_lone_go (by rw [hg, semAt_eq hr fun _ e => by cases e]; simp [stepG.apply, hr, Frame.atR])

theorem run_yieldCall {a : Act} {o : Oper} {c : Call} {x : Operand} {l : Nat} (ho : o.op = .call c) (hc : c.callee = .value x) (hx : a.eval x = .func (.yield l) #[] #[]) {n : Next} {w' : World}
    (hy : (Instr.yield l (c.args.map a.eval)).run P w = .ok n w') : (execOp a.eval o).run P w = .ok n w' := by
  simp only [execOp, ho, resolve, hc, hx, Deferred.ofValue, Sem.run_bind, Sem.run_pure, Result.andThen_ok, invoke, callFunc, Array.empty_append]
  exact hy

/-- The call of 'yield', behind its round. -/
theorem round_ok {st : St} {a : Act} {b : Frame} {k : List Item} {ops : Array Oper} {i : Nat} {rest : List Nat} {o : Oper} {args : List AV} {v : AV} {m1 : Mem}
    (hs : SRel E g st a w) (hd : Mk g st.mks a.defers) (hb : RndOk g st.rnd b) (ho : ops[i]? = some o) (hw : Region.wanted o (yielded ops a.tmps) = true) (ht : targetY (ev E st.tm) o = some args)
    (hf : fits st o.dst = true) (hlt : allLt (close st.mem 0 args) st.mem.length = true)
    (hdoes : DoesR P E (renL (idx (close st.mem 0 args)) args) (pack st.mem (close st.mem 0 args)) v m1) :
    ∀ cs, ∃ g' a' w', Steps P (lone (b.atR a (.inRegion ops (i :: rest) :: k)) cs w) (lone (b.atR a' (.inRegion ops rest :: k)) cs w') ∧
      Mk g' (back (close st.mem 0 args) o.dst st v m1).mks a'.defers ∧ RndOk g' (back (close st.mem 0 args) o.dst st v m1).rnd b ∧ SRel E g' (back (close st.mem 0 args) o.dst st v m1) a' w' ∧
      Stp g st.mem w g' (back (close st.mem 0 args) o.dst st v m1).mem w' ∧ Fixed g g' st.fix ∧ (back (close st.mem 0 args) o.dst st v m1).fix = st.fix := by
  intro cs
  have hev := ev_sound hs
  unfold targetY at ht
  split at ht
  · rename_i call hop
    split at ht
    · rename_i x hcal
      split at ht
      · rename_i bl hx
        simp only [Option.some.injEq] at ht
        subst ht
        have hvx := hev x
        rw [hx] at hvx
        generalize hcx : a.eval x = cx at hvx
        cases hvx with
        | vy _ l hl =>
          have hin : bl ∈ close st.mem 0 (.vy bl :: call.args.toList.map (ev E st.tm)) := by
            obtain ⟨_, t, h2⟩ := addAll_spec (refsL (.vy bl :: call.args.toList.map (ev E st.tm))) (upTo 0) (upTo_nodup 0)
            obtain ⟨_, t', h4⟩ := reach_spec st.mem (st.mem.length + 1) (addAll (upTo 0) (refsL (.vy bl :: call.args.toList.map (ev E st.tm)))) 0 (addAll_spec _ _ (upTo_nodup 0)).1
            unfold close
            rw [h4]
            refine List.mem_append_left _ ?_
            show bl ∈ addAll [] (bl :: refsL (call.args.toList.map (ev E st.tm)))
            simp only [addAll, has, cond_false, List.nil_append]
            obtain ⟨_, t2, h5⟩ := addAll_spec (refsL (call.args.toList.map (ev E st.tm))) [bl] (by simp)
            rw [h5]
            exact List.mem_append_left _ (by simp)
          have hargs : VAs g w (call.args.toList.map (ev E st.tm)) (call.args.map a.eval).toList := by
            rw [Array.toList_map]; exact maps_sound hev _
          generalize hxs : call.args.toList.map (ev E st.tm) = xs at *
          obtain ⟨hnd, _⟩ := close_spec st.mem 0 (.vy bl :: xs)
          generalize close st.mem 0 (.vy bl :: xs) = ord at *
          obtain ⟨hp1, hp2⟩ := hs.rel.pack hnd
          have hren := Renames.pack g ord
          obtain ⟨j, hj1, hj2⟩ := List.getElem_of_mem hin
          have hoj : ord[j]? = some bl := by rw [List.getElem?_eq_getElem hj1, hj2]
          have hidx : idx ord bl = some j := idx_of_get hnd hoj
          have hra : renL (idx ord) (.vy bl :: xs) = .vy j :: renL (idx ord) xs := by simp only [renL, Am.ren, hidx]
          have hbj : (g.pack ord).blk j = some l := by simp [Gh.pack, hoj, hl]
          obtain ⟨f, tmps, as, bd, w', g', cv, y, q1, q4, q5, q6, q7, q8⟩ := hdoes (g.pack ord) w j l (renL (idx ord) xs) (call.args.map a.eval) (b.atR a (.inRegion ops (i :: rest) :: k)) cs hra hp1 hbj
            (VAs.ren hren hargs) (hs.glob.mono fun _ _ p => ⟨p, rfl⟩)
          have hlen : (Am.pack st.mem ord).length = ord.length := by simp [Am.pack]
          rw [hlen] at q7 q8
          obtain ⟨r1, r2, r3, r4⟩ := hs.rel.back hnd (allLt_mem hlt) q5 q6 q7 q8
          have hstep := step_round (b := b) (k := k) (cs := cs) (rest := rest) ho hw (run_yieldCall hop hcal hcx y)
          have hfin : (b.atR a (.inRegion ops (i :: rest) :: k)).finish cv = b.atR (a.put o.dst cv) (.inRegion ops rest :: k) := by rw [Frame.finish_atR, ho]; rfl
          rw [hfin] at q1
          have hlen2 : st.fix ≤ (backMem (backIdx ord st.mem.length) ord m1 st.mem).length := by
            rw [backMem_length _ _ _ _ q8]; have := hs.fix; omega
          refine ⟨_, a.put o.dst cv, w', .head hstep q1, hd.put (st' := { st with mem := _ }) r2 rfl, hb.put (st' := { st with mem := _ }) r2 rfl, hs.put hf (q4.ren r4) r2 r1 hlen2, ?_, Fixed.ofExt r2 _, ?_⟩
          · have : (back ord o.dst st v m1).mem = backMem (backIdx ord st.mem.length) ord m1 st.mem := by
              unfold back Am.put; cases o.dst <;> rfl
            rw [this]; exact r3
          · unfold back Am.put; cases o.dst <;> rfl
      · cases ht
    · cases ht
  · cases ht

/-- A function without a body that tells its argument. -/
theorem isEsc_run {f : FuncId} (h : isEsc P f = true) (x : Value) : (callFunc f #[x]).run P w = .ok (.value x) w := by
  unfold isEsc at h
  split at h
  · rename_i fn hf
    simp only [Bool.and_eq_true] at h
    obtain ⟨h1, h2, h3⟩ := h
    have h2 := of_decide_eq_true h2
    have h3 := of_decide_eq_true h3
    have hn : (fn.name == "runtime.NumGoroutine") = false := by rw [h2]; decide
    have q1 : Extern.findNext fn = none := by
      simp only [Extern.findNext, h2, h3]
      kernel_rfl
    have q2 : Extern.find fn = some Extern.AbiNoEscape.same := by
      simp only [Extern.find, h2, h3]
      kernel_rfl
    rw [run_callFunc_extern hf hn h1 q1 q2]
    rfl
  · cases h

theorem escOp_sound {ρ : Operand → AV} {ρc : Operand → Value} (hr : ∀ x, VA g w (ρ x) (ρc x)) {o : Oper} {v : AV} (h : escOp P ρ o = some v) : ∃ cv, (execOp ρc o).run P w = .ok (.value cv) w ∧ VA g w v cv := by
  unfold escOp at h
  split at h
  · rename_i c ho
    split at h
    · rename_i f x hc ha
      have harr : c.args = #[x] := by have := congrArg List.toArray ha; simpa using this
      split at h
      · rename_i q hq
        cases he : isEsc P q with
        | false => rw [he] at h; cases h
        | true =>
          rw [he] at h
          simp only [cond_true, Option.some.injEq] at h
          subst h
          have hf := hr f
          rw [hq, VA.fns] at hf
          obtain ⟨fa, ca, hcf, q1, q2⟩ := hf
          have e1 : fa = #[] := by cases fa with | mk l => cases l with | nil => rfl | cons _ _ => exact q1.elim
          have e2 : ca = #[] := by cases ca with | mk l => cases l with | nil => rfl | cons _ _ => exact q2.elim
          subst e1; subst e2
          refine ⟨ρc x, ?_, hr x⟩
          simp only [execOp, ho, resolve, hc, hcf, harr, Deferred.ofValue, Sem.run_bind, Sem.run_pure, Result.andThen_ok, invoke, List.map_toArray, List.map_cons, List.map_nil, Array.append_empty, Array.empty_append]
          exact isEsc_run he _
      · cases h
    · cases h
  · cases h

theorem isIfc_iface {v : AV} {cv : Value} (h : isIfc v = true) (hv : VA g w v cv) : ∃ t x, cv = .iface t x := by
  cases hv with
  | ifc t v cv h => exact ⟨t, cv, rfl⟩
  | p v cv h' => cases h' with
    | ifc t v cv h => exact ⟨t, cv, rfl⟩
    | _ => cases h
  | _ => cases h

/-- A value is thrown. -/
theorem step_throw {b : Frame} {a : Act} {k : List Item} {cs : List Frame} {ops : Array Oper} {i : Nat} {rest : List Nat} {o : Oper} {v : Value} (ho : ops[i]? = some o) (hw : Region.wanted o (yielded ops a.tmps) = true)
    (hr : (o.semAt b.roundOf a.eval).run P w = .halt (.panic v) w) :
    _root_.Go.step P (lone (b.atR a (.inRegion ops (i :: rest) :: k)) cs w) = .next (lone { b.atR a (.inRegion ops (i :: rest) :: k) with mode := lateMode (some v) false } cs w) := by
  have hg := stepGR_op (P := P) (b := b) (k := k) (cs := cs) (w := w) (rest := rest) ho hw
  refine step_lone_go ?_
  rw [hg]
  simp [stepG.apply, hr, Frame.raise, Frame.atR, lateMode]

theorem mpsOf_sound : ∀ {l : List AV} {q : List (Nat × Nat)} {cs : List Value}, mpsOf l = some q → VAs g w l cs → Mps g q cs
  | [], q, [], h, _ => by
    simp only [mpsOf, Option.some.injEq] at h; subst h; trivial
  | .mp b off :: l, q, cv :: cs, h, hv => by
    simp only [mpsOf] at h
    split at h
    · rename_i l' hl
      simp only [Option.some.injEq] at h; subst h
      have h1 := hv.1
      cases h1 with
      | mp _ _ c hc => exact ⟨⟨c, hc, rfl⟩, mpsOf_sound hl hv.2⟩
    · cases h
  | [], _, _ :: _, _, hv => hv.elim
  | _ :: _, _, [], _, hv => hv.elim
  | .junk :: _, _, _ :: _, h, _ | .p _ :: _, _, _ :: _, h, _ | .os .. :: _, _, _ :: _, h, _ | .ms .. :: _, _, _ :: _, h, _ | .fn .. :: _, _, _ :: _, h, _ | .agg _ :: _, _, _ :: _, h, _ | .tup _ :: _, _, _ :: _, h, _
  | .ifc .. :: _, _, _ :: _, h, _ | .vm _ :: _, _, _ :: _, h, _ | .vy _ :: _, _, _ :: _, h, _ => by cases h

theorem outOp_ok {c : Cfg} {b : Frame} {a : Act} {k0 : List It} {ops : Array Oper} {i rid : Nat} {o : Oper} (hs : SRel E g c.st a w) (hbf : b.fn = c.f) (hbk : RndOk g c.st.rnd b) (hd : Mk g c.st.mks a.defers)
    (ho : ops[i]? = some o) (hw : Region.wanted o (yielded ops a.tmps) = true) (hk0 : ∀ x ∈ k0, It.pl x) :
    EvOk P E g c (b.atR a (.inRegion ops (i :: List.range' (i + 1) (ops.size - (i + 1))) :: erl k0)) w (outOp E c o (.ops rid ops (i + 1) false :: k0)) := by
  have hev := ev_sound hs
  have throw : ∀ (x : Operand), isIfc (ev E c.st.tm x) = true → (∀ v, a.eval x = v → (∃ t y, v = .iface t y) → (o.semAt b.roundOf a.eval).run P w = .halt (.panic v) w) →
      Goes P E g c (b.atR a (.inRegion ops (i :: List.range' (i + 1) (ops.size - (i + 1))) :: erl k0)) w { c with todo := [.thrown (ev E c.st.tm x)] } := by
    intro x hx hrun cs
    have hr := hrun _ rfl (isIfc_iface hx (hev x))
    exact ⟨g, _, w, .one (step_throw ho hw hr), ⟨b, a, _, a.eval x, rfl, hbf, hbk, hd, hs, hev x⟩, Stp.refl _ _ _, Fixed.refl _ _, rfl, rfl, rfl⟩
  unfold outOp
  split
  · rename_i x hop
    cases hx : isIfc (ev E c.st.tm x) with
    | false => trivial
    | true =>
      refine throw x hx fun v hv ⟨t, y, e⟩ => ?_
      have hsem : o.semAt b.roundOf a.eval = execOp a.eval o := by unfold Oper.semAt; rw [hop]; cases b.roundOf <;> rfl
      rw [hsem]
      subst hv
      simp only [execOp, hop, e, Instr.panic]
      rfl
  · rename_i d hop
    split
    · rename_i x hc ha
      have harr : d.args = #[x] := by have := congrArg List.toArray ha; simpa using this
      cases hx : isIfc (ev E c.st.tm x) with
      | false => trivial
      | true =>
        refine throw x hx fun v hv ⟨t, y, e⟩ => ?_
        have hsem : o.semAt b.roundOf a.eval = execOp a.eval o := by unfold Oper.semAt; rw [hop]; cases b.roundOf <;> rfl
        rw [hsem]
        subst hv
        simp only [execOp, hop, resolve, hc, harr, Sem.run_bind, Sem.run_pure, Result.andThen_ok, invoke, List.map_toArray, List.map_cons, List.map_nil, e]
        rfl
    · trivial
  · rename_i d hop
    split
    · trivial
    · rename_i f hmk hcal hnr
      split
      · rename_i gf first captured hf
        split
        · rename_i l m hl hm
          intro hfit cs
          have hvf := hev f
          rw [hf, VA.fns] at hvf
          obtain ⟨fa, ca, hcf, hfa, hca⟩ := hvf
          have hro := hbk.noRound fun i e => hnr i e
          have hrun : (o.semAt b.roundOf a.eval).run P w = .ok (.defer { target := .fn (.func gf) ca, args := fa ++ d.args.map a.eval }) w := by
            rw [hro]
            simp only [Oper.semAt, execOp, hop, resolve, hcal, hcf, Deferred.ofValue, Sem.run_bind, Sem.run_pure, Result.andThen_ok]
          have hargs : VAs g w (first ++ d.args.toList.map (ev E c.st.tm)) (fa ++ d.args.map a.eval).toList := by
            simp only [Array.toList_append, Array.toList_map]
            exact hfa.append (maps_sound hev _)
          rw [hmk] at hd
          have hds : a.defers = [] := by
            cases hq : a.defers with
            | nil => rfl
            | cons _ _ => rw [hq] at hd; exact hd.elim
          have hstep : _root_.Go.step P (lone (b.atR a (.inRegion ops (i :: List.range' (i + 1) (ops.size - (i + 1))) :: erl k0)) cs w) =
              .next (lone (b.atR ({ a with defers := [{ target := .fn (.func gf) ca, args := fa ++ d.args.map a.eval }] }.put o.dst undef) (.inRegion ops (List.range' (i + 1) (ops.size - (i + 1))) :: erl k0)) cs w) := by
            have hg := stepGR_op (P := P) (b := b) (k := erl k0) (cs := cs) (w := w) (rest := List.range' (i + 1) (ops.size - (i + 1))) ho hw
            have hfin : ({ b.atR a (.inRegion ops (i :: List.range' (i + 1) (ops.size - (i + 1))) :: erl k0) with defers := { target := .fn (.func gf) ca, args := fa ++ d.args.map a.eval } :: a.defers } : Frame).finish undef =
                b.atR ({ a with defers := [{ target := .fn (.func gf) ca, args := fa ++ d.args.map a.eval }] }.put o.dst undef) (.inRegion ops (List.range' (i + 1) (ops.size - (i + 1))) :: erl k0) := by
              have := Frame.finish_atR b { a with defers := [{ target := .fn (.func gf) ca, args := fa ++ d.args.map a.eval }] } ops i (List.range' (i + 1) (ops.size - (i + 1))) (erl k0) undef
              rw [ho] at this
              rw [hds]
              exact this
            refine step_lone_go ?_
            rw [hg]
            simp only [stepG.apply, Sem.runT_eq, hrun, GStep.bare_after]
            exact congrArg (fun fr => GStep.go { frame := fr, callers := cs, status := .running, dying := none } w) hfin
          have hs' : SRel E g { c.st with mks := [.late gf l m] } { a with defers := [{ target := .fn (.func gf) ca, args := fa ++ d.args.map a.eval }] } w := ⟨hs.tm, hs.nt, hs.rel, hs.fix, hs.glob⟩
          have hd' : Mk g [.late gf l m] [{ target := .fn (.func gf) ca, args := fa ++ d.args.map a.eval }] := ⟨⟨_, _, mpsOf_sound hl hargs, mpsOf_sound hm hca, rfl⟩, trivial⟩
          refine ⟨g, _, w, .one hstep, CRel.mk (c := { c with todo := .ops rid ops (i + 1) false :: k0, st := put { c.st with mks := [.late gf l m] } o.dst (.tup []) }) (nf trivial hk0) hbf
            (hbk.put (st := c.st) (st' := { c.st with mks := [.late gf l m] }) (Ext.refl g w) rfl)
            (Mk.put (st := { c.st with mks := [.late gf l m] }) (st' := { c.st with mks := [.late gf l m] }) (a := { a with defers := [{ target := .fn (.func gf) ca, args := fa ++ d.args.map a.eval }] }) hd' (Ext.refl g w) rfl)
            (hs'.put (cv := undef) (v := .tup []) (m' := c.st.mem) hfit (VA.tups.2 trivial) (Ext.refl g w) hs.rel hs.fix), ?_, Fixed.refl _ _, rfl, ?_, put_rnd⟩
          · have : (put { c.st with mks := [.late gf l m] } o.dst (.tup [])).mem = c.st.mem := by unfold Am.put; cases o.dst <;> rfl
            show Stp g c.st.mem w g (put { c.st with mks := [.late gf l m] } o.dst (.tup [])).mem w
            rw [this]; exact Stp.refl _ _ _
          · show (put { c.st with mks := [.late gf l m] } o.dst (.tup [])).fix = c.st.fix
            unfold Am.put; cases o.dst <;> rfl
        · trivial
      · trivial
    · trivial
  · trivial

theorem doOp_ok {c : Cfg} {b : Frame} {a : Act} {k0 : List It} {ops : Array Oper} {i rid : Nat} {o : Oper} (hs : SRel E g c.st a w) (hbf : b.fn = c.f) (hbk : RndOk g c.st.rnd b) (hd : Mk g c.st.mks a.defers)
    (ho : ops[i]? = some o) (hw : Region.wanted o (yielded ops a.tmps) = true) (hk0 : ∀ x ∈ k0, It.pl x) :
    EvOk P E g c (b.atR a (.inRegion ops (List.range' i (ops.size - i)) :: erl k0)) w (doOp P E c rid o (.ops rid ops (i + 1) false :: k0)) := by
  have hi : i < ops.size := by
    rcases Nat.lt_or_ge i ops.size with q | q
    · exact q
    · rw [Array.getElem?_eq_none q] at ho; cases ho
  rw [range'_head hi]
  unfold doOp
  have hev := ev_sound hs
  split
  · rename_i f args ht
    split
    · rename_i v hesc
      intro hok cs
      obtain ⟨cv, k1, k2⟩ := escOp_sound hev hesc
      have hstep := step_op (b := b) (k := erl k0) (cs := cs) (rest := List.range' (i + 1) (ops.size - (i + 1))) ho hw (.inl k1)
      refine ⟨g, _, w, .one hstep, CRel.mk (a := a.put o.dst cv) (c := { c with todo := .ops rid ops (i + 1) false :: k0, st := put { c.st with mem := c.st.mem } o.dst v }) (nf trivial hk0) hbf (hbk.put (st' := { c.st with mem := _ }) (Ext.refl g w) rfl) (hd.put (st' := { c.st with mem := _ }) (Ext.refl g w) rfl) (hs.put hok k2 (Ext.refl g w) hs.rel hs.fix), ?_, Fixed.refl _ _, rfl, ?_, put_rnd⟩
      · have : (put c.st o.dst v).mem = c.st.mem := (by unfold Am.put; cases o.dst <;> rfl)
        show Stp g c.st.mem w g (put c.st o.dst v).mem w
        rw [this]; exact Stp.refl _ _ _
      · show (put c.st o.dst v).fix = c.st.fix
        unfold Am.put; cases o.dst <;> rfl
    cases hb : (fits c.st o.dst && allLt (close c.st.mem 0 args) c.st.mem.length) with
    | false => simp only [hb, cond_false]; trivial
    | true =>
      simp only [hb, cond_true]
      simp only [Bool.and_eq_true] at hb
      -- the call's operands
      unfold target at ht
      split at ht
      · rename_i call hop
        split at ht
        · rename_i x hcal
          split at ht
          · rename_i f' first captured hx
            simp only [Option.some.injEq, Prod.mk.injEq] at ht
            obtain ⟨rfl, rfl⟩ := ht
            have hvx := hev x
            rw [hx, VA.fns] at hvx
            obtain ⟨fa, ca, hvx, hfa, hca⟩ := hvx
            have hargs : VAs g w (first ++ call.args.toList.map (ev E c.st.tm) ++ captured) (fa ++ call.args.map a.eval ++ ca).toList := by
              simp only [Array.toList_append, Array.toList_map]
              exact (hfa.append (maps_sound hev _)).append hca
            generalize first ++ call.args.toList.map (ev E c.st.tm) ++ captured = args at *
            obtain ⟨hnd, _⟩ := close_spec c.st.mem 0 args
            generalize close c.st.mem 0 args = ord at *
            obtain ⟨hp1, hp2⟩ := hs.rel.pack hnd
            have hren := Renames.pack g ord
            have hlen : (Am.pack c.st.mem ord).length = ord.length := by simp [Am.pack]
            constructor
            · intro v m1 hdoes cs
              obtain ⟨⟨fn, hf1, hf2, hf3⟩, hdoes⟩ := hdoes
              have hrun := run_call (P := P) (w := w) hop hcal hvx hf1 hf2 hf3
              obtain ⟨w', g', cv, fr, q1, q2, q3, q4, q5, q6, q7, q8⟩ := hdoes (g.pack ord) w (fa ++ call.args.map a.eval ++ ca) (b.atR a (.inRegion ops (i :: List.range' (i + 1) (ops.size - (i + 1))) :: erl k0) :: cs) hp1
                (VAs.ren hren hargs) (hs.glob.mono fun _ _ p => ⟨p, rfl⟩)
              rw [hlen] at q7 q8
              obtain ⟨r1, r2, r3, r4⟩ := hs.rel.back hnd (allLt_mem hb.2) q5 q6 q7 q8
              have hstep := step_enter (b := b) (k := erl k0) (cs := cs) (rest := List.range' (i + 1) (ops.size - (i + 1))) ho hw hrun
              have hleave := step_leave_returned (P := P) (c := b.atR a (.inRegion ops (i :: List.range' (i + 1) (ops.size - (i + 1))) :: erl k0)) (cs := cs) q2
              have hfin : (b.atR a (.inRegion ops (i :: List.range' (i + 1) (ops.size - (i + 1))) :: erl k0)).finish cv = b.atR (a.put o.dst cv) (.inRegion ops (List.range' (i + 1) (ops.size - (i + 1))) :: erl k0) := by
                rw [Frame.finish_atR, ho]; rfl
              rw [hfin] at hleave
              have hlen2 : c.st.fix ≤ (backMem (backIdx ord c.st.mem.length) ord m1 c.st.mem).length := by
                rw [backMem_length _ _ _ _ q8]; have := hs.fix; omega
              refine ⟨_, _, w', .head hstep (q1.trans (.one hleave)), CRel.mk (a := a.put o.dst cv) (c := { c with todo := .ops rid ops (i + 1) false :: k0, st := back ord o.dst c.st v m1 }) (nf trivial hk0) hbf (hbk.put (st' := { c.st with mem := _ }) r2 rfl) (hd.put (st' := { c.st with mem := _ }) r2 rfl) (hs.put hb.1 (q4.ren r4) r2 r1 hlen2), ?_, Fixed.ofExt r2 _, rfl, ?_, put_rnd⟩
              · have : (back ord o.dst c.st v m1).mem = backMem (backIdx ord c.st.mem.length) ord m1 c.st.mem := by
                  unfold back Am.put; cases o.dst <;> rfl
                show Stp g c.st.mem w _ (back ord o.dst c.st v m1).mem w'
                rw [this]; exact r3
              · show (back ord o.dst c.st v m1).fix = c.st.fix
                unfold back Am.put; cases o.dst <;> rfl
            · intro u m1 hdoes cs
              obtain ⟨⟨fn, hf1, hf2, hf3⟩, hdoes⟩ := hdoes
              have hrun := run_call (P := P) (w := w) hop hcal hvx hf1 hf2 hf3
              obtain ⟨w', g', cv, fr, q1, q2, q3, q4, q5, q6, q7, q8⟩ := hdoes (g.pack ord) w (fa ++ call.args.map a.eval ++ ca) (b.atR a (.inRegion ops (i :: List.range' (i + 1) (ops.size - (i + 1))) :: erl k0) :: cs) hp1
                (VAs.ren hren hargs) (hs.glob.mono fun _ _ p => ⟨p, rfl⟩)
              rw [hlen] at q7 q8
              obtain ⟨r1, r2, r3, r4⟩ := hs.rel.back hnd (allLt_mem hb.2) q5 q6 q7 q8
              have hstep := step_enter (b := b) (k := erl k0) (cs := cs) (rest := List.range' (i + 1) (ops.size - (i + 1))) ho hw hrun
              have hleave := step_leave_panicked (P := P) (c := b.atR a (.inRegion ops (i :: List.range' (i + 1) (ops.size - (i + 1))) :: erl k0)) (cs := cs) q2
              have hlen2 : c.st.fix ≤ (backMem (backIdx ord c.st.mem.length) ord m1 c.st.mem).length := by
                rw [backMem_length _ _ _ _ q8]; have := hs.fix; omega
              refine ⟨_, _, w', .head hstep (q1.trans (.one hleave)), ⟨b, a, _, cv, rfl, hbf, hbk.ext fun i c q => (r2.blk i c q).1, hd.ext fun i c q => (r2.blk i c q).1, ⟨fun k => (hs.tm k).mono r2, hs.nt, r1, hlen2, hs.glob.mono r2.pure⟩, q4.ren r4⟩, r3, Fixed.ofExt r2 _, rfl, rfl, rfl⟩
          · cases ht
        · cases ht
      · cases ht
  · dsimp only
    split
    · rename_i args ht
      cases hb : (fits c.st o.dst && allLt (close c.st.mem 0 args) c.st.mem.length) with
      | false => trivial
      | true =>
        simp only [cond_true]
        simp only [Bool.and_eq_true] at hb
        intro v m1 hdoes cs
        obtain ⟨g', a', w', r1, r2, r3, r4, r5, r6, r7⟩ := round_ok (P := P) (k := erl k0) (rest := List.range' (i + 1) (ops.size - (i + 1))) hs hd hbk ho hw ht hb.1 hb.2 hdoes cs
        exact ⟨g', _, w', r1, CRel.mk (a := a') (c := { c with todo := .ops rid ops (i + 1) false :: k0, st := back (close c.st.mem 0 args) o.dst c.st v m1 }) (nf trivial hk0) hbf r3 r2 r4, r5, r6, rfl, r7, put_rnd⟩
    · split
      · rename_i v us ok he
        intro hok cs
        simp only [Bool.and_eq_true] at hok
        obtain ⟨rfl, hfit⟩ := hok
        have hres : Rel g (reserve o c.st.mem) w ∧ Stp g c.st.mem w g (reserve o c.st.mem) w := by
          unfold reserve
          cases makes o with
          | true => exact hs.rel.reserve
          | false => exact ⟨hs.rel, Stp.refl _ _ _⟩
        have hfree : makes o = true → (reserve o c.st.mem)[c.st.mem.length]? = some .free := by
          intro hm
          simp [reserve, hm]
        obtain ⟨cv, w', g', k1, k2, k3, k4, k5⟩ := op1_sound hres.1 hev (fun _ => rfl) hfree he
        have hstep := step_op (b := b) (k := erl k0) (cs := cs) (rest := List.range' (i + 1) (ops.size - (i + 1))) ho hw k1
        have hlen2 : c.st.fix ≤ (apply (reserve o c.st.mem) us).length := by
          rw [apply_length]
          have := hs.fix
          unfold reserve
          cases makes o <;> simp <;> omega
        refine ⟨g', _, w', .one hstep, CRel.mk (a := a.put o.dst cv) (c := { c with todo := .ops rid ops (i + 1) false :: k0, st := put { c.st with mem := apply (reserve o c.st.mem) us } o.dst v }) (nf trivial hk0) hbf (hbk.put (st' := { c.st with mem := _ }) k4 rfl) (hd.put (st' := { c.st with mem := _ }) k4 rfl) (hs.put hfit k2 k4 k3 hlen2), ?_, Fixed.ofExt k4 _, rfl, ?_, put_rnd⟩
        · have : (put { c.st with mem := apply (reserve o c.st.mem) us } o.dst v).mem = apply (reserve o c.st.mem) us := by unfold Am.put; cases o.dst <;> rfl
          show Stp g c.st.mem w _ (put { c.st with mem := apply (reserve o c.st.mem) us } o.dst v).mem w'
          rw [this]; exact hres.2.trans k5
        · show (put { c.st with mem := apply (reserve o c.st.mem) us } o.dst v).fix = c.st.fix
          unfold Am.put; cases o.dst <;> rfl
      · exact outOp_ok hs hbf hbk hd ho hw hk0

end
end Go.Am
