/-
  The executor's steps are the machine's: calls, ends, every step.
  Regions whose order is open, where no operation changes memory: in any order that may be drawn, the same is made.
  Regions whose order is open, where operations call functions, and write memory: what each looks at is left alone by those that may come on either side of it, so in any order that may be drawn the same is made.
  Regions whose order is open, where operations call functions, and write memory: every order that may be drawn.
-/
import Derived.Test.YtdmmllcjgjmbbaaDoorMD
import Derived.Laws.Externs
import Derived.KernelRfl
import Derived.Orders

section
namespace Go.Am
open Go.RowKit

section
variable {P : Program} {E : Env} {g : Gh} {w : World}

theorem apply_length : ∀ (us : Upd) (m : Mem), (apply m us).length = m.length
  | [], _ => rfl
  | (i, b) :: us, m => by simp [apply, apply_length us]

def GoesAny (P : Program) (E : Env) (g : Gh) (c : Cfg) (fr : Frame) (w : World) (l : List Cfg) : Prop :=
  ∀ cs, ∃ c' ∈ l, ∃ g' fr' w', Steps P (lone fr cs w) (lone fr' cs w') ∧ CRel P E g' c' fr' w' ∧ Stp g c.st.mem w g' c'.st.mem w' ∧ Fixed g g' c.st.fix ∧ c'.f = c.f ∧ c'.st.fix = c.st.fix ∧ c'.st.rnd = c.st.rnd

def EvOk (P : Program) (E : Env) (g : Gh) (c : Cfg) (fr : Frame) (w : World) : Ev → Prop
  | .next c' => Goes P E g c fr w c'
  | .must b c' => b = true → Goes P E g c fr w c'
  | .test b y z => (b = true → Goes P E g c fr w y) ∧ (b = false → Goes P E g c fr w z)
  | .call f args m ord dst c' => (∀ v m1, Does P E f args m v m1 → Goes P E g c fr w { c' with st := back ord dst c'.st v m1 }) ∧ ∀ u m1, DoesP P E f args m u m1 → Goes P E g c fr w (thrownAt ord c' u m1)
  | .late f args m ord pv c' => ∀ m1, DoesL P E f args m pv m1 → Goes P E g c fr w { c' with st := back ord none c'.st (.tup []) m1 }
  | .round args m ord dst c' => ∀ v m1, DoesR P E args m v m1 → Goes P E g c fr w { c' with st := back ord dst c'.st v m1 }
  | .range f args m ord L c' => ∀ v m1, Does P E f args m v m1 → ∀ m2 pd, rangeEnd (back ord none c'.st v m1).mem L = some (m2, pd) → Goes P E g c fr w (behind c' m2 pd)
  | .draw rid ops c' => ∀ (O : FuncId → List AV → Mem → Option (AV × Mem)) (st' : St), (∀ g args m v m1, O g args m = some (v, m1) → Does P E g args m v m1) → ledRun P E c'.f rid O ops c'.st = some (st', true) →
      Goes P E g c fr w { c' with st := { st' with mks := c'.st.mks, rnd := c'.st.rnd } }
  | .fork l => GoesAny P E g c fr w l
  | .done (.ret v m') => fr.fn = c.f ∧ m' = c.st.mem ∧ ∃ cv w2, Outs P c.st.rnd fr w cv w2 ∧ VA g w2 v cv ∧ Rel g m' w2 ∧ Stp g m' w g m' w2 ∧ c.st.fix ≤ m'.length
  | .done (.pan v m') => fr.fn = c.f ∧ m' = c.st.mem ∧ ∃ cv, fr.leaving P w (.panicked [{ v := cv, recovered := false }]) ∧ VA g w v cv ∧ Rel g m' w ∧ c.st.fix ≤ m'.length
  | .fail => True

theorem nf {x : It} {k : List It} (hx : It.pl x) (hk : ∀ y ∈ k, It.pl y) : ∀ y ∈ x :: k, It.pl y := by
  intro y hy
  cases hy with
  | head => exact hx
  | tail _ hy => exact hk y hy

theorem CRel.mk {c : Cfg} {b : Frame} {a : Act} (hnf : ∀ x ∈ c.todo, It.pl x) (h1 : b.fn = c.f) (h2 : RndOk g c.st.rnd b) (h3 : Mk g c.st.mks a.defers) (h4 : SRel E g c.st a w) : CRel P E g c (b.atR a (erl c.todo)) w := by
  unfold CRel
  split
  · rename_i hk; exact absurd (hnf _ (by rw [hk]; exact .head _)) id
  · rename_i hk; exact absurd (hnf _ (by rw [hk]; exact .head _)) id
  · rename_i hk; exact absurd (hnf _ (by rw [hk]; exact .head _)) id
  · rename_i hk; exact absurd (hnf _ (by rw [hk]; exact .head _)) id
  · exact ⟨b, a, rfl, h1, h2, h3, h4, hnf⟩

theorem Goes.quiet {c c' : Cfg} {b : Frame} {a : Act} {fr : Frame} (hst : ∀ cs, Steps P (lone fr cs w) (lone (b.atR a (erl c'.todo)) cs w))
    (hnf : ∀ x ∈ c'.todo, It.pl x) (h1 : b.fn = c.f) (hf : c'.f = c.f) (h2 : RndOk g c'.st.rnd b) (h3 : Mk g c'.st.mks a.defers) (h4 : SRel E g c'.st a w) (hm : c'.st.mem = c.st.mem) (hx : c'.st.fix = c.st.fix) (hr : c'.st.rnd = c.st.rnd := by rfl) : Goes P E g c fr w c' := by
  intro cs
  exact ⟨g, _, w, hst cs, CRel.mk hnf (h1.trans hf.symm) h2 h3 h4, by rw [hm]; exact Stp.refl _ _ _, Fixed.refl _ _, hf, hx, hr⟩

theorem put_defers {a : Act} {d : Option Tmp} {v : Value} : (a.put d v).defers = a.defers := by cases d <;> rfl
theorem put_mk {st : St} {d : Option Tmp} {v : AV} : (Am.put st d v).mks = st.mks := by cases d <;> rfl

theorem put_rnd {st : St} {d : Option Tmp} {v : AV} : (Am.put st d v).rnd = st.rnd := by cases d <;> rfl

theorem RndOk.put {g g' : Gh} {w w' : World} {st st' : St} {b : Frame} {d : Option Tmp} {u : AV} (h : RndOk g st.rnd b) (e : Ext g w g' w') (hm : st'.rnd = st.rnd) : RndOk g' (Am.put st' d u).rnd b := by
  rw [put_rnd, hm]
  exact h.ext fun i c q => (e.blk i c q).1

theorem Mk.put {g g' : Gh} {w w' : World} {st st' : St} {a : Act} {d : Option Tmp} {v : Value} {u : AV} (h : Mk g st.mks a.defers) (e : Ext g w g' w') (hm : st'.mks = st.mks) : Mk g' (Am.put st' d u).mks (a.put d v).defers := by
  rw [put_defers, put_mk, hm]
  exact h.ext fun i c q => (e.blk i c q).1

theorem run_call {a : Act} {o : Oper} {c : Call} {x : Operand} {f : FuncId} {fa ca : Array Value} (ho : o.op = .call c) (hc : c.callee = .value x) (hx : a.eval x = .func (.func f) fa ca)
    {fn : Func} (hf : P.funcs[f]? = some fn) (hb : fn.body.isSome = true) (hn : (fn.name == "runtime.NumGoroutine") = false) :
    (execOp a.eval o).run P w = .ok (.enter f (fa ++ c.args.map a.eval ++ ca)) w := by
  have hbn : fn.body.isNone = false := by cases hq : fn.body <;> simp_all
  simp only [execOp, ho, resolve, hc, hx, Deferred.ofValue, Sem.run_bind, Sem.run_pure, Result.andThen_ok, invoke, callFunc, run_program, hf, hn, Bool.false_eq_true, if_false, hbn]

theorem step_round {b : Frame} {a : Act} {k : List Item} {cs : List Frame} {w' : World} {ops : Array Oper} {i : Nat} {rest : List Nat} {o : Oper} {l : Nat} {f : FuncId} {tmps : Array Value} {as bd : Code} (ho : ops[i]? = some o)
    (hw : Region.wanted o (yielded ops a.tmps) = true) (hr : (execOp a.eval o).run P w = .ok (.round l f tmps as bd) w') :
    _root_.Go.step P (lone (b.atR a (.inRegion ops (i :: rest) :: k)) cs w) = .next (lone (Frame.round l f tmps as bd .normal) (b.atR a (.inRegion ops (i :: rest) :: k) :: cs) w') := by
  have hg := stepGR_op (P := P) (b := b) (k := k) (cs := cs) (w := w) (rest := rest) ho hw
  exact step_lone_go (by rw [hg, semAt_eq hr fun _ e => by cases e]; simp [stepG.apply, hr, Frame.atR])

theorem run_yieldCall {a : Act} {o : Oper} {c : Call} {x : Operand} {l : Nat} (ho : o.op = .call c) (hc : c.callee = .value x) (hx : a.eval x = .func (.yield l) #[] #[]) {n : Next} {w' : World}
    (hy : (Instr.yield l (c.args.map a.eval)).run P w = .ok n w') : (execOp a.eval o).run P w = .ok n w' := by
  simp only [execOp, ho, resolve, hc, hx, Deferred.ofValue, Sem.run_bind, Sem.run_pure, Result.andThen_ok, invoke, callFunc, Array.empty_append]
  exact hy

theorem round_ok {st : St} {a : Act} {b : Frame} {k : List Item} {ops : Array Oper} {i : Nat} {rest : List Nat} {o : Oper} {args : List AV} {v : AV} {m1 : Mem}
    (hs : SRel E g st a w) (hd : Mk g st.mks a.defers) (hb : RndOk g st.rnd b) (ho : ops[i]? = some o) (hw : Region.wanted o (yielded ops a.tmps) = true) (ht : targetY (ev E st.tm) o = some args)
    (hf : fits st o.dst = true) (hlt : allLt (close st.mem 0 args) st.mem.length = true)
    (hdoes : DoesR P E (renL (idx (close st.mem 0 args)) args) (pack st.mem (close st.mem 0 args)) v m1) :
    ∀ cs, ∃ g' a' w', Steps P (lone (b.atR a (.inRegion ops (i :: rest) :: k)) cs w) (lone (b.atR a' (.inRegion ops rest :: k)) cs w') ∧
      Mk g' (back (close st.mem 0 args) o.dst st v m1).mks a'.defers ∧ RndOk g' (back (close st.mem 0 args) o.dst st v m1).rnd b ∧ SRel E g' (back (close st.mem 0 args) o.dst st v m1) a' w' ∧
      Stp g st.mem w g' (back (close st.mem 0 args) o.dst st v m1).mem w' ∧ Fixed g g' st.fix ∧ (back (close st.mem 0 args) o.dst st v m1).fix = st.fix := by
  intro cs
  have hev := ev_sound hs
  unfold targetY at ht
  split at ht
  · rename_i call hop
    split at ht
    · rename_i x hcal
      split at ht
      · rename_i bl hx
        simp only [Option.some.injEq] at ht
        subst ht
        have hvx := hev x
        rw [hx] at hvx
        generalize hcx : a.eval x = cx at hvx
        cases hvx with
        | vy _ l hl =>
          have hin : bl ∈ close st.mem 0 (.vy bl :: call.args.toList.map (ev E st.tm)) := by
            obtain ⟨_, t, h2⟩ := addAll_spec (refsL (.vy bl :: call.args.toList.map (ev E st.tm))) (upTo 0) (upTo_nodup 0)
            obtain ⟨_, t', h4⟩ := reach_spec st.mem (st.mem.length + 1) (addAll (upTo 0) (refsL (.vy bl :: call.args.toList.map (ev E st.tm)))) 0 (addAll_spec _ _ (upTo_nodup 0)).1
            unfold close
            rw [h4]
            refine List.mem_append_left _ ?_
            show bl ∈ addAll [] (bl :: refsL (call.args.toList.map (ev E st.tm)))
            simp only [addAll, has, cond_false, List.nil_append]
            obtain ⟨_, t2, h5⟩ := addAll_spec (refsL (call.args.toList.map (ev E st.tm))) [bl] (by simp)
            rw [h5]
            exact List.mem_append_left _ (by simp)
          have hargs : VAs g w (call.args.toList.map (ev E st.tm)) (call.args.map a.eval).toList := by
            rw [Array.toList_map]; exact maps_sound hev _
          generalize hxs : call.args.toList.map (ev E st.tm) = xs at *
          obtain ⟨hnd, _⟩ := close_spec st.mem 0 (.vy bl :: xs)
          generalize close st.mem 0 (.vy bl :: xs) = ord at *
          obtain ⟨hp1, hp2⟩ := hs.rel.pack hnd
          have hren := Renames.pack g ord
          obtain ⟨j, hj1, hj2⟩ := List.getElem_of_mem hin
          have hoj : ord[j]? = some bl := by rw [List.getElem?_eq_getElem hj1, hj2]
          have hidx : idx ord bl = some j := idx_of_get hnd hoj
          have hra : renL (idx ord) (.vy bl :: xs) = .vy j :: renL (idx ord) xs := by simp only [renL, Am.ren, hidx]
          have hbj : (g.pack ord).blk j = some l := by simp [Gh.pack, hoj, hl]
          obtain ⟨f, tmps, as, bd, w', g', cv, y, q1, q4, q5, q6, q7, q8⟩ := hdoes (g.pack ord) w j l (renL (idx ord) xs) (call.args.map a.eval) (b.atR a (.inRegion ops (i :: rest) :: k)) cs hra hp1 hbj
            (VAs.ren hren hargs) (hs.glob.mono fun _ _ p => ⟨p, rfl⟩)
          have hlen : (Am.pack st.mem ord).length = ord.length := by simp [Am.pack]
          rw [hlen] at q7 q8
          obtain ⟨r1, r2, r3, r4⟩ := hs.rel.back hnd (allLt_mem hlt) q5 q6 q7 q8
          have hstep := step_round (b := b) (k := k) (cs := cs) (rest := rest) ho hw (run_yieldCall hop hcal hcx y)
          have hfin : (b.atR a (.inRegion ops (i :: rest) :: k)).finish cv = b.atR (a.put o.dst cv) (.inRegion ops rest :: k) := by rw [Frame.finish_atR, ho]; rfl
          rw [hfin] at q1
          have hlen2 : st.fix ≤ (backMem (backIdx ord st.mem.length) ord m1 st.mem).length := by
            rw [backMem_length _ _ _ _ q8]; have := hs.fix; omega
          refine ⟨_, a.put o.dst cv, w', .head hstep q1, hd.put (st' := { st with mem := _ }) r2 rfl, hb.put (st' := { st with mem := _ }) r2 rfl, hs.put hf (q4.ren r4) r2 r1 hlen2, ?_, Fixed.ofExt r2 _, ?_⟩
          · have : (back ord o.dst st v m1).mem = backMem (backIdx ord st.mem.length) ord m1 st.mem := by
              unfold back Am.put; cases o.dst <;> rfl
            rw [this]; exact r3
          · unfold back Am.put; cases o.dst <;> rfl
      · cases ht
    · cases ht
  · cases ht

theorem isEsc_run {f : FuncId} (h : isEsc P f = true) (x : Value) : (callFunc f #[x]).run P w = .ok (.value x) w := by
  unfold isEsc at h
  split at h
  · rename_i fn hf
    simp only [Bool.and_eq_true] at h
    obtain ⟨h1, h2, h3⟩ := h
    have h2 := of_decide_eq_true h2
    have h3 := of_decide_eq_true h3
    have hn : (fn.name == "runtime.NumGoroutine") = false := by rw [h2]; decide
    have q1 : Extern.findNext fn = none := by
      simp only [Extern.findNext, h2, h3]
      kernel_rfl
    have q2 : Extern.find fn = some Extern.AbiNoEscape.same := by
      simp only [Extern.find, h2, h3]
      kernel_rfl
    rw [run_callFunc_extern hf hn h1 q1 q2]
    rfl
  · cases h

theorem escOp_sound {ρ : Operand → AV} {ρc : Operand → Value} (hr : ∀ x, VA g w (ρ x) (ρc x)) {o : Oper} {v : AV} (h : escOp P ρ o = some v) : ∃ cv, (execOp ρc o).run P w = .ok (.value cv) w ∧ VA g w v cv := by
  unfold escOp at h
  split at h
  · rename_i c ho
    split at h
    · rename_i f x hc ha
      have harr : c.args = #[x] := by have := congrArg List.toArray ha; simpa using this
      split at h
      · rename_i q hq
        cases he : isEsc P q with
        | false => rw [he] at h; cases h
        | true =>
          rw [he] at h
          simp only [cond_true, Option.some.injEq] at h
          subst h
          have hf := hr f
          rw [hq, VA.fns] at hf
          obtain ⟨fa, ca, hcf, q1, q2⟩ := hf
          have e1 : fa = #[] := by cases fa with | mk l => cases l with | nil => rfl | cons _ _ => exact q1.elim
          have e2 : ca = #[] := by cases ca with | mk l => cases l with | nil => rfl | cons _ _ => exact q2.elim
          subst e1; subst e2
          refine ⟨ρc x, ?_, hr x⟩
          simp only [execOp, ho, resolve, hc, hcf, harr, Deferred.ofValue, Sem.run_bind, Sem.run_pure, Result.andThen_ok, invoke, List.map_toArray, List.map_cons, List.map_nil, Array.append_empty, Array.empty_append]
          exact isEsc_run he _
      · cases h
    · cases h
  · cases h

theorem isIfc_iface {v : AV} {cv : Value} (h : isIfc v = true) (hv : VA g w v cv) : ∃ t x, cv = .iface t x := by
  cases hv with
  | ifc t v cv h => exact ⟨t, cv, rfl⟩
  | p v cv h' => cases h' with
    | ifc t v cv h => exact ⟨t, cv, rfl⟩
    | _ => cases h
  | _ => cases h

theorem step_throw {b : Frame} {a : Act} {k : List Item} {cs : List Frame} {ops : Array Oper} {i : Nat} {rest : List Nat} {o : Oper} {v : Value} (ho : ops[i]? = some o) (hw : Region.wanted o (yielded ops a.tmps) = true)
    (hr : (o.semAt b.roundOf a.eval).run P w = .halt (.panic v) w) :
    _root_.Go.step P (lone (b.atR a (.inRegion ops (i :: rest) :: k)) cs w) = .next (lone { b.atR a (.inRegion ops (i :: rest) :: k) with mode := lateMode (some v) false } cs w) := by
  have hg := stepGR_op (P := P) (b := b) (k := k) (cs := cs) (w := w) (rest := rest) ho hw
  refine step_lone_go ?_
  rw [hg]
  simp [stepG.apply, hr, Frame.raise, Frame.atR, lateMode]

theorem mpsOf_sound : ∀ {l : List AV} {q : List (Nat × Nat)} {cs : List Value}, mpsOf l = some q → VAs g w l cs → Mps g q cs
  | [], q, [], h, _ => by
    simp only [mpsOf, Option.some.injEq] at h; subst h; trivial
  | .mp b off :: l, q, cv :: cs, h, hv => by
    simp only [mpsOf] at h
    split at h
    · rename_i l' hl
      simp only [Option.some.injEq] at h; subst h
      have h1 := hv.1
      cases h1 with
      | mp _ _ c hc => exact ⟨⟨c, hc, rfl⟩, mpsOf_sound hl hv.2⟩
    · cases h
  | [], _, _ :: _, _, hv => hv.elim
  | _ :: _, _, [], _, hv => hv.elim
  | .junk :: _, _, _ :: _, h, _ | .p _ :: _, _, _ :: _, h, _ | .os .. :: _, _, _ :: _, h, _ | .ms .. :: _, _, _ :: _, h, _ | .fn .. :: _, _, _ :: _, h, _ | .agg _ :: _, _, _ :: _, h, _ | .tup _ :: _, _, _ :: _, h, _
  | .ifc .. :: _, _, _ :: _, h, _ | .vm _ :: _, _, _ :: _, h, _ | .vy _ :: _, _, _ :: _, h, _ => by cases h

theorem outOp_ok {c : Cfg} {b : Frame} {a : Act} {k0 : List It} {ops : Array Oper} {i rid : Nat} {o : Oper} (hs : SRel E g c.st a w) (hbf : b.fn = c.f) (hbk : RndOk g c.st.rnd b) (hd : Mk g c.st.mks a.defers)
    (ho : ops[i]? = some o) (hw : Region.wanted o (yielded ops a.tmps) = true) (hk0 : ∀ x ∈ k0, It.pl x) :
    EvOk P E g c (b.atR a (.inRegion ops (i :: List.range' (i + 1) (ops.size - (i + 1))) :: erl k0)) w (outOp E c o (.ops rid ops (i + 1) false :: k0)) := by
  have hev := ev_sound hs
  have throw : ∀ (x : Operand), isIfc (ev E c.st.tm x) = true → (∀ v, a.eval x = v → (∃ t y, v = .iface t y) → (o.semAt b.roundOf a.eval).run P w = .halt (.panic v) w) →
      Goes P E g c (b.atR a (.inRegion ops (i :: List.range' (i + 1) (ops.size - (i + 1))) :: erl k0)) w { c with todo := [.thrown (ev E c.st.tm x)] } := by
    intro x hx hrun cs
    have hr := hrun _ rfl (isIfc_iface hx (hev x))
    exact ⟨g, _, w, .one (step_throw ho hw hr), ⟨b, a, _, a.eval x, rfl, hbf, hbk, hd, hs, hev x⟩, Stp.refl _ _ _, Fixed.refl _ _, rfl, rfl, rfl⟩
  unfold outOp
  split
  · rename_i x hop
    cases hx : isIfc (ev E c.st.tm x) with
    | false => trivial
    | true =>
      refine throw x hx fun v hv ⟨t, y, e⟩ => ?_
      have hsem : o.semAt b.roundOf a.eval = execOp a.eval o := by unfold Oper.semAt; rw [hop]; cases b.roundOf <;> rfl
      rw [hsem]
      subst hv
      simp only [execOp, hop, e, Instr.panic]
      rfl
  · rename_i d hop
    split
    · rename_i x hc ha
      have harr : d.args = #[x] := by have := congrArg List.toArray ha; simpa using this
      cases hx : isIfc (ev E c.st.tm x) with
      | false => trivial
      | true =>
        refine throw x hx fun v hv ⟨t, y, e⟩ => ?_
        have hsem : o.semAt b.roundOf a.eval = execOp a.eval o := by unfold Oper.semAt; rw [hop]; cases b.roundOf <;> rfl
        rw [hsem]
        subst hv
        simp only [execOp, hop, resolve, hc, harr, Sem.run_bind, Sem.run_pure, Result.andThen_ok, invoke, List.map_toArray, List.map_cons, List.map_nil, e]
        rfl
    · trivial
  · rename_i d hop
    split
    · trivial
    · rename_i f hmk hcal hnr
      split
      · rename_i gf first captured hf
        split
        · rename_i l m hl hm
          intro hfit cs
          have hvf := hev f
          rw [hf, VA.fns] at hvf
          obtain ⟨fa, ca, hcf, hfa, hca⟩ := hvf
          have hro := hbk.noRound fun i e => hnr i e
          have hrun : (o.semAt b.roundOf a.eval).run P w = .ok (.defer { target := .fn (.func gf) ca, args := fa ++ d.args.map a.eval }) w := by
            rw [hro]
            simp only [Oper.semAt, execOp, hop, resolve, hcal, hcf, Deferred.ofValue, Sem.run_bind, Sem.run_pure, Result.andThen_ok]
          have hargs : VAs g w (first ++ d.args.toList.map (ev E c.st.tm)) (fa ++ d.args.map a.eval).toList := by
            simp only [Array.toList_append, Array.toList_map]
            exact hfa.append (maps_sound hev _)
          rw [hmk] at hd
          have hds : a.defers = [] := by
            cases hq : a.defers with
            | nil => rfl
            | cons _ _ => rw [hq] at hd; exact hd.elim
          have hstep : _root_.Go.step P (lone (b.atR a (.inRegion ops (i :: List.range' (i + 1) (ops.size - (i + 1))) :: erl k0)) cs w) =
              .next (lone (b.atR ({ a with defers := [{ target := .fn (.func gf) ca, args := fa ++ d.args.map a.eval }] }.put o.dst undef) (.inRegion ops (List.range' (i + 1) (ops.size - (i + 1))) :: erl k0)) cs w) := by
            have hg := stepGR_op (P := P) (b := b) (k := erl k0) (cs := cs) (w := w) (rest := List.range' (i + 1) (ops.size - (i + 1))) ho hw
            have hfin : ({ b.atR a (.inRegion ops (i :: List.range' (i + 1) (ops.size - (i + 1))) :: erl k0) with defers := { target := .fn (.func gf) ca, args := fa ++ d.args.map a.eval } :: a.defers } : Frame).finish undef =
                b.atR ({ a with defers := [{ target := .fn (.func gf) ca, args := fa ++ d.args.map a.eval }] }.put o.dst undef) (.inRegion ops (List.range' (i + 1) (ops.size - (i + 1))) :: erl k0) := by
              have := Frame.finish_atR b { a with defers := [{ target := .fn (.func gf) ca, args := fa ++ d.args.map a.eval }] } ops i (List.range' (i + 1) (ops.size - (i + 1))) (erl k0) undef
              rw [ho] at this
              rw [hds]
              exact this
            refine step_lone_go ?_
            rw [hg]
            simp only [stepG.apply, Sem.runT_eq, hrun, GStep.bare_after]
            exact congrArg (fun fr => GStep.go { frame := fr, callers := cs, status := .running, dying := none } w) hfin
          have hs' : SRel E g { c.st with mks := [.late gf l m] } { a with defers := [{ target := .fn (.func gf) ca, args := fa ++ d.args.map a.eval }] } w := ⟨hs.tm, hs.nt, hs.rel, hs.fix, hs.glob⟩
          have hd' : Mk g [.late gf l m] [{ target := .fn (.func gf) ca, args := fa ++ d.args.map a.eval }] := ⟨⟨_, _, mpsOf_sound hl hargs, mpsOf_sound hm hca, rfl⟩, trivial⟩
          refine ⟨g, _, w, .one hstep, CRel.mk (c := { c with todo := .ops rid ops (i + 1) false :: k0, st := put { c.st with mks := [.late gf l m] } o.dst (.tup []) }) (nf trivial hk0) hbf
            (hbk.put (st := c.st) (st' := { c.st with mks := [.late gf l m] }) (Ext.refl g w) rfl)
            (Mk.put (st := { c.st with mks := [.late gf l m] }) (st' := { c.st with mks := [.late gf l m] }) (a := { a with defers := [{ target := .fn (.func gf) ca, args := fa ++ d.args.map a.eval }] }) hd' (Ext.refl g w) rfl)
            (hs'.put (cv := undef) (v := .tup []) (m' := c.st.mem) hfit (VA.tups.2 trivial) (Ext.refl g w) hs.rel hs.fix), ?_, Fixed.refl _ _, rfl, ?_, put_rnd⟩
          · have : (put { c.st with mks := [.late gf l m] } o.dst (.tup [])).mem = c.st.mem := by unfold Am.put; cases o.dst <;> rfl
            show Stp g c.st.mem w g (put { c.st with mks := [.late gf l m] } o.dst (.tup [])).mem w
            rw [this]; exact Stp.refl _ _ _
          · show (put { c.st with mks := [.late gf l m] } o.dst (.tup [])).fix = c.st.fix
            unfold Am.put; cases o.dst <;> rfl
        · trivial
      · trivial
    · trivial
  · trivial

theorem doOp_ok {c : Cfg} {b : Frame} {a : Act} {k0 : List It} {ops : Array Oper} {i rid : Nat} {o : Oper} (hs : SRel E g c.st a w) (hbf : b.fn = c.f) (hbk : RndOk g c.st.rnd b) (hd : Mk g c.st.mks a.defers)
    (ho : ops[i]? = some o) (hw : Region.wanted o (yielded ops a.tmps) = true) (hk0 : ∀ x ∈ k0, It.pl x) :
    EvOk P E g c (b.atR a (.inRegion ops (List.range' i (ops.size - i)) :: erl k0)) w (doOp P E c rid o (.ops rid ops (i + 1) false :: k0)) := by
  have hi : i < ops.size := by
    rcases Nat.lt_or_ge i ops.size with q | q
    · exact q
    · rw [Array.getElem?_eq_none q] at ho; cases ho
  rw [range'_head hi]
  unfold doOp
  have hev := ev_sound hs
  split
  · rename_i f args ht
    split
    · rename_i v hesc
      intro hok cs
      obtain ⟨cv, k1, k2⟩ := escOp_sound hev hesc
      have hstep := step_op (b := b) (k := erl k0) (cs := cs) (rest := List.range' (i + 1) (ops.size - (i + 1))) ho hw (.inl k1)
      refine ⟨g, _, w, .one hstep, CRel.mk (a := a.put o.dst cv) (c := { c with todo := .ops rid ops (i + 1) false :: k0, st := put { c.st with mem := c.st.mem } o.dst v }) (nf trivial hk0) hbf (hbk.put (st' := { c.st with mem := _ }) (Ext.refl g w) rfl) (hd.put (st' := { c.st with mem := _ }) (Ext.refl g w) rfl) (hs.put hok k2 (Ext.refl g w) hs.rel hs.fix), ?_, Fixed.refl _ _, rfl, ?_, put_rnd⟩
      · have : (put c.st o.dst v).mem = c.st.mem := (by unfold Am.put; cases o.dst <;> rfl)
        show Stp g c.st.mem w g (put c.st o.dst v).mem w
        rw [this]; exact Stp.refl _ _ _
      · show (put c.st o.dst v).fix = c.st.fix
        unfold Am.put; cases o.dst <;> rfl
    cases hb : (fits c.st o.dst && allLt (close c.st.mem 0 args) c.st.mem.length) with
    | false => simp only [hb, cond_false]; trivial
    | true =>
      simp only [hb, cond_true]
      simp only [Bool.and_eq_true] at hb
      -- the call's operands
      unfold target at ht
      split at ht
      · rename_i call hop
        split at ht
        · rename_i x hcal
          split at ht
          · rename_i f' first captured hx
            simp only [Option.some.injEq, Prod.mk.injEq] at ht
            obtain ⟨rfl, rfl⟩ := ht
            have hvx := hev x
            rw [hx, VA.fns] at hvx
            obtain ⟨fa, ca, hvx, hfa, hca⟩ := hvx
            have hargs : VAs g w (first ++ call.args.toList.map (ev E c.st.tm) ++ captured) (fa ++ call.args.map a.eval ++ ca).toList := by
              simp only [Array.toList_append, Array.toList_map]
              exact (hfa.append (maps_sound hev _)).append hca
            generalize first ++ call.args.toList.map (ev E c.st.tm) ++ captured = args at *
            obtain ⟨hnd, _⟩ := close_spec c.st.mem 0 args
            generalize close c.st.mem 0 args = ord at *
            obtain ⟨hp1, hp2⟩ := hs.rel.pack hnd
            have hren := Renames.pack g ord
            have hlen : (Am.pack c.st.mem ord).length = ord.length := by simp [Am.pack]
            constructor
            · intro v m1 hdoes cs
              obtain ⟨⟨fn, hf1, hf2, hf3⟩, hdoes⟩ := hdoes
              have hrun := run_call (P := P) (w := w) hop hcal hvx hf1 hf2 hf3
              obtain ⟨w', g', cv, fr, q1, q2, q3, q4, q5, q6, q7, q8⟩ := hdoes (g.pack ord) w (fa ++ call.args.map a.eval ++ ca) (b.atR a (.inRegion ops (i :: List.range' (i + 1) (ops.size - (i + 1))) :: erl k0) :: cs) hp1
                (VAs.ren hren hargs) (hs.glob.mono fun _ _ p => ⟨p, rfl⟩)
              rw [hlen] at q7 q8
              obtain ⟨r1, r2, r3, r4⟩ := hs.rel.back hnd (allLt_mem hb.2) q5 q6 q7 q8
              have hstep := step_enter (b := b) (k := erl k0) (cs := cs) (rest := List.range' (i + 1) (ops.size - (i + 1))) ho hw hrun
              have hleave := step_leave_returned (P := P) (c := b.atR a (.inRegion ops (i :: List.range' (i + 1) (ops.size - (i + 1))) :: erl k0)) (cs := cs) q2
              have hfin : (b.atR a (.inRegion ops (i :: List.range' (i + 1) (ops.size - (i + 1))) :: erl k0)).finish cv = b.atR (a.put o.dst cv) (.inRegion ops (List.range' (i + 1) (ops.size - (i + 1))) :: erl k0) := by
                rw [Frame.finish_atR, ho]; rfl
              rw [hfin] at hleave
              have hlen2 : c.st.fix ≤ (backMem (backIdx ord c.st.mem.length) ord m1 c.st.mem).length := by
                rw [backMem_length _ _ _ _ q8]; have := hs.fix; omega
              refine ⟨_, _, w', .head hstep (q1.trans (.one hleave)), CRel.mk (a := a.put o.dst cv) (c := { c with todo := .ops rid ops (i + 1) false :: k0, st := back ord o.dst c.st v m1 }) (nf trivial hk0) hbf (hbk.put (st' := { c.st with mem := _ }) r2 rfl) (hd.put (st' := { c.st with mem := _ }) r2 rfl) (hs.put hb.1 (q4.ren r4) r2 r1 hlen2), ?_, Fixed.ofExt r2 _, rfl, ?_, put_rnd⟩
              · have : (back ord o.dst c.st v m1).mem = backMem (backIdx ord c.st.mem.length) ord m1 c.st.mem := by
                  unfold back Am.put; cases o.dst <;> rfl
                show Stp g c.st.mem w _ (back ord o.dst c.st v m1).mem w'
                rw [this]; exact r3
              · show (back ord o.dst c.st v m1).fix = c.st.fix
                unfold back Am.put; cases o.dst <;> rfl
            · intro u m1 hdoes cs
              obtain ⟨⟨fn, hf1, hf2, hf3⟩, hdoes⟩ := hdoes
              have hrun := run_call (P := P) (w := w) hop hcal hvx hf1 hf2 hf3
              obtain ⟨w', g', cv, fr, q1, q2, q3, q4, q5, q6, q7, q8⟩ := hdoes (g.pack ord) w (fa ++ call.args.map a.eval ++ ca) (b.atR a (.inRegion ops (i :: List.range' (i + 1) (ops.size - (i + 1))) :: erl k0) :: cs) hp1
                (VAs.ren hren hargs) (hs.glob.mono fun _ _ p => ⟨p, rfl⟩)
              rw [hlen] at q7 q8
              obtain ⟨r1, r2, r3, r4⟩ := hs.rel.back hnd (allLt_mem hb.2) q5 q6 q7 q8
              have hstep := step_enter (b := b) (k := erl k0) (cs := cs) (rest := List.range' (i + 1) (ops.size - (i + 1))) ho hw hrun
              have hleave := step_leave_panicked (P := P) (c := b.atR a (.inRegion ops (i :: List.range' (i + 1) (ops.size - (i + 1))) :: erl k0)) (cs := cs) q2
              have hlen2 : c.st.fix ≤ (backMem (backIdx ord c.st.mem.length) ord m1 c.st.mem).length := by
                rw [backMem_length _ _ _ _ q8]; have := hs.fix; omega
              refine ⟨_, _, w', .head hstep (q1.trans (.one hleave)), ⟨b, a, _, cv, rfl, hbf, hbk.ext fun i c q => (r2.blk i c q).1, hd.ext fun i c q => (r2.blk i c q).1, ⟨fun k => (hs.tm k).mono r2, hs.nt, r1, hlen2, hs.glob.mono r2.pure⟩, q4.ren r4⟩, r3, Fixed.ofExt r2 _, rfl, rfl, rfl⟩
          · cases ht
        · cases ht
      · cases ht
  · dsimp only
    split
    · rename_i args ht
      cases hb : (fits c.st o.dst && allLt (close c.st.mem 0 args) c.st.mem.length) with
      | false => trivial
      | true =>
        simp only [cond_true]
        simp only [Bool.and_eq_true] at hb
        intro v m1 hdoes cs
        obtain ⟨g', a', w', r1, r2, r3, r4, r5, r6, r7⟩ := round_ok (P := P) (k := erl k0) (rest := List.range' (i + 1) (ops.size - (i + 1))) hs hd hbk ho hw ht hb.1 hb.2 hdoes cs
        exact ⟨g', _, w', r1, CRel.mk (a := a') (c := { c with todo := .ops rid ops (i + 1) false :: k0, st := back (close c.st.mem 0 args) o.dst c.st v m1 }) (nf trivial hk0) hbf r3 r2 r4, r5, r6, rfl, r7, put_rnd⟩
    · split
      · rename_i v us ok he
        intro hok cs
        simp only [Bool.and_eq_true] at hok
        obtain ⟨rfl, hfit⟩ := hok
        have hres : Rel g (reserve o c.st.mem) w ∧ Stp g c.st.mem w g (reserve o c.st.mem) w := by
          unfold reserve
          cases makes o with
          | true => exact hs.rel.reserve
          | false => exact ⟨hs.rel, Stp.refl _ _ _⟩
        have hfree : makes o = true → (reserve o c.st.mem)[c.st.mem.length]? = some .free := by
          intro hm
          simp [reserve, hm]
        obtain ⟨cv, w', g', k1, k2, k3, k4, k5⟩ := op1_sound hres.1 hev (fun _ => rfl) hfree he
        have hstep := step_op (b := b) (k := erl k0) (cs := cs) (rest := List.range' (i + 1) (ops.size - (i + 1))) ho hw k1
        have hlen2 : c.st.fix ≤ (apply (reserve o c.st.mem) us).length := by
          rw [apply_length]
          have := hs.fix
          unfold reserve
          cases makes o <;> simp <;> omega
        refine ⟨g', _, w', .one hstep, CRel.mk (a := a.put o.dst cv) (c := { c with todo := .ops rid ops (i + 1) false :: k0, st := put { c.st with mem := apply (reserve o c.st.mem) us } o.dst v }) (nf trivial hk0) hbf (hbk.put (st' := { c.st with mem := _ }) k4 rfl) (hd.put (st' := { c.st with mem := _ }) k4 rfl) (hs.put hfit k2 k4 k3 hlen2), ?_, Fixed.ofExt k4 _, rfl, ?_, put_rnd⟩
        · have : (put { c.st with mem := apply (reserve o c.st.mem) us } o.dst v).mem = apply (reserve o c.st.mem) us := by unfold Am.put; cases o.dst <;> rfl
          show Stp g c.st.mem w _ (put { c.st with mem := apply (reserve o c.st.mem) us } o.dst v).mem w'
          rw [this]; exact hres.2.trans k5
        · show (put { c.st with mem := apply (reserve o c.st.mem) us } o.dst v).fix = c.st.fix
          unfold Am.put; cases o.dst <;> rfl
      · exact outOp_ok hs hbf hbk hd ho hw hk0

end
end Go.Am
end

section
namespace Go.Am

section
variable {P : Program} {E : Env}

theorem allSc_congr {ρ ρ' : Operand → AV} : ∀ {l : List Operand}, (∀ x ∈ l, ρ x = ρ' x) → allSc ρ l = allSc ρ' l
  | [], _ => rfl
  | x :: r, h => by simp only [allSc, h x (.head _), allSc_congr fun y hy => h y (.tail _ hy)]

theorem bound_congr {ρ ρ' : Operand → AV} {x : Option Operand} (h : ∀ y ∈ x, ρ y = ρ' y) (d : Nat) : bound ρ x d = bound ρ' x d := by
  cases x with
  | none => rfl
  | some x => simp only [bound, h x (by simp)]

theorem op1_congr {rd : Nat → Blk} {wr : Bool} {nid : Nat} {ρ ρ' : Operand → AV} {o : Oper} (hq : quietOp o = true) (h : ∀ x ∈ o.op.operands, ρ x = ρ' x) : op1 P rd wr nid ρ o = op1 P rd wr nid ρ' o := by
  have hsel : ∀ cs b, o.op ≠ .select cs b := by
    intro cs b e
    simp [quietOp, e] at hq
  have hsc : scalar P ρ o = scalar P ρ' o := by
    unfold scalar
    rw [allSc_congr (ρ := ρ) (ρ' := ρ') fun x hx => h x (by simpa using hx),
      execOp_congr (ρ := fun x => (toV (ρ x)).getD undef) (ρ' := fun x => (toV (ρ' x)).getD undef) o hsel fun x hx => by rw [h x hx]]
  obtain ⟨dst, op, type, pos, after, guard⟩ := o
  cases op <;> simp only [quietOp, Bool.false_eq_true] at hq <;> simp only [Op.operands] at h <;> simp only [op1]
  case move x => rw [h x (by simp)]
  case assign x => rw [h x (by simp)]
  case pick c a b => rw [h c (by simp), h a (by simp), h b (by simp)]
  case build t ps =>
    have : ps.toList.map (fun q => (q.1, ρ q.2)) = ps.toList.map fun q => (q.1, ρ' q.2) :=
      List.map_congr_left fun q hq => by rw [h q.2 (by simp only [List.mem_toArray, List.mem_map]; exact ⟨q, hq, rfl⟩)]
    rw [this]
  case load t a => rw [h a (by simp)]
  case nilCheck x => rw [h x (by simp)]; simp only [nilCheckOp, hsc]
  case binOp op t x y r => rw [h x (by simp), h y (by simp)]; simp only [binOpOp, hsc]
  case unOp op t x => rw [h x (by simp)]; simp only [unOpOp, hsc]
  case convert s d x => rw [h x (by simp)]; simp only [convertOp, hsc]
  case makeInterface t x => rw [h x (by simp)]
  case makeFunc f first captured =>
    rw [List.map_congr_left (l := first.toList) fun x hx => h x (by simp_all), List.map_congr_left (l := captured.toList) fun x hx => h x (by simp_all)]
  case slice t x lo hi mx =>
    rw [h x (by simp)]
    have h1 := bound_congr (ρ := ρ) (ρ' := ρ') (x := lo) fun y hy => h y (by simp_all)
    have h2 := bound_congr (ρ := ρ) (ρ' := ρ') (x := hi) fun y hy => h y (by simp_all)
    have h3 := bound_congr (ρ := ρ) (ρ' := ρ') (x := mx) fun y hy => h y (by simp_all)
    cases mx with
    | none =>
      simp only [sliceOp, h1, h2]
      repeat' first | rfl | split
      all_goals simp_all
    | some m =>
      simp only [sliceOp, h1, h2]
      repeat' first | rfl | split
      all_goals simp_all
  case fieldAddr t x f => rw [h x (by simp)]
  case field t x f => rw [h x (by simp)]
  case indexAddr t x i => rw [h x (by simp), h i (by simp)]
  case index t x i => rw [h x (by simp), h i (by simp)]
  case extract x i => rw [h x (by simp)]
  case call c =>
    obtain ⟨callee, args, tys⟩ := c
    cases callee with
    | value _ => simp at hq
    | invoke _ _ => simp at hq
    | builtin b =>
      simp only [Call.operands] at h
      obtain ⟨args⟩ := args
      have hmm : ∀ mn, mmScalar P ρ ⟨dst, .call ⟨.builtin b, ⟨args⟩, tys⟩, type, pos, after, guard⟩ mn args = mmScalar P ρ' ⟨dst, .call ⟨.builtin b, ⟨args⟩, tys⟩, type, pos, after, guard⟩ mn args := by
        intro mn
        unfold mmScalar
        rw [hsc, List.map_congr_left (l := args) fun x hx => h x (by simp_all)]
      cases b <;> simp only [Bool.false_eq_true] at hq <;> simp only [hmm]
      cases args with
      | nil => rfl
      | cons x r => cases r with
        | nil => simp only [h x (by simp)]
        | cons _ _ => rfl

theorem look_put (st : St) (dst : Option Tmp) (v : AV) (t : Nat) : look (put st dst v).tm t = if dst = some t then v else look st.tm t := by
  cases dst with
  | none => simp [put]
  | some d => simp only [put, look_cons, Option.some.injEq]

theorem put_mem (st : St) (dst : Option Tmp) (v : AV) : (put st dst v).mem = st.mem ∧ (put st dst v).nt = st.nt ∧ (put st dst v).fix = st.fix := by
  cases dst <;> exact ⟨rfl, rfl, rfl⟩

theorem meet_false {a b : List Nat} (h : meet a b = false) {i : Nat} (ha : i ∈ a) (hb : i ∈ b) : False := by
  simp only [meet, List.any_eq_false] at h
  have := h i ha
  simp only [List.any_eq_true, not_exists, not_and] at this
  exact this i hb (Nat.beq_refl i)

theorem masks_eq : ∀ (l : List Oper) (acc : List Nat), ∃ M, masks acc l = acc ++ M ∧ M.length = l.length ∧ ∀ i o, l[i]? = some o → M[i]? = some (maskOf (acc ++ M.take i) o)
  | [], acc => ⟨[], by simp [masks]⟩
  | o :: r, acc => by
    obtain ⟨M, h1, h2, h3⟩ := masks_eq r (acc ++ [maskOf acc o])
    refine ⟨maskOf acc o :: M, by simp [masks, h1], by simp [h2], ?_⟩
    intro i p hp
    cases i with
    | zero => simp only [List.getElem?_cons_zero, Option.some.injEq] at hp; subst hp; simp
    | succ i =>
      simp only [List.getElem?_cons_succ] at hp
      have := h3 i p hp
      simpa using this

theorem maskOf_bit {acc : List Nat} {o : Oper} {j : Nat} (h : Nat.testBit (maskOf acc o) j = true) : ∃ e ∈ o.after, Region.binds .any e = true ∧ (e.on = j ∨ Nat.testBit (acc.getD e.on 0) j = true) := by
  unfold maskOf at h
  have key : ∀ (l : List Edge) (s : Nat), Nat.testBit (l.foldl (fun s e => cond (Region.binds .any e) (s ||| (2 ^ e.on ||| acc.getD e.on 0)) s) s) j = true →
      Nat.testBit s j = true ∨ ∃ e ∈ l, Region.binds .any e = true ∧ (e.on = j ∨ Nat.testBit (acc.getD e.on 0) j = true) := by
    intro l
    induction l with
    | nil => intro s h; exact .inl h
    | cons e r ih =>
      intro s h
      simp only [List.foldl_cons] at h
      rcases ih _ h with h | ⟨e', he', q⟩
      · cases hb : Region.binds .any e with
        | false => rw [hb] at h; exact .inl h
        | true =>
          rw [hb] at h
          simp only [cond_true, Nat.testBit_or, Bool.or_eq_true] at h
          rcases h with h | h | h
          · exact .inl h
          · refine .inr ⟨e, .head _, hb, .inl ?_⟩
            rw [Nat.testBit_two_pow] at h
            exact of_decide_eq_true h
          · exact .inr ⟨e, .head _, hb, .inr h⟩
      · exact .inr ⟨e', .tail _ he', q⟩
  rcases key _ _ h with h | ⟨e, he, q⟩
  · simp at h
  · exact ⟨e, by simpa using he, q⟩

theorem ordersOk_spec {q : Oper → Bool} {ops : Array Oper} {L : List Nat} : ∀ {r bef : List Oper}, ordersOk q ops L bef.length bef r = true →
    ∀ i o, (bef ++ r)[i]? = some o → bef.length ≤ i →
      q o = true ∧ (∀ e ∈ o.after, Region.binds .any e = true → e.on < i) ∧ ∀ j p, j < i → (bef ++ r)[j]? = some p → pairOk ops L i o j p = true
  | [], bef, _, i, o, ho, hi => by
    simp only [List.append_nil] at ho
    rw [List.getElem?_eq_none hi] at ho; cases ho
  | q0 :: r, bef, h, i, o, ho, hi => by
    simp only [ordersOk, Bool.and_eq_true] at h
    obtain ⟨⟨⟨h1, h2⟩, h3⟩, h4⟩ := h
    by_cases hc : i = bef.length
    · subst hc
      have : o = q0 := by simpa using ho.symm
      subst this
      refine ⟨h1, ?_, ?_⟩
      · intro e he hb
        have := List.all_eq_true.1 h2 e (by simpa using he)
        simp only [hb, Bool.not_true, Bool.false_or] at this
        rwa [Nat.blt_eq] at this
      · intro j p hj hp
        have key : ∀ (l : List Oper) (k : Nat), pairsOk ops L bef.length o k l = true → ∀ m p, l[m]? = some p → pairOk ops L bef.length o (k + m) p = true := by
          intro l
          induction l with
          | nil => intro k _ m p hp; simp at hp
          | cons x l ih =>
            intro k hk m p hp
            simp only [pairsOk, Bool.and_eq_true] at hk
            cases m with
            | zero => simp only [List.getElem?_cons_zero, Option.some.injEq] at hp; subst hp; exact hk.1
            | succ m =>
              simp only [List.getElem?_cons_succ] at hp
              have := ih (k + 1) hk.2 m p hp
              rwa [Nat.add_assoc, Nat.add_comm 1 m] at this
        have hp' : bef[j]? = some p := by rwa [List.getElem?_append_left hj] at hp
        simpa using key bef 0 h3 j p hp'
    · have h4' : ordersOk q ops L (bef ++ [q0]).length (bef ++ [q0]) r = true := by simpa using h4
      have := ordersOk_spec h4' i o (by simpa using ho) (by simp; omega)
      simpa using this

def QKind (P : Program) (E : Env) (rd : Nat → Blk) (wr : Bool) (nid : Nat) (ops : Array Oper) (st : St) (o : Oper) (v : AV) : Prop :=
  ((wants ops st.tm o = .yes ∨ ∃ d b want, wants ops st.tm o = .ask d b want ∧ (b == want) = true) ∧ op1 P rd wr nid (ev E st.tm) o = some (v, [], true)) ∨
  ((wants ops st.tm o = .no ∨ ∃ d b want, wants ops st.tm o = .ask d b want ∧ (b == want) = false) ∧ v = .tup [])

inductive QRun (P : Program) (E : Env) (rd : Nat → Blk) (wr : Bool) (nid : Nat) (ops : Array Oper) : List Oper → St → List AV → St → Prop
  | nil (st : St) : QRun P E rd wr nid ops [] st [] st
  | cons (o : Oper) (r : List Oper) (st : St) (v : AV) (vs : List AV) (st' : St) (hf : fits st o.dst = true) (h : QKind P E rd wr nid ops st o v)
      (hr : QRun P E rd wr nid ops r (put st o.dst v) vs st') : QRun P E rd wr nid ops (o :: r) st (v :: vs) st'

theorem quietGo_run {rd : Nat → Blk} {wr : Bool} {nid : Nat} {ops : Array Oper} : ∀ {l : List Oper} {st st' : St}, quietGo P E rd wr nid ops l st = some (st', true) → ∃ vs, QRun P E rd wr nid ops l st vs st'
  | [], st, st', h => by
    simp only [quietGo, Option.some.injEq, Prod.mk.injEq, and_true] at h
    subst h
    exact ⟨[], .nil st⟩
  | o :: r, st, st', h => by
    have skip : (match quietGo P E rd wr nid ops r (put st o.dst (.tup [])) with
      | some (st', ok) => some (st', fits st o.dst && ok)
      | none => none) = some (st', true) → fits st o.dst = true ∧ ∃ vs, QRun P E rd wr nid ops r (put st o.dst (.tup [])) vs st' := by
      intro h
      split at h
      · rename_i st1 ok hq
        simp only [Option.some.injEq, Prod.mk.injEq, Bool.and_eq_true] at h
        obtain ⟨rfl, h1, rfl⟩ := h
        exact ⟨h1, quietGo_run hq⟩
      · cases h
    have doIt : (match op1 P rd wr nid (ev E st.tm) o with
      | some (v, [], ok) => match quietGo P E rd wr nid ops r (put st o.dst v) with
        | some (st', ok') => some (st', ok && (fits st o.dst && ok'))
        | none => none
      | _ => none) = some (st', true) → ∃ v, op1 P rd wr nid (ev E st.tm) o = some (v, [], true) ∧ fits st o.dst = true ∧ ∃ vs, QRun P E rd wr nid ops r (put st o.dst v) vs st' := by
      intro h
      split at h
      · rename_i v ok hop
        split at h
        · rename_i st1 ok' hq
          simp only [Option.some.injEq, Prod.mk.injEq, Bool.and_eq_true] at h
          obtain ⟨rfl, rfl, h1, rfl⟩ := h
          exact ⟨v, hop, h1, quietGo_run hq⟩
        · cases h
      · cases h
    unfold quietGo at h
    dsimp only at h
    cases hw : wants ops st.tm o with
    | yes =>
      rw [hw] at h
      obtain ⟨v, h1, h2, vs, h3⟩ := doIt h
      exact ⟨v :: vs, .cons o r st v vs st' h2 (.inl ⟨.inl hw, h1⟩) h3⟩
    | no =>
      rw [hw] at h
      obtain ⟨h2, vs, h3⟩ := skip h
      exact ⟨.tup [] :: vs, .cons o r st _ vs st' h2 (.inr ⟨.inl hw, rfl⟩) h3⟩
    | lost => rw [hw] at h; cases h
    | ask d b want =>
      rw [hw] at h
      dsimp only at h
      cases hb : b == want with
      | true =>
        rw [hb] at h
        obtain ⟨v, h1, h2, vs, h3⟩ := doIt h
        exact ⟨v :: vs, .cons o r st v vs st' h2 (.inl ⟨.inr ⟨d, b, want, hw, hb⟩, h1⟩) h3⟩
      | false =>
        rw [hb] at h
        obtain ⟨h2, vs, h3⟩ := skip h
        exact ⟨.tup [] :: vs, .cons o r st _ vs st' h2 (.inr ⟨.inr ⟨d, b, want, hw, hb⟩, rfl⟩) h3⟩

def Uniq (l : List Oper) : Prop := ∀ (i j : Nat) (p q : Oper) (t : Tmp), i < j → l[i]? = some p → l[j]? = some q → p.dst = some t → q.dst ≠ some t

def SlotsAt (l : List Oper) (vs : List AV) (st : St) (i : Nat) (sti : St) : Prop :=
  sti.mem = st.mem ∧ sti.nt = st.nt ∧ sti.fix = st.fix ∧ (∀ j p v t, j < i → l[j]? = some p → vs[j]? = some v → p.dst = some t → look sti.tm t = v) ∧
  (∀ t, (∀ j p, j < i → l[j]? = some p → p.dst ≠ some t) → look sti.tm t = look st.tm t)

theorem SlotsAt.cons {o : Oper} {r : List Oper} {v : AV} {vs : List AV} {st sti : St} {i : Nat} (hu : Uniq (o :: r)) (h : SlotsAt r vs (put st o.dst v) i sti) : SlotsAt (o :: r) (v :: vs) st (i + 1) sti := by
  obtain ⟨h1, h2, h3, h4, h5⟩ := h
  obtain ⟨q1, q2, q3⟩ := put_mem st o.dst v
  refine ⟨h1.trans q1, h2.trans q2, h3.trans q3, ?_, ?_⟩
  · intro j p w t hj hp hw ht
    cases j with
    | zero =>
      simp only [List.getElem?_cons_zero, Option.some.injEq] at hp hw
      subst hp; subst hw
      rw [h5 t fun j p _ hp => hu 0 (j + 1) o p t (by omega) rfl (by simpa using hp) ht, look_put, if_pos ht]
    | succ j => exact h4 j p w t (by omega) (by simpa using hp) (by simpa using hw) ht
  · intro t ht
    rw [h5 t fun j p hj hp => ht (j + 1) p (by omega) (by simpa using hp), look_put, if_neg (ht 0 o (by omega) rfl)]

theorem QRun.spec {rd : Nat → Blk} {wr : Bool} {nid : Nat} {ops : Array Oper} {l : List Oper} {st st' : St} {vs : List AV} (h : QRun P E rd wr nid ops l st vs st') (hu : Uniq l) :
    vs.length = l.length ∧ SlotsAt l vs st l.length st' ∧ ∀ i o, l[i]? = some o → ∃ v sti, vs[i]? = some v ∧ QKind P E rd wr nid ops sti o v ∧ fits sti o.dst = true ∧ SlotsAt l vs st i sti := by
  induction h with
  | nil st => exact ⟨rfl, ⟨rfl, rfl, rfl, fun j _ _ _ hj => absurd hj (Nat.not_lt_zero _), fun _ _ => rfl⟩, fun i o ho => by simp at ho⟩
  | cons o r st v vs st' hf hk hr ih =>
    have hu' : Uniq r := fun i j p q t hij hp hq => hu (i + 1) (j + 1) p q t (by omega) (by simpa using hp) (by simpa using hq)
    obtain ⟨h1, h2, h3⟩ := ih hu'
    refine ⟨by simp [h1], h2.cons hu, ?_⟩
    intro i p hp
    cases i with
    | zero =>
      simp only [List.getElem?_cons_zero, Option.some.injEq] at hp
      subst hp
      exact ⟨v, st, rfl, hk, hf, rfl, rfl, rfl, fun j _ _ _ hj => absurd hj (Nat.not_lt_zero _), fun _ _ => rfl⟩
    | succ i =>
      obtain ⟨w, sti, q1, q2, q3, q4⟩ := h3 i p (by simpa using hp)
      exact ⟨w, sti, by simpa using q1, q2, q3, q4.cons hu⟩

structure QInv (ops : Array Oper) (L : List Nat) (vs : List AV) (st0 stA : St) (S : Array Bool) : Prop where
  size : S.size = ops.size
  mem : stA.mem = st0.mem
  nt : stA.nt = st0.nt
  fix : stA.fix = st0.fix
  a : ∀ (j : Nat) (p : Oper) (v : AV) (t : Tmp), S.getD j false = true → ops.toList[j]? = some p → vs[j]? = some v → p.dst = some t → look stA.tm t = v
  b : ∀ t : Tmp, (∀ (j : Nat) (p : Oper), S.getD j false = true → ops.toList[j]? = some p → p.dst ≠ some t) → look stA.tm t = look st0.tm t
  cl : ∀ i j : Nat, S.getD i false = true → Nat.testBit (L.getD i 0) j = true → S.getD j false = true

structure QOrd (ops : Array Oper) (L : List Nat) : Prop where
  mask : ∀ i o, ops.toList[i]? = some o → L[i]? = some (maskOf (L.take i) o)
  low : ∀ (i : Nat) o, ops.toList[i]? = some o → ∀ e ∈ o.after, Region.binds .any e = true → e.on < i
  pair : ∀ (i : Nat) o, ops.toList[i]? = some o → ∀ j p, j < i → ops.toList[j]? = some p → pairOk ops L i o j p = true

theorem QOrd.of {q : Oper → Bool} {ops : Array Oper} (h : ordersOk q ops (masks [] ops.toList) 0 [] ops.toList = true) : QOrd ops (masks [] ops.toList) ∧ ∀ (i : Nat) o, ops.toList[i]? = some o → q o = true := by
  obtain ⟨M, h1, _, h3⟩ := masks_eq ops.toList []
  simp only [List.nil_append] at h1 h3
  rw [h1] at h ⊢
  have hs := fun i o ho => ordersOk_spec (bef := []) h i o ho (Nat.zero_le _)
  exact ⟨⟨h3, fun i o ho => (hs i o ho).2.1, fun i o ho => (hs i o ho).2.2⟩, fun i o ho => (hs i o ho).1⟩

theorem QOrd.uniq {ops : Array Oper} {L : List Nat} (h : QOrd ops L) : Uniq ops.toList := by
  intro i j p q t hij hp hq ht ht'
  have := h.pair j q hq i p hij hp
  simp only [pairOk, Bool.and_eq_true, Bool.not_eq_true'] at this
  exact meet_false this.1 (i := t) (by simp [ht']) (by simp [ht])

theorem getD_getD {S : Array Bool} {j : Nat} (h : j < S.size) (d d' : Bool) : S.getD j d = S.getD j d' := by
  simp [Array.getD_eq_getD_getElem?, Array.getElem?_eq_getElem h]

theorem getD_lt {S : Array Bool} {j : Nat} (h : S.getD j false = true) : j < S.size := by
  rcases Nat.lt_or_ge j S.size with q | q
  · exact q
  · rw [Array.getD_eq_getD_getElem?, Array.getElem?_eq_none q] at h; cases h

section
variable {ops : Array Oper} {L : List Nat} {vs : List AV} {st0 stA sti : St} {S : Array Bool}

theorem QInv.ahead (hI : QInv ops L vs st0 stA S) (hO : QOrd ops L) {i : Nat} (hi : i ∈ Region.ready .any ops S) {j : Nat} (hb : Nat.testBit (L.getD i 0) j = true) : S.getD j false = true := by
  obtain ⟨_, o, ho, hr⟩ := mem_ready.1 hi
  have ho' : ops.toList[i]? = some o := by simpa using ho
  have hm := hO.mask i o ho'
  rw [List.getD_eq_getElem?_getD, hm, Option.getD_some] at hb
  obtain ⟨e, he, hbe, h⟩ := maskOf_bit hb
  rcases h with h | h
  · exact h ▸ hr e he hbe
  · have hlt := hO.low i o ho' e he hbe
    refine hI.cl e.on j (hr e he hbe) ?_
    rw [List.getD_eq_getElem?_getD, List.getElem?_take, if_pos hlt, ← List.getD_eq_getElem?_getD] at h
    exact h

theorem QInv.slots (hI : QInv ops L vs st0 stA S) (hO : QOrd ops L) {i : Nat} {o : Oper} (ho : ops.toList[i]? = some o) (hi : i ∈ Region.ready .any ops S) (hl : vs.length = ops.toList.length) (hsti : SlotsAt ops.toList vs st0 i sti)
    {t : Tmp} (ht : t ∈ Am.slots ops o) : look stA.tm t = look sti.tm t := by
  obtain ⟨_, _, _, hA, hB⟩ := hsti
  have hu := hO.uniq
  have hni : S.getD i false = false := by
    obtain ⟨h, _⟩ := mem_ready.1 hi
    cases hq : S.getD i false with
    | false => rfl
    | true => rw [getD_getD (getD_lt hq) false true, h] at hq; cases hq
  by_cases hw : ∃ (j : Nat) (p : Oper), ops.toList[j]? = some p ∧ p.dst = some t
  · obtain ⟨j, p, hp, hd⟩ := hw
    have only : ∀ (k : Nat) (q : Oper), ops.toList[k]? = some q → q.dst = some t → k = j := by
      intro k q hq hqd
      rcases Nat.lt_trichotomy k j with h | h | h
      · exact absurd hd (hu k j q p t h hq hp hqd)
      · exact h
      · exact absurd hqd (hu j k p q t h hp hq hd)
    rcases Nat.lt_trichotomy j i with h | h | h
    · have hpair := hO.pair i o ho j p h hp
      simp only [pairOk, Bool.and_eq_true, Bool.or_eq_true, Bool.not_eq_true'] at hpair
      have hbit : Nat.testBit (L.getD i 0) j = true := by
        rcases hpair.2 with q | q
        · exact q
        · exact (meet_false q.1 (i := t) (by simp [hd]) ht).elim
      have hS := hI.ahead hO hi hbit
      have hjv : ∃ v, vs[j]? = some v := by
        have : j < vs.length := by rw [hl]; exact (List.getElem?_eq_some_iff.1 hp).1
        exact ⟨vs[j], List.getElem?_eq_getElem this⟩
      obtain ⟨v, hv⟩ := hjv
      rw [hI.a j p v t hS hp hv hd, hA j p v t h hp hv hd]
    · subst h
      rw [hI.b t, hB t]
      · intro k q hk hq hqd
        have := only k q hq hqd
        omega
      · intro k q hk hq hqd
        have := only k q hq hqd
        subst this
        rw [hni] at hk; cases hk
    · have hpair := hO.pair j p hp i o h ho
      simp only [pairOk, Bool.and_eq_true, Bool.or_eq_true, Bool.not_eq_true'] at hpair
      have hbit : Nat.testBit (L.getD j 0) i = true := by
        rcases hpair.2 with q | q
        · exact q
        · exact (meet_false q.2 (i := t) (by simp [hd]) ht).elim
      rw [hI.b t, hB t]
      · intro k q hk hq hqd
        have := only k q hq hqd
        omega
      · intro k q hk hq hqd
        have := only k q hq hqd
        subst this
        have := hI.cl k i hk hbit
        rw [hni] at this; cases this
  · have hno : ∀ (k : Nat) (q : Oper), ops.toList[k]? = some q → q.dst ≠ some t := fun k q hq hd => hw ⟨k, q, hq, hd⟩
    rw [hI.b t fun k q _ hq => hno k q hq, hB t fun k q _ hq => hno k q hq]

theorem QInv.step (hI : QInv ops L vs st0 stA S) (hO : QOrd ops L) {i : Nat} {o : Oper} {v : AV} (ho : ops.toList[i]? = some o) (hv : vs[i]? = some v) (hi : i ∈ Region.ready .any ops S) :
    QInv ops L vs st0 (put stA o.dst v) (S.setIfInBounds i true) := by
  obtain ⟨q1, q2, q3⟩ := put_mem stA o.dst v
  have hu := hO.uniq
  have hset : ∀ j, (S.setIfInBounds i true).getD j false = true → j = i ∨ S.getD j false = true := by
    intro j hj
    by_cases h : i = j
    · exact .inl h.symm
    · rw [getD_set_ne false h] at hj; exact .inr hj
  have hup : ∀ j, S.getD j false = true → (S.setIfInBounds i true).getD j false = true := fun j hj => getD_set_true hj
  refine ⟨by simp [hI.size], q1.trans hI.mem, q2.trans hI.nt, q3.trans hI.fix, ?_, ?_, ?_⟩
  · intro j p w t hj hp hw hd
    rw [look_put]
    by_cases hji : j = i
    · subst hji
      rw [ho] at hp; cases hp
      rw [hv] at hw; cases hw
      rw [if_pos hd]
    · have hne : o.dst ≠ some t := by
        rcases Nat.lt_or_gt_of_ne hji with h | h
        · exact hu j i p o t h hp ho hd
        · exact fun hod => hu i j o p t h ho hp hod hd
      rw [if_neg hne]
      rcases hset j hj with h | h
      · exact absurd h hji
      · exact hI.a j p w t h hp hw hd
  · intro t ht
    have hil : i < S.size := by rw [hI.size]; have := (List.getElem?_eq_some_iff.1 ho).1; simpa using this
    have hne : o.dst ≠ some t := ht i o (by simp [Array.getD_eq_getD_getElem?, hil]) ho
    rw [look_put, if_neg hne]
    exact hI.b t fun j p hj hp => ht j p (hup j hj) hp
  · intro k j hk hb
    rcases hset k hk with h | h
    · subst h; exact hup j (hI.ahead hO hi hb)
    · exact hup j (hI.cl k j h hb)

theorem QInv.all (hI : QInv ops L vs st0 stA S) (hO : QOrd ops L) (hr : Region.ready .any ops S = []) : ∀ i, i < ops.size → S.getD i false = true := by
  intro i
  induction i using Nat.strongRecOn with
  | ind i ih =>
    intro hi
    have ho : ops[i]? = some ops[i] := Array.getElem?_eq_getElem hi
    have ho' : ops.toList[i]? = some ops[i] := by simp [hi]
    cases hq : S.getD i false with
    | true => rfl
    | false =>
      have : i ∈ Region.ready .any ops S := mem_ready.2 ⟨by rw [getD_getD (by rw [hI.size]; exact hi) true false]; exact hq, ops[i], ho, fun e he hb => ih e.on (hO.low i _ ho' e he hb) (by have := hO.low i _ ho' e he hb; omega)⟩
      rw [hr] at this; cases this

theorem QInv.ends (hI : QInv ops L vs st0 stA S) (hl : vs.length = ops.toList.length) {st' : St} (hst : SlotsAt ops.toList vs st0 ops.toList.length st') (hall : ∀ i, i < ops.size → S.getD i false = true) :
    stA.mem = st'.mem ∧ stA.nt = st'.nt ∧ stA.fix = st'.fix ∧ ∀ t, look stA.tm t = look st'.tm t := by
  obtain ⟨h1, h2, h3, hA, hB⟩ := hst
  refine ⟨hI.mem.trans h1.symm, hI.nt.trans h2.symm, hI.fix.trans h3.symm, fun t => ?_⟩
  by_cases hw : ∃ (j : Nat) (p : Oper), ops.toList[j]? = some p ∧ p.dst = some t
  · obtain ⟨j, p, hp, hd⟩ := hw
    have hjl := (List.getElem?_eq_some_iff.1 hp).1
    have hjv : vs[j]? = some vs[j] := List.getElem?_eq_getElem (by rw [hl]; exact hjl)
    rw [hI.a j p _ t (hall j (by simpa using hjl)) hp hjv hd, hA j p _ t hjl hp hjv hd]
  · rw [hI.b t fun k q _ hq hd => hw ⟨k, q, hq, hd⟩, hB t fun k q _ hq hd => hw ⟨k, q, hq, hd⟩]

end

theorem SRel.same {g : Gh} {w : World} {st st' : St} {a : Act} (h : SRel E g st a w) (h1 : st.mem = st'.mem) (h2 : st.nt = st'.nt) (h3 : st.fix = st'.fix) (h4 : ∀ t, look st.tm t = look st'.tm t) : SRel E g st' a w :=
  ⟨fun k => h4 k ▸ h.tm k, h2 ▸ h.nt, h1 ▸ h.rel, by rw [← h1, ← h3]; exact h.fix, h.glob⟩

theorem wants_congr {ops : Array Oper} {tm tm' : Tms} {o : Oper} (h : ∀ t ∈ slots ops o, look tm t = look tm' t) : wants ops tm o = wants ops tm' o := by
  unfold wants
  unfold slots at h
  cases hg : o.guard with
  | none => rfl
  | some q =>
    obtain ⟨j, want⟩ := q
    simp only [hg] at h
    dsimp only
    cases hj : ops[j]? with
    | none => rfl
    | some oj =>
      simp only [hj] at h
      dsimp only
      cases hd : oj.dst with
      | none => rfl
      | some d => simp only [h d (by simp [hd])]

theorem ev_congr {tm tm' : Tms} {ops : Array Oper} {o : Oper} (h : ∀ t ∈ slots ops o, look tm t = look tm' t) : ∀ x ∈ o.op.operands, ev E tm x = ev E tm' x := by
  intro x hx
  cases x with
  | tmp t => exact h t (List.mem_append_right _ (List.mem_filterMap.2 ⟨.tmp t, by simpa using hx, rfl⟩))
  | _ => rfl

theorem quiet_any {b : Frame} {k : List Item} {ops : Array Oper} {L : List Nat} {vs : List AV} {st0 st' : St} {wr : Bool} {nid : Nat} (hO : QOrd ops L) (hQ : ∀ (i : Nat) o, ops.toList[i]? = some o → quietOp o = true) (hn : st0.mem[nid]? = some .free)
    (hrun : QRun P E (fun i => st0.mem.getD i .dead) wr nid ops ops.toList st0 vs st') : ∀ (fuel t : Nat) (S : Array Bool) (stA : St) (a : Act) (g : Gh) (w : World) (u : List Nat),
      QInv ops L vs st0 stA S → SRel E g stA a w → u.length = fuel → (∀ i, i < ops.size → S.getD i false = false → i ∈ u) →
      ∃ g' a' w', (∀ cs, Steps P (lone (b.atR a (.inRegion ops (Region.linearise.go .any ops fuel t S []) :: k)) cs w) (lone (b.atR a' (.inRegion ops [] :: k)) cs w')) ∧ a'.defers = a.defers ∧ SRel E g' st' a' w' ∧
        Stp g st0.mem w g' st0.mem w' ∧ Fixed g g' st0.fix ∧ ∀ i c, g.blk i = some c → g'.blk i = some c := by
  obtain ⟨hl, hend, hspec⟩ := hrun.spec hO.uniq
  intro fuel
  induction fuel with
  | zero =>
    intro t S stA a g w u hI hs hul hu
    have hall : ∀ i, i < ops.size → S.getD i false = true := by
      intro i hi
      cases hq : S.getD i false with
      | true => rfl
      | false =>
        have := hu i hi hq
        rw [List.eq_nil_of_length_eq_zero hul] at this; cases this
    obtain ⟨e1, e2, e3, e4⟩ := hI.ends hl hend hall
    exact ⟨g, a, w, fun cs => Steps.refl _ _, rfl, hs.same e1 e2 e3 e4, Stp.refl _ _ _, Fixed.refl _ _, fun _ _ h => h⟩
  | succ fuel ih =>
    intro t S stA a g w u hI hs hul hu
    simp only [Region.linearise.go]
    show ∃ g' a' w', (∀ cs, Steps P (lone (b.atR a (.inRegion ops (match (Region.ready .any ops S)[t % (Region.ready .any ops S).length]? with
      | some i => Region.linearise.go .any ops fuel (t / (Region.ready .any ops S).length) (S.setIfInBounds i true) [i]
      | none => [].reverse) :: k)) cs w) (lone (b.atR a' (.inRegion ops [] :: k)) cs w')) ∧ _
    cases hi : (Region.ready .any ops S)[t % (Region.ready .any ops S).length]? with
    | none =>
      have hnil : Region.ready .any ops S = [] := by
        cases hr : Region.ready .any ops S with
        | nil => rfl
        | cons x xs =>
          rw [hr] at hi
          have hlt : t % (x :: xs).length < (x :: xs).length := Nat.mod_lt _ (by simp)
          rw [List.getElem?_eq_getElem hlt] at hi; cases hi
      obtain ⟨e1, e2, e3, e4⟩ := hI.ends hl hend (hI.all hO hnil)
      exact ⟨g, a, w, fun cs => Steps.refl _ _, rfl, hs.same e1 e2 e3 e4, Stp.refl _ _ _, Fixed.refl _ _, fun _ _ h => h⟩
    | some i =>
      have hir := List.mem_of_getElem? hi
      obtain ⟨hSi, o, ho, _⟩ := mem_ready.1 hir
      have ho' : ops.toList[i]? = some o := by simpa using ho
      obtain ⟨v, sti, hv, hk, hf, hsti⟩ := hspec i o ho'
      have hslots : ∀ t ∈ slots ops o, look stA.tm t = look sti.tm t := fun t ht => hI.slots hO ho' hir hl hsti ht
      have hilt : i < ops.size := (Array.getElem?_eq_some_iff.1 ho).1
      have hmemu : i ∈ u := hu i hilt (by rw [getD_getD (by rw [hI.size]; exact hilt) false true]; exact hSi)
      have hu' : ∀ j, j < ops.size → (S.setIfInBounds i true).getD j false = false → j ∈ u.erase i := by
        intro j hj hq
        have hne : j ≠ i := by
          intro e
          subst e
          rw [show (S.setIfInBounds j true).getD j false = true by simp [Array.getD_eq_getD_getElem?, hI.size, hj]] at hq
          cases hq
        rw [getD_set_ne false (fun e => hne e.symm)] at hq
        exact (List.mem_erase_of_ne hne).2 (hu j hj hq)
      have hul' : (u.erase i).length = fuel := by rw [List.length_erase_of_mem hmemu, hul]; rfl
      have hI' := hI.step hO ho' hv hir
      have hfA : fits stA o.dst = true := by
        have : fits stA o.dst = fits sti o.dst := by unfold fits; rw [hI.nt, hsti.2.1]
        rw [this]; exact hf
      dsimp only
      rw [linearise_go_acc, List.reverse_singleton, List.singleton_append]
      have hwt := wants_congr hslots
      obtain ⟨w1, w2, w3⟩ := wants_yes hs (ops := ops) (o := o)
      rcases hk with ⟨hw, hop⟩ | ⟨hw, rfl⟩
      · have hwanted : Region.wanted o (yielded ops a.tmps) = true := by
          rcases hw with hw | ⟨d, b', want, hw, hb⟩
          · exact w1 (hwt.trans hw)
          · rw [(w3 d b' want (hwt.trans hw)).1]; exact hb
        have hop' : op1 P (fun i => stA.mem.getD i .dead) wr nid (ev E stA.tm) o = some (v, [], true) := by
          rw [hI.mem, op1_congr (hQ i o ho') (ev_congr hslots)]; exact hop
        obtain ⟨cv, w', g', k1, k2, k3, k4, k5⟩ := op1_sound hs.rel (ev_sound hs) (fun _ => rfl) (fun _ => by rw [hI.mem]; exact hn) hop'
        have hs' := hs.put hfA k2 k4 k3 hs.fix
        obtain ⟨g2, a2, w2', r1, r2, r3, r4, r5, r6⟩ := ih (t / (Region.ready .any ops S).length) _ _ _ _ _ _ hI' hs' hul' hu'
        refine ⟨g2, a2, w2', fun cs => .head (step_op ho hwanted k1) (r1 cs), r2.trans put_defers, r3, ?_, (Fixed.ofExt k4 _).trans r5, fun i c q => r6 i c (k4.blk i c q).1⟩
        have k5' : Stp g st0.mem w g' st0.mem w' := by rw [← hI.mem]; exact k5
        exact k5'.trans r4
      · have hwanted : Region.wanted o (yielded ops a.tmps) = false := by
          rcases hw with hw | ⟨d, b', want, hw, hb⟩
          · exact w2 (hwt.trans hw)
          · rw [(w3 d b' want (hwt.trans hw)).1]; exact hb
        have hs' := hs.put (v := .tup []) (cv := undef) hfA (VA.tups.2 trivial) (Ext.refl g w) hs.rel hs.fix
        obtain ⟨g2, a2, w2', r1, r2, r3, r4, r5, r6⟩ := ih (t / (Region.ready .any ops S).length) _ _ _ _ _ _ hI' hs' hul' hu'
        refine ⟨g2, a2, w2', fun cs => .head ?_ (r1 cs), r2.trans put_defers, r3, r4, r5, r6⟩
        have hst := stepR_op_skip (P := P) (b := b) (a := a) (k := k) (cs := cs) (w := w) (ops := ops) (i := i) (rest := Region.linearise.go .any ops fuel (t / (Region.ready .any ops S).length) (S.setIfInBounds i true) []) (by simp [ho, hwanted])
        simpa only [ho, Option.bind_some] using hst

theorem SRel.drew {g : Gh} {w : World} {st : St} {a : Act} (h : SRel E g st a w) (n : Nat) : SRel E g st a { w with drawn := n } := by
  have he : Ext g w g { w with drawn := n } := ⟨fun _ _ e => ⟨e, rfl, rfl⟩, fun _ _ e => ⟨e, rfl⟩⟩
  refine ⟨fun k => (h.tm k).mono he, h.nt, (h.rel.sameHeap (w' := { w with drawn := n }) rfl rfl rfl rfl).1, h.fix, h.glob.mono he.pure⟩

theorem draw_ok {g : Gh} {w : World} {b : Frame} {a : Act} {k : List Item} {ops : Array Oper} {f rid : Nat} {st st' : St} (hs : SRel E g st a w) (h : quietRun P E f rid ops st = some (st', true)) :
    ∃ g' a' w', (∀ cs, Steps P (lone (b.atR a (.code (.region rid ops true) :: k)) cs w) (lone (b.atR a' k) cs w')) ∧ a'.defers = a.defers ∧ SRel E g' st' a' w' ∧
      Stp g st.mem w g' st'.mem w' ∧ Fixed g g' st.fix ∧ st'.fix = st.fix ∧ ∀ i c, g.blk i = some c → g'.blk i = some c := by
  unfold quietRun at h
  dsimp only at h
  split at h
  · rename_i st1 ok hq
    cases hall2 : (ops.toList.all quietOp && noTold E f ops) with
    | false => rw [hall2] at hq; cases hq
    | true =>
    rw [hall2] at hq
    simp only [cond_true] at hq
    have hall : ops.toList.all quietOp = true := (Bool.and_eq_true _ _ ▸ hall2).1
    simp only [Option.some.injEq, Prod.mk.injEq, Bool.and_eq_true] at h
    obtain ⟨rfl, rfl, hord, hmix⟩ := h
    obtain ⟨vs, hrun⟩ := quietGo_run hq
    obtain ⟨hO, hQ⟩ := QOrd.of hord
    obtain ⟨hr1, hr2⟩ := hs.rel.reserve
    have hs1 : SRel E g { st with mem := st.mem ++ [.free] } a w := ⟨hs.tm, hs.nt, hr1, by simp; have := hs.fix; omega, hs.glob⟩
    have hgd : ∀ j, (Array.replicate ops.size false).getD j false = false := by
      intro j
      rw [Array.getD_eq_getD_getElem?, Array.getElem?_replicate]
      split <;> rfl
    have hI : QInv ops (masks [] ops.toList) vs { st with mem := st.mem ++ [.free] } { st with mem := st.mem ++ [.free] } (Array.replicate ops.size false) :=
      ⟨by simp, rfl, rfl, rfl, fun j _ _ _ hj => (by rw [hgd] at hj; cases hj), fun _ _ => rfl, fun i _ hi => (by rw [hgd] at hi; cases hi)⟩
    have hs2 := hs1.drew (w.drawn + 1)
    obtain ⟨g', a', w', r1, r2, r3, r4, r5, r6⟩ := quiet_any (P := P) (E := E) (b := b) (k := k) hO hQ (by simp) hrun ops.size (w.tape w.drawn (.order b.fn rid)) _ _ a g _ (List.range ops.size) hI hs2 (by simp) (fun i hi _ => List.mem_range.2 hi)
    have hend := (hrun.spec hO.uniq).2.1
    refine ⟨g', a', w', fun cs => ?_, r2, r3, ?_, r5, hend.2.2.1, r6⟩
    · refine .head stepR_region_draw ?_
      have hsch : Region.schedule (P.follows .mixedOrders) ops (w.tape w.drawn (.order b.fn rid)) = Region.linearise.go .any ops ops.size (w.tape w.drawn (.order b.fn rid)) (Array.replicate ops.size false) [] := by
        simp only [Region.schedule, hmix, if_true, Region.linearise]
      rw [hsch]
      exact (r1 cs).trans (.one stepR_region_end)
    · rw [hend.1]
      have hst : Stp g (st.mem ++ [.free]) w g (st.mem ++ [.free]) { w with drawn := w.drawn + 1 } := ⟨Nat.le_refl _, fun _ _ _ => rfl, fun _ _ h => ⟨h, rfl⟩, fun _ _ h => .inl h, fun _ h => .inl h, rfl, rfl, rfl⟩
      exact (hr2.trans hst).trans r4
  · cases h

end
end Go.Am
end

section
namespace Go.Am
open Go.RowKit

section
variable {P : Program} {E : Env}

theorem cellsAt_congr {rd rd' : Nat → Blk} {a : AV} (h : ∀ b ∈ refs a, rd b = rd' b) (n : Nat) : cellsAt rd a n = cellsAt rd' a n := by
  cases a with
  | mp b off => simp only [cellsAt, h b (by simp [refs])]
  | p v => cases v <;> rfl
  | _ => rfl

theorem contents_congr {rd rd' : Nat → Blk} {a : AV} (h : ∀ b ∈ refs a, rd b = rd' b) (sz : Nat) : contents rd sz a = contents rd' sz a := by
  cases a with
  | ms b off len s c =>
    cases c with
    | none => simp only [contents, h b (by simp [refs])]
    | some c => simp only [contents, h b (by simp [refs])]
  | p v =>
    cases v with
    | sc v => cases v <;> rfl
    | _ => rfl
  | _ => rfl

theorem contentsA_congr {rd rd' : Nat → Blk} {a : AV} (h : ∀ b ∈ refs a, rd b = rd' b) (sz : Nat) : contentsA rd sz a = contentsA rd' sz a := by
  have hc := contents_congr h sz
  unfold contentsA
  rw [hc]
  cases contents rd' sz a with
  | some r => rfl
  | none =>
    cases a with
    | ms b off len s c =>
      cases c with
      | none => rfl
      | some c => simp only [h b (by simp [refs])]
    | _ => rfl

theorem unsafeString_congr {rd rd' : Nat → Blk} {x n : AV} (h : ∀ b ∈ refs x, rd b = rd' b) {ts : List TypeId} : unsafeStringOp P rd ts x n = unsafeStringOp P rd' ts x n := by
  have hg : grOf rd x = grOf rd' x := by
    cases x with
    | mp b off => cases off with
      | zero => simp only [grOf, h b (by simp [refs])]
      | succ _ => rfl
    | _ => rfl
  unfold unsafeStringOp
  simp only [hg]

theorem convert_congr {rd rd' : Nat → Blk} {a : AV} (h : ∀ b ∈ refs a, rd b = rd' b) {nid : Nat} {ρ : Operand → AV} {o : Oper} {s d : TypeId} : convertOp P rd nid ρ o s d a = convertOp P rd' nid ρ o s d a := by
  have hc := fun sz => contents_congr (a := a) h sz
  unfold convertOp
  split <;> first
    | rfl
    | (rename_i b off len sz cap hd; have hb := h b (by simp [refs]); simp only [hb]; done)
    | (rename_i b off hd; have hb := h b (by simp [refs]); simp only [hb]; done)
    | (rename_i u b hd; have hb := h b (by simp [refs]); simp only [hb]; done)
    | simp only [hc]

theorem append_congr {rd rd' : Nat → Blk} {s x : AV} (h : ∀ b ∈ refs s ++ refs x, rd b = rd' b) {nid : Nat} {ts : Array TypeId} : appendOp P rd nid ts s x = appendOp P rd' nid ts s x := by
  have hc := fun sz => contents_congr (a := x) (fun b hb => h b (List.mem_append_right _ hb)) sz
  have ht : ∀ tok len sz cs, s = .os tok len sz cs → takeTok rd nid tok = takeTok rd' nid tok := by
    rintro tok len sz cs rfl
    cases tok with
    | none => rfl
    | some t => simp only [takeTok, h t (by simp [refs])]
  unfold appendOp
  simp only [hc]
  repeat' first | rfl | split
  all_goals first
    | rfl
    | (rw [ht _ _ _ _ rfl])
    | simp_all

theorem appendMs_congr {rd rd' : Nat → Blk} {s x : AV} (h : ∀ b ∈ refs s ++ refs x, rd b = rd' b) {nid : Nat} {ts : Array TypeId} : appendMs P rd nid ts s x = appendMs P rd' nid ts s x := by
  have hc := fun sz => contentsA_congr (a := x) (fun b hb => h b (List.mem_append_right _ hb)) sz
  have hp : ∀ sz, pureX rd sz x = pureX rd' sz x := fun sz => by unfold pureX; rw [contents_congr (a := x) (fun b hb => h b (List.mem_append_right _ hb)) sz]
  cases s with
  | ms b off len sz cap =>
    have hb := h b (by simp [refs])
    unfold appendMs
    simp only [hc, hp]
    cases off with
    | zero => cases cap <;> simp only [hb]
    | succ off => rfl
  | os tok len sz cells =>
    cases tok with
    | none =>
      unfold appendMs
      simp only [hc, hp]
    | some t =>
      unfold appendMs
      simp only [hc]
  | _ =>
    unfold appendMs
    simp only [hc]

theorem appendBoth_congr {rd rd' : Nat → Blk} {wr : Bool} {s x : AV} (h : ∀ b ∈ refs s ++ refs x, rd b = rd' b) {nid : Nat} {ts : Array TypeId} :
    (match isMs s || wr with | true => appendMs P rd nid ts (nilSl s) x | false => appendOp P rd nid ts (nilSl s) x) = (match isMs s || wr with | true => appendMs P rd' nid ts (nilSl s) x | false => appendOp P rd' nid ts (nilSl s) x) := by
  have hs : ∀ b ∈ refs (nilSl s), b ∈ refs s := by
    intro b hb
    unfold nilSl at hb
    split at hb
    · simp [refs] at hb
    · exact hb
  have h' : ∀ b ∈ refs (nilSl s) ++ refs x, rd b = rd' b := fun b hb => h b ((List.mem_append.1 hb).elim (fun q => List.mem_append_left _ (hs b q)) fun q => List.mem_append_right _ q)
  rw [appendMs_congr h', append_congr h']

theorem copy_congr {rd rd' : Nat → Blk} {d s : AV} (h : ∀ b ∈ refs d ++ refs s, rd b = rd' b) {ts : Array TypeId} : copyOp P rd ts d s = copyOp P rd' ts d s := by
  have hc := fun sz => contents_congr (a := s) (fun b hb => h b (List.mem_append_right _ hb)) sz
  have ht : ∀ b off len sz cap, d = .ms b off len sz cap → rd b = rd' b := by
    rintro b off len sz cap rfl
    exact h b (by simp [refs])
  unfold copyOp
  simp only [hc]
  repeat' first | rfl | split
  all_goals first
    | rfl
    | (rename_i h1 h2; rw [ht _ _ _ _ _ rfl] at h1; simp_all)
    | (rename_i h1; rw [ht _ _ _ _ _ rfl] at h1; simp_all)
    | simp_all

theorem lookup_congr {rd rd' : Nat → Blk} {x : AV} (h : ∀ b ∈ refs x, rd b = rd' b) {t : TypeId} {k : AV} {ok : Bool} : lookupOp P rd t x k ok = lookupOp P rd' t x k ok := by
  have hm : mapOf rd x = mapOf rd' x := by
    cases x with
    | vm b => simp only [mapOf, h b (by simp [refs])]
    | p v =>
      cases v with
      | sc v =>
        cases v with
        | map r => cases r <;> rfl
        | _ => rfl
      | _ => rfl
    | _ => rfl
  have hu : umapOf rd x = umapOf rd' x := by
    cases x with
    | vm b => simp only [umapOf, h b (by simp [refs])]
    | _ => rfl
  unfold lookupOp lookupU
  simp only [hm, hu]

theorem mapUpdate_congr {rd rd' : Nat → Blk} {x : AV} (h : ∀ b ∈ refs x, rd b = rd' b) {t : TypeId} {k v : AV} : mapUpdateOp P rd t x k v = mapUpdateOp P rd' t x k v := by
  cases x with
  | vm b =>
    have hb := h b (by simp [refs])
    cases k with
    | p u =>
      cases u with
      | sc u => simp only [mapUpdateOp, hb]
      | _ => rfl
    | agg l =>
      show mapUpdateU P rd t (.vm b) (.agg l) v = mapUpdateU P rd' t (.vm b) (.agg l) v
      unfold mapUpdateU
      generalize toV (AV.agg l) = kk
      generalize P.underlying t = tt
      cases kk with
      | none => rfl
      | some key =>
        cases tt with
        | none => rfl
        | some d => cases d <;> first
          | rfl
          | simp only [hb]
    | _ => rfl
  | _ => cases k <;> rfl

theorem op1_led {rd rd' : Nat → Blk} {wr : Bool} {nid : Nat} {ρ ρ' : Operand → AV} {o : Oper} (hq : ledOp o = true) (h : ∀ x ∈ o.op.operands, ρ x = ρ' x) (hrd : ∀ b ∈ sees ρ o, rd b = rd' b) : op1 P rd wr nid ρ o = op1 P rd' wr nid ρ' o := by
  have h1 : op1 P rd wr nid ρ o = op1 P rd' wr nid ρ o := by
    obtain ⟨dst, op, type, pos, after, guard⟩ := o
    cases op <;> try rfl
    case load t a => simp only [op1, loadOp, cellsAt_congr (a := ρ a) hrd]
    case store t a v =>
      simp only [op1, storeOp]
      have hrd : ∀ b ∈ refs (ρ a), rd b = rd' b := hrd
      generalize ρ a = x at hrd ⊢
      cases x with
      | mp b off =>
        cases szOf P t with
        | none => rfl
        | some n => simp only [hrd b (by simp [refs])]
      | _ => rfl
    case convert s d x => exact convert_congr hrd
    case lookup t x i ok => exact congrArg noUpd (lookup_congr hrd)
    case mapUpdate t x k v => exact mapUpdate_congr hrd
    case insert t x k v => exact mapUpdate_congr hrd
    case next => simp [ledOp, quietOp] at hq
    case call c =>
      obtain ⟨callee, args, tys⟩ := c
      cases callee with
      | value _ => rfl
      | invoke _ _ => rfl
      | builtin b => cases b <;> first
        | rfl
        | (obtain ⟨args⟩ := args; rcases args with _ | ⟨x, _ | ⟨y, r⟩⟩ <;> rfl)
        | (obtain ⟨args⟩ := args; rcases args with _ | ⟨x, _ | ⟨y, _ | ⟨z, r⟩⟩⟩ <;> first | rfl | exact appendBoth_congr fun b hb => hrd b (by simpa [sees, refsL] using hb) | exact copy_congr fun b hb => hrd b (by simpa [sees, refsL] using hb) | exact unsafeString_congr fun b hb => hrd b (by simp [sees, refsL, hb]))
        | simp [ledOp, quietOp] at hq
    case makeMap t r => cases r <;> rfl
  rw [h1]
  cases hqq : quietOp o with
  | true => exact op1_congr hqq h
  | false =>
    simp only [ledOp, hqq, Bool.false_or] at hq
    obtain ⟨dst, op, type, pos, after, guard⟩ := o
    cases op <;> simp only [Bool.false_eq_true] at hq <;> simp only [Op.operands] at h <;> simp only [op1]
    case box t v => rw [h v (by simp)]
    case buildSlice t n ps =>
      have : ps.toList.map (fun q => (q.1, ρ q.2)) = ps.toList.map fun q => (q.1, ρ' q.2) :=
        List.map_congr_left fun q hq => by rw [h q.2 (by simp only [List.mem_toArray, List.mem_map]; exact ⟨q, hq, rfl⟩)]
      rw [this]
    case makeSlice t l c => rw [h l (by simp), h c (by simp)]
    case store t a v => rw [h a (by simp), h v (by simp)]
    case makeMap t r => cases r <;> rfl
    case lookup t x i ok => rw [h x (by simp), h i (by simp)]
    case mapUpdate t x k v => rw [h x (by simp), h k (by simp), h v (by simp)]
    case insert t x k v => rw [h x (by simp), h k (by simp), h v (by simp)]
    case call c =>
      obtain ⟨callee, args, tys⟩ := c
      cases callee with
      | value _ => simp at hq
      | invoke _ _ => simp at hq
      | builtin b =>
        simp only [Call.operands] at h
        obtain ⟨args⟩ := args
        cases b <;> simp only [Bool.false_eq_true] at hq
        all_goals
          rcases args with _ | ⟨x, _ | ⟨y, _ | ⟨z, r⟩⟩⟩ <;> first | rfl | simp only [h x (by simp), h y (by simp)] | simp only [h x (by simp)]

theorem target_congr {ρ ρ' : Operand → AV} {o : Oper} (h : ∀ x ∈ o.op.operands, ρ x = ρ' x) : target ρ o = target ρ' o := by
  obtain ⟨dst, op, type, pos, after, guard⟩ := o
  cases op <;> try rfl
  case call c =>
    obtain ⟨callee, args, tys⟩ := c
    cases callee with
    | value f =>
      simp only [Op.operands, Call.operands] at h
      have h1 : ρ f = ρ' f := h f (by simp)
      have h2 : args.toList.map ρ = args.toList.map ρ' := List.map_congr_left fun x hx => h x (by simp_all)
      simp only [target, h1, h2]
    | _ => rfl

theorem apply_out : ∀ (us : Upd) (m : Mem) (b : Nat), b ∉ us.map (·.1) → (apply m us)[b]? = m[b]?
  | [], _, _, _ => rfl
  | (i, x) :: us, m, b, h => by
    simp only [List.map_cons, List.mem_cons, not_or] at h
    simp only [apply]
    rw [apply_out us _ b h.2, List.getElem?_set_ne (fun e => h.1 e.symm)]

theorem apply_in : ∀ (us : Upd) (m m' : Mem) (b : Nat), m.length = m'.length → b ∈ us.map (·.1) → (apply m us)[b]? = (apply m' us)[b]?
  | (i, x) :: us, m, m', b, hl, h => by
    simp only [apply]
    by_cases hb : b ∈ us.map (·.1)
    · exact apply_in us _ _ b (by simp [hl]) hb
    · rw [apply_out us _ b hb, apply_out us _ b hb]
      simp only [List.map_cons, List.mem_cons] at h
      have : b = i := h.resolve_right hb
      subst this
      simp only [List.getElem?_set, hl, if_true]

abbrev Did.w (d : Did) : List Nat := d.us.map (·.1)

structure MemOf (ds : List Did) (base : Mem) (S : Nat → Prop) (M : Mem) : Prop where
  len : M.length = base.length
  out : ∀ b, (∀ j d, S j → ds[j]? = some d → b ∉ d.w) → M[b]? = base[b]?
  last : ∀ j d b, S j → ds[j]? = some d → b ∈ d.w → (∀ k e, S k → j < k → ds[k]? = some e → b ∉ e.w) → M[b]? = (apply base d.us)[b]?

theorem MemOf.nil {ds : List Did} {base : Mem} {S : Nat → Prop} (h : ∀ j, ¬ S j) : MemOf ds base S base := ⟨rfl, fun _ _ => rfl, fun j _ _ hj => absurd hj (h j)⟩

theorem MemOf.step {ds : List Did} {base M : Mem} {S S' : Nat → Prop} {i : Nat} {d : Did} (h : MemOf ds base S M) (hd : ds[i]? = some d) (hS : ∀ j, S' j ↔ S j ∨ j = i) (hi : ¬ S i)
    (hdis : ∀ j e, S j → i < j → ds[j]? = some e → ∀ b ∈ d.w, b ∉ e.w) : MemOf ds base S' (apply M d.us) := by
  refine ⟨by rw [apply_length]; exact h.len, fun b hb => ?_, fun j e b hj he hbe hl => ?_⟩
  · rw [apply_out _ _ _ (hb i d ((hS i).2 (.inr rfl)) hd)]
    exact h.out b fun j e hj he => hb j e ((hS j).2 (.inl hj)) he
  · rcases (hS j).1 hj with hj' | rfl
    · have hbd : b ∉ d.w := by
        intro q
        rcases Nat.lt_trichotomy j i with hlt | heq | hgt
        · exact hl i d ((hS i).2 (.inr rfl)) hlt hd q
        · subst heq; exact hi hj'
        · exact hdis j e hj' hgt he b q hbe
      rw [apply_out _ _ _ hbd]
      exact h.last j e b hj' he hbe fun k x hk hjk hx => hl k x ((hS k).2 (.inl hk)) hjk hx
    · rw [hd] at he; cases he
      exact apply_in _ _ _ _ h.len hbe

theorem last_of {p : Nat → Prop} {n : Nat} (hb : ∀ k, p k → k < n) : ∀ (r j : Nat), n - j = r → p j → ∃ j, p j ∧ ∀ k, p k → ¬ j < k := by
  intro r
  induction r using Nat.strongRecOn with
  | ind r ih =>
    intro j hr hj
    by_cases h : ∃ k, p k ∧ j < k
    · obtain ⟨k, hk, hjk⟩ := h
      have := hb k hk
      exact ih (n - k) (by omega) k rfl hk
    · exact ⟨j, hj, fun k hk hjk => h ⟨k, hk, hjk⟩⟩

theorem MemOf.agree {ds : List Did} {base M M' : Mem} {S T : Nat → Prop} (h : MemOf ds base S M) (h' : MemOf ds base T M') {b : Nat} (hST : ∀ j d, ds[j]? = some d → b ∈ d.w → (S j ↔ T j)) : M[b]? = M'[b]? := by
  by_cases hw : ∃ j d, S j ∧ ds[j]? = some d ∧ b ∈ d.w
  · obtain ⟨j0, d0, q1, q2, q3⟩ := hw
    obtain ⟨j, ⟨hj, d, hd, hbd⟩, hl⟩ := last_of (p := fun j => S j ∧ ∃ d, ds[j]? = some d ∧ b ∈ d.w) (n := ds.length) (fun k ⟨_, d, hd, _⟩ => (List.getElem?_eq_some_iff.1 hd).1) _ j0 rfl ⟨q1, d0, q2, q3⟩
    rw [h.last j d b hj hd hbd fun k e hk hjk he hbe => hl k ⟨hk, e, he, hbe⟩ hjk,
      h'.last j d b ((hST j d hd hbd).1 hj) hd hbd fun k e hk hjk he hbe => hl k ⟨(hST k e he hbe).2 hk, e, he, hbe⟩ hjk]
  · rw [h.out b fun j d hj hd hbd => hw ⟨j, d, hj, hd, hbd⟩, h'.out b fun j d hj hd hbd => hw ⟨j, d, (hST j d hd hbd).2 hj, hd, hbd⟩]

def memAt (m : Mem) : List Did → Mem
  | [] => m
  | d :: r => memAt (apply m d.us) r

theorem memAt_append (m : Mem) : ∀ (ds es : List Did), memAt m (ds ++ es) = memAt (memAt m ds) es
  | [], _ => rfl
  | d :: ds, es => memAt_append (apply m d.us) ds es

theorem memAt_of (ds : List Did) (base : Mem) : ∀ i, i ≤ ds.length → MemOf ds base (· < i) (memAt base (ds.take i))
  | 0, _ => MemOf.nil fun _ h => absurd h (Nat.not_lt_zero _)
  | i + 1, h => by
    have hi : i < ds.length := h
    rw [List.take_succ_eq_append_getElem hi, memAt_append]
    exact (memAt_of ds base i (by omega)).step (d := ds[i]) (List.getElem?_eq_getElem hi) (fun j => by omega) (by omega) fun j e hj hij => absurd hj (by omega)

def FreeFrom (nx : Nat) (m : Mem) : Prop := ∀ i, nx ≤ i → i < m.length → m[i]? = some .free

def LDo (P : Program) (E : Env) (wr : Oper → Bool) (st : St) (nx : Nat) (o : Oper) (d : Did) (nx1 : Nat) : Prop :=
  (∃ g args v m1, target (ev E st.tm) o = some (g, args) ∧ Does P E g (renL (idx (close st.mem 0 args)) args) (pack st.mem (close st.mem 0 args)) v m1 ∧ (close st.mem 0 args).length ≤ m1.length ∧
    (∀ i ∈ close st.mem 0 args, i < nx) ∧ nx1 = nx + (m1.length - (close st.mem 0 args).length) ∧ nx1 ≤ st.mem.length ∧ d = didCall st.mem.length nx (close st.mem 0 args) v m1) ∨
  (target (ev E st.tm) o = none ∧ ledOp o = true ∧ op1 P (fun i => st.mem.getD i .dead) (wr o) nx (ev E st.tm) o = some (d.v, d.us, true) ∧ d.fp = d.w ++ (sees (ev E st.tm) o ++ cond (makes o) [nx] []) ∧
    (∀ b ∈ d.w, b < nx1) ∧ nx1 = cond (makes o) (nx + 1) nx ∧ nx1 ≤ st.mem.length ∧ d.ld = ldOf P (ev E st.tm) o d.v)

def LKind (P : Program) (E : Env) (wr : Oper → Bool) (ops : Array Oper) (st : St) (nx : Nat) (o : Oper) (d : Did) (nx1 : Nat) : Prop :=
  ((wants ops st.tm o = .yes ∨ ∃ s b want, wants ops st.tm o = .ask s b want ∧ (b == want) = true) ∧ LDo P E wr st nx o d nx1) ∨
  ((wants ops st.tm o = .no ∨ ∃ s b want, wants ops st.tm o = .ask s b want ∧ (b == want) = false) ∧ d = ⟨.tup [], [], [], fun _ _ => false⟩ ∧ nx1 = nx)

inductive LRun (P : Program) (E : Env) (wr : Oper → Bool) (ops : Array Oper) : List Oper → St → Nat → List Did → St → Nat → Prop
  | nil (st : St) (nx : Nat) : LRun P E wr ops [] st nx [] st nx
  | cons (o : Oper) (r : List Oper) (st : St) (nx : Nat) (d : Did) (nx1 : Nat) (ds : List Did) (st' : St) (nx' : Nat) (hf : fits st o.dst = true) (h : LKind P E wr ops st nx o d nx1)
      (hr : LRun P E wr ops r (put { st with mem := apply st.mem d.us } o.dst d.v) nx1 ds st' nx') : LRun P E wr ops (o :: r) st nx (d :: ds) st' nx'

theorem tellV_true {t : Option AV} {r : Option (Did × Nat × Bool)} {d : Did} {nx : Nat} (h : tellV t r = some (d, nx, true)) : r = some (d, nx, true) := by
  unfold tellV at h
  split at h
  · exact h
  · split at h
    · rename_i v d0 n0 ok
      simp only [Option.some.injEq, Prod.mk.injEq, Bool.and_eq_true] at h
      obtain ⟨rfl, rfl, h1, h2⟩ := h
      have e := eqAV_eq h2
      subst h1
      obtain ⟨v0, us, fp, ld⟩ := d0
      simp only at e
      subst e
      rfl
    · cases h

theorem ledOne_do {f rid : Nat} {O : FuncId → List AV → Mem → Option (AV × Mem)} (hO : ∀ g args m v m1, O g args m = some (v, m1) → Does P E g args m v m1) {nx nx1 : Nat} {o : Oper} {st : St} {d : Did}
    (h : ledOne P E f rid O nx o st = some (d, nx1, true)) : LDo P E (fun o => E.wr f (o.dst.getD 0)) st nx o d nx1 := by
  have h := tellV_true h
  unfold ledOne0 at h
  split at h
  · rename_i g args ht
    dsimp only at h
    split at h
    · rename_i v m1 ho
      simp only [Option.some.injEq, Prod.mk.injEq, Bool.and_eq_true] at h
      obtain ⟨rfl, rfl, h1, h2, h3⟩ := h
      exact .inl ⟨g, args, v, m1, ht, hO _ _ _ _ _ ho, Nat.le_of_ble_eq_true h1, allLt_mem h2, rfl, Nat.le_of_ble_eq_true h3, rfl⟩
    · cases h
  · rename_i ht
    split at h
    · rename_i v us ok hop
      simp only [Option.some.injEq, Prod.mk.injEq, Bool.and_eq_true] at h
      obtain ⟨rfl, rfl, rfl, h1, h2, h3⟩ := h
      exact .inr ⟨ht, h1, hop, rfl, allLt_mem h2, rfl, Nat.le_of_ble_eq_true h3, rfl⟩
    · cases h

theorem ledGo_run {f rid : Nat} {O : FuncId → List AV → Mem → Option (AV × Mem)} (hO : ∀ g args m v m1, O g args m = some (v, m1) → Does P E g args m v m1) {ops : Array Oper} : ∀ {l : List Oper} {nx nx' : Nat} {st st' : St} {ds : List Did},
    ledGo P E f rid O ops l nx st = some (st', nx', ds, true) → LRun P E (fun o => E.wr f (o.dst.getD 0)) ops l st nx ds st' nx'
  | [], nx, nx', st, st', ds, h => by
    simp only [ledGo, Option.some.injEq, Prod.mk.injEq, and_true] at h
    obtain ⟨rfl, rfl, rfl⟩ := h
    exact .nil st nx
  | o :: r, nx, nx', st, st', ds, h => by
    have skip : (match ledGo P E f rid O ops r nx (put st o.dst (.tup [])) with
      | some (st', nx', ds, ok) => some (st', nx', (⟨.tup [], [], [], fun _ _ => false⟩ : Did) :: ds, fits st o.dst && ok)
      | none => none) = some (st', nx', ds, true) → (wants ops st.tm o = .no ∨ ∃ s b want, wants ops st.tm o = .ask s b want ∧ (b == want) = false) → LRun P E (fun o => E.wr f (o.dst.getD 0)) ops (o :: r) st nx ds st' nx' := by
      intro h hw
      split at h
      · rename_i st1 nx1 ds1 ok hq
        simp only [Option.some.injEq, Prod.mk.injEq, Bool.and_eq_true] at h
        obtain ⟨rfl, rfl, rfl, h1, rfl⟩ := h
        exact .cons o r st nx _ nx _ _ _ h1 (.inr ⟨hw, rfl, rfl⟩) (ledGo_run hO hq)
      · cases h
    have doIt : (match ledOne P E f rid O nx o st with
      | some (d, nx1, ok) => match ledGo P E f rid O ops r nx1 (put { st with mem := apply st.mem d.us } o.dst d.v) with
        | some (st', nx', ds, ok') => some (st', nx', d :: ds, ok && (fits st o.dst && ok'))
        | none => none
      | none => none) = some (st', nx', ds, true) → (wants ops st.tm o = .yes ∨ ∃ s b want, wants ops st.tm o = .ask s b want ∧ (b == want) = true) → LRun P E (fun o => E.wr f (o.dst.getD 0)) ops (o :: r) st nx ds st' nx' := by
      intro h hw
      split at h
      · rename_i d nx1 ok hop
        split at h
        · rename_i st1 nx2 ds1 ok' hq
          simp only [Option.some.injEq, Prod.mk.injEq, Bool.and_eq_true] at h
          obtain ⟨rfl, rfl, rfl, rfl, h1, rfl⟩ := h
          exact .cons o r st nx d nx1 _ _ _ h1 (.inl ⟨hw, ledOne_do hO hop⟩) (ledGo_run hO hq)
        · cases h
      · cases h
    unfold ledGo at h
    dsimp only at h
    cases hw : wants ops st.tm o with
    | yes => rw [hw] at h; exact doIt h (.inl hw)
    | no => rw [hw] at h; exact skip h (.inl hw)
    | lost => rw [hw] at h; cases h
    | ask s b want =>
      rw [hw] at h
      dsimp only at h
      cases hb : b == want with
      | true => rw [hb] at h; exact doIt h (.inr ⟨s, b, want, hw, hb⟩)
      | false => rw [hb] at h; exact skip h (.inr ⟨s, b, want, hw, hb⟩)

theorem didCall_w {N nx : Nat} {ord : List Nat} {v : AV} {m1 : Mem} {b : Nat} (h : b ∈ (didCall N nx ord v m1).w) : b ∈ (didCall N nx ord v m1).fp := by
  simp only [didCall, Did.w, List.mem_map] at h ⊢
  obtain ⟨q, hq, rfl⟩ := h
  exact (List.of_mem_zip hq).1

theorem LDo.facts {wr : Oper → Bool} {st : St} {nx nx1 : Nat} {o : Oper} {d : Did} (h : LDo P E wr st nx o d nx1) : nx ≤ nx1 ∧ nx1 ≤ st.mem.length ∧ (∀ b ∈ d.w, b < nx1) ∧ ∀ b ∈ d.w, b ∈ d.fp := by
  rcases h with ⟨g, args, v, m1, _, _, h1, h2, rfl, h3, rfl⟩ | ⟨_, _, _, h1, h2, rfl, h3, _⟩
  · refine ⟨by omega, h3, fun b hb => ?_, fun b hb => didCall_w hb⟩
    have := didCall_w hb
    simp only [didCall, List.mem_append, List.mem_range'_1] at this
    rcases this with q | q
    · have := h2 b q; omega
    · omega
  · refine ⟨by cases makes o <;> simp, h3, h2, fun b hb => ?_⟩
    rw [h1]
    exact List.mem_append_left _ hb

theorem LKind.facts {wr : Oper → Bool} {ops : Array Oper} {st : St} {nx nx1 : Nat} {o : Oper} {d : Did} (h : LKind P E wr ops st nx o d nx1) (hn : nx ≤ st.mem.length) : nx ≤ nx1 ∧ nx1 ≤ st.mem.length ∧ (∀ b ∈ d.w, b < nx1) ∧ ∀ b ∈ d.w, b ∈ d.fp := by
  rcases h with ⟨_, h⟩ | ⟨_, rfl, rfl⟩
  · exact h.facts
  · exact ⟨Nat.le_refl _, hn, by simp, by simp⟩

theorem SlotsAt.remem {l : List Oper} {vs : List AV} {S S' T T' : St} {i : Nat} (h : SlotsAt l vs S i T) (h1 : S'.tm = S.tm) (h2 : S'.nt = S.nt) (h3 : S'.fix = S.fix) (h4 : T'.tm = T.tm) (h5 : T'.nt = T.nt) (h6 : T'.fix = T.fix) (h7 : T'.mem = S'.mem) : SlotsAt l vs S' i T' := by
  obtain ⟨_, q2, q3, q4, q5⟩ := h
  refine ⟨h7, by rw [h5, h2]; exact q2, by rw [h6, h3]; exact q3, ?_, ?_⟩
  · intro j p v t a b c d; rw [h4]; exact q4 j p v t a b c d
  · intro t ht; rw [h4, h1]; exact q5 t ht

theorem put_withmem (st : St) (m : Mem) (dst : Option Tmp) (v : AV) : put { st with mem := m } dst v = { put st dst v with mem := m } := by cases dst <;> rfl

theorem LRun.spec {wr : Oper → Bool} {ops : Array Oper} {l : List Oper} {st st' : St} {nx nx' : Nat} {ds : List Did} (h : LRun P E wr ops l st nx ds st' nx') (hu : Uniq l) (hn : nx ≤ st.mem.length) (hfr : FreeFrom nx st.mem) :
    ds.length = l.length ∧ SlotsAt l (ds.map (·.v)) st l.length { st' with mem := st.mem } ∧ st'.mem = memAt st.mem ds ∧ st'.mks = st.mks ∧
      ∀ (i : Nat) (o : Oper), l[i]? = some o → ∃ d sti nxi nxi1, ds[i]? = some d ∧ LKind P E wr ops sti nxi o d nxi1 ∧ fits sti o.dst = true ∧ SlotsAt l (ds.map (·.v)) st i { sti with mem := st.mem } ∧ sti.mem = memAt st.mem (ds.take i) ∧ FreeFrom nxi sti.mem ∧ nxi ≤ sti.mem.length := by
  induction h with
  | nil st nx => exact ⟨rfl, ⟨rfl, rfl, rfl, fun j _ _ _ hj => absurd hj (Nat.not_lt_zero _), fun _ _ => rfl⟩, rfl, rfl, fun i o ho => by simp at ho⟩
  | cons o r st nx d nx1 ds st' nx' hf hk hr ih =>
    have hu' : Uniq r := fun i j p q t hij hp hq => hu (i + 1) (j + 1) p q t (by omega) (by simpa using hp) (by simpa using hq)
    obtain ⟨f1, f2, f3, f4⟩ := hk.facts hn
    have hm : (put { st with mem := apply st.mem d.us } o.dst d.v).mem = apply st.mem d.us := by rw [put_withmem]
    have hfr1 : FreeFrom nx1 (apply st.mem d.us) := by
      intro i hi hl
      rw [apply_length] at hl
      rw [apply_out _ _ _ fun q => by have := f3 i q; omega]
      exact hfr i (by omega) hl
    obtain ⟨h1, h2, h3, h5, h4⟩ := ih hu' (by rw [hm, apply_length]; exact f2) (by rw [hm]; exact hfr1)
    have shift : ∀ {i : Nat} {T : St}, SlotsAt r (ds.map (·.v)) (put { st with mem := apply st.mem d.us } o.dst d.v) i { T with mem := (put { st with mem := apply st.mem d.us } o.dst d.v).mem } →
        SlotsAt (o :: r) ((d :: ds).map (·.v)) st (i + 1) { T with mem := st.mem } := by
      intro i T hs
      refine SlotsAt.cons (vs := ds.map (·.v)) (v := d.v) hu (hs.remem (S' := put st o.dst d.v) (T' := { T with mem := st.mem }) ?_ ?_ ?_ rfl rfl rfl ?_)
      · cases o.dst <;> rfl
      · cases o.dst <;> rfl
      · cases o.dst <;> rfl
      · exact (put_mem st o.dst d.v).1.symm
    refine ⟨by simp [h1], shift h2, by rw [h3, hm]; rfl, h5.trans (by cases o.dst <;> rfl), ?_⟩
    intro i p hp
    cases i with
    | zero =>
      simp only [List.getElem?_cons_zero, Option.some.injEq] at hp
      subst hp
      exact ⟨d, st, nx, nx1, rfl, hk, hf, ⟨rfl, rfl, rfl, fun j _ _ _ hj => absurd hj (Nat.not_lt_zero _), fun _ _ => rfl⟩, rfl, hfr, hn⟩
    | succ i =>
      obtain ⟨e, sti, nxi, nxi1, q1, q2, q3, q4, q5, q6, q7⟩ := h4 i p (by simpa using hp)
      refine ⟨e, sti, nxi, nxi1, by simpa using q1, q2, q3, shift q4, ?_, q6, q7⟩
      rw [q5, hm]; rfl

def LdOk (d e : Did) : Prop := e.us = [] ∧ ∀ b ∈ d.w, b ∈ e.fp → ∃ x, lastU d.us b = some x ∧ e.ld b x = true

theorem has_of_mem : ∀ {l : List Nat} {i : Nat}, i ∈ l → has l i = true
  | j :: r, i, h => by
    simp only [has]
    cases hb : Nat.beq j i with
    | true => rfl
    | false =>
      rcases List.mem_cons.1 h with e | h
      · subst e; rw [Nat.beq_refl] at hb; cases hb
      · exact has_of_mem h

theorem ledLoad_ok {d e : Did} (h : ledLoad d e = true) : LdOk d e := by
  simp only [ledLoad, Bool.and_eq_true, List.all_eq_true] at h
  refine ⟨?_, fun b hb hf => ?_⟩
  · have h1 := h.1
    cases hu : e.us with
    | nil => rfl
    | cons _ _ => rw [hu] at h1; cases h1
  · have := h.2 b hb
    rw [has_of_mem hf, Bool.not_true, Bool.false_or] at this
    split at this
    · rename_i x hx
      exact ⟨x, hx, this⟩
    · cases this

theorem lastU_none : ∀ {us : Upd} {b : Nat}, lastU us b = none → b ∉ us.map (·.1)
  | [], _, _ => by simp
  | (i, x) :: r, b, h => by
    simp only [lastU] at h
    split at h
    · cases h
    · rename_i hr
      cases hb : Nat.beq i b with
      | true => rw [hb] at h; cases h
      | false =>
        simp only [List.map_cons, List.mem_cons, not_or]
        exact ⟨fun e => (by subst e; rw [Nat.beq_refl] at hb; cases hb), lastU_none hr⟩

theorem apply_last : ∀ {us : Upd} {m : Mem} {b : Nat} {x : Blk}, lastU us b = some x → b < m.length → (apply m us)[b]? = some x
  | (i, y) :: r, m, b, x, h, hb => by
    simp only [lastU] at h
    simp only [apply]
    split at h
    · rename_i z hz
      simp only [Option.some.injEq] at h
      subst h
      exact apply_last hz (by simpa using hb)
    · rename_i hr
      cases hib : Nat.beq i b with
      | false => rw [hib] at h; cases h
      | true =>
        rw [hib] at h
        simp only [cond_true, Option.some.injEq] at h
        subst h
        have := Nat.eq_of_beq_eq_true hib
        subst this
        rw [apply_out r _ _ (lastU_none hr), List.getElem?_set_self hb]

structure LOk (L : List Nat) (ds : List Did) : Prop where
  pair : ∀ (i j : Nat) (d e : Did), j < i → ds[i]? = some d → ds[j]? = some e → Nat.testBit (L.getD i 0) j = true ∨ ((∀ b ∈ e.w, b ∉ d.fp) ∧ ((∀ b ∈ d.w, b ∉ e.fp) ∨ LdOk d e))

theorem meet_none {a b : List Nat} (h : meet a b = false) : ∀ i ∈ a, i ∉ b := fun _ ha hb => meet_false h ha hb

theorem ledsOk_spec {L : List Nat} : ∀ {r bef : List Did}, ledsOk L bef.length bef r = true → ∀ (i j : Nat) (d e : Did), bef.length ≤ i → j < i → (bef ++ r)[i]? = some d → (bef ++ r)[j]? = some e →
    Nat.testBit (L.getD i 0) j = true ∨ ((∀ b ∈ e.w, b ∉ d.fp) ∧ ((∀ b ∈ d.w, b ∉ e.fp) ∨ LdOk d e))
  | [], bef, _, i, j, d, e, hi, _, hd, _ => by
    simp only [List.append_nil] at hd
    rw [List.getElem?_eq_none hi] at hd; cases hd
  | d0 :: r, bef, h, i, j, d, e, hi, hj, hd, he => by
    simp only [ledsOk, Bool.and_eq_true] at h
    by_cases hc : i = bef.length
    · subst hc
      have : d = d0 := by simpa using hd.symm
      subst this
      have key : ∀ (l : List Did) (k : Nat), ledPairs L bef.length d k l = true → ∀ m x, l[m]? = some x → ledPair L bef.length d (k + m) x = true := by
        intro l
        induction l with
        | nil => intro k _ m x hx; simp at hx
        | cons y l ih =>
          intro k hk m x hx
          simp only [ledPairs, Bool.and_eq_true] at hk
          cases m with
          | zero => simp only [List.getElem?_cons_zero, Option.some.injEq] at hx; subst hx; exact hk.1
          | succ m =>
            simp only [List.getElem?_cons_succ] at hx
            have := ih (k + 1) hk.2 m x hx
            rwa [Nat.add_assoc, Nat.add_comm 1 m] at this
      have he' : bef[j]? = some e := by rwa [List.getElem?_append_left hj] at he
      have := key bef 0 h.1 j e he'
      simp only [ledPair, Nat.zero_add, Bool.or_eq_true, Bool.and_eq_true, Bool.not_eq_true'] at this
      rcases this with q | ⟨q1, q2 | q2⟩
      · exact .inl q
      · exact .inr ⟨meet_none q1, .inl (meet_none q2)⟩
      · exact .inr ⟨meet_none q1, .inr (ledLoad_ok q2)⟩
    · have h' : ledsOk L (bef ++ [d0]).length (bef ++ [d0]) r = true := by simpa using h.2
      exact ledsOk_spec h' i j d e (by simp; omega) hj (by simpa using hd) (by simpa using he)

theorem reach_congr {m m' : Mem} : ∀ (f : Nat) (ord : List Nat) (k : Nat), ord.Nodup → (∀ i ∈ reach m f ord k, m.getD i .dead = m'.getD i .dead) → reach m' f ord k = reach m f ord k
  | 0, _, _, _, _ => rfl
  | f + 1, ord, k, hnd, h => by
    simp only [reach] at h ⊢
    cases hk : ord[k]? with
    | none => rfl
    | some i =>
      simp only [hk] at h
      dsimp only
      have hnd' := (addAll_spec (bRefs (m.getD i .dead)) ord hnd).1
      obtain ⟨t1, h1⟩ := (addAll_spec (bRefs (m.getD i .dead)) ord hnd).2
      obtain ⟨t2, h2⟩ := (reach_spec m f _ (k + 1) hnd').2
      have hi : m.getD i .dead = m'.getD i .dead := h i (by rw [h2, h1]; exact List.mem_append_left _ (List.mem_append_left _ (List.mem_of_getElem? hk)))
      rw [← hi]
      exact reach_congr f _ (k + 1) hnd' h

theorem close_congr {m m' : Mem} {args : List AV} (hl : m.length = m'.length) (h : ∀ i ∈ close m 0 args, m.getD i .dead = m'.getD i .dead) : close m' 0 args = close m 0 args := by
  unfold close at h ⊢
  rw [← hl]
  exact reach_congr _ _ _ (addAll_spec _ _ (upTo_nodup 0)).1 h

theorem pack_congr {m m' : Mem} {ord : List Nat} (h : ∀ i ∈ ord, m.getD i .dead = m'.getD i .dead) : pack m' ord = pack m ord := by
  unfold pack
  exact List.map_congr_left fun i hi => by rw [h i hi]

theorem backMem_apply (ρ : Nat → Option Nat) : ∀ (ord : List Nat) (m1 m : Mem), ord.length = m1.length → backMem ρ ord m1 m = apply m (ord.zip (m1.map (renB ρ)))
  | [], [], m, _ => by simp [backMem, apply]
  | i :: ord, b :: m1, m, h => by
    simp only [backMem, List.map_cons, List.zip_cons_cons, apply]
    exact backMem_apply ρ ord m1 _ (by simpa using h)
  | [], _ :: _, _, h => by simp at h
  | _ :: _, [], _, h => by simp at h

theorem Rel.backAt {g g1 : Gh} {m m1 : Mem} {w w' : World} (h : Rel g m w) {ord R : List Nat} (hnd : (ord ++ R).Nodup) (hlt : ∀ i ∈ ord ++ R, i < m.length) (hR : ∀ i ∈ R, m[i]? = some .free)
    (h1 : Rel g1 m1 w') (hs : Stp (g.pack ord) (Am.pack m ord) w g1 m1 w') (hf : Fixed (g.pack ord) g1 ord.length) (hl : (ord ++ R).length = m1.length) :
    ∃ g', Rel g' (apply m ((ord ++ R).zip (m1.map (renB (backIdx (ord ++ R) m.length))))) w' ∧ Ext g w g' w' ∧ Stp g m w g' (apply m ((ord ++ R).zip (m1.map (renB (backIdx (ord ++ R) m.length))))) w' ∧ Renames (backIdx (ord ++ R) m.length) g1 g' := by
  have own : ∀ c, Owned (g.pack ord) (Am.pack m ord) c → Owned (g.pack (ord ++ R)) (Am.pack m (ord ++ R)) c := by
    rintro c ⟨k, b, hk, ho, hc⟩
    obtain ⟨i, hi, rfl⟩ := pack_get hk
    have hi' : (ord ++ R)[k]? = some i := by rw [List.getElem?_append_left (lt_of_get hi)]; exact hi
    refine ⟨k, renB (idx (ord ++ R)) (m.getD i .dead), ?_, by rw [renB_owns] at ho ⊢; exact ho, ?_⟩
    · simp only [Am.pack, List.getElem?_map, hi', Option.map_some]
    · simpa [Gh.pack, hi, hi'] using hc
  have hs' : Stp (g.pack (ord ++ R)) (Am.pack m (ord ++ R)) w g1 m1 w' :=
    ⟨hs.size, fun c hc hn => hs.keep c hc fun q => hn (own c q), hs.pure, fun c o p => (hs.fresh c o p).imp id fun q => q.imp (own c) id, fun c ho => (hs.owned c ho).imp (own c) id, hs.os, hs.tape, hs.output⟩
  have hf' : Fixed (g.pack (ord ++ R)) g1 (ord ++ R).length := by
    intro k c hk hc
    rcases Nat.lt_or_ge k ord.length with q | q
    · have e : (ord ++ R)[k]? = ord[k]? := List.getElem?_append_left q
      have := hf k c q (by simpa [Gh.pack, e] using hc)
      simpa [Gh.pack, e] using this
    · have e : (ord ++ R)[k]? = R[k - ord.length]? := List.getElem?_append_right q
      simp only [Gh.pack, e] at hc
      cases hr : R[k - ord.length]? with
      | none => rw [hr] at hc; cases hc
      | some i =>
        rw [hr] at hc
        simp only [Option.bind_some] at hc
        rw [h.free i (hR i (List.mem_of_getElem? hr))] at hc; cases hc
  obtain ⟨r1, r2, r3, r4⟩ := h.back hnd hlt h1 hs' hf' (by omega)
  rw [backMem_apply _ _ _ _ hl] at r1 r3
  exact ⟨_, r1, r2, r3, r4⟩

theorem get_getD {m m' : Mem} {i : Nat} (h : m[i]? = m'[i]?) : m.getD i .dead = m'.getD i .dead := by
  rw [List.getD_eq_getElem?_getD, List.getD_eq_getElem?_getD, h]

end
end Go.Am
end

section
namespace Go.Am
open Go.RowKit

section
variable {P : Program} {E : Env}

theorem memAt_length : ∀ (ds : List Did) (m : Mem), (memAt m ds).length = m.length
  | [], _ => rfl
  | d :: ds, m => by rw [memAt, memAt_length ds, apply_length]

structure LSpec (P : Program) (E : Env) (wr : Oper → Bool) (ops : Array Oper) (m : Nat) (st0 : St) (ds : List Did) (st' : St) : Prop where
  len : ds.length = ops.toList.length
  ends : SlotsAt ops.toList (ds.map (·.v)) st0 m { st' with mem := st0.mem }
  mem : st'.mem = memAt st0.mem (ds.take m)
  each : ∀ (i : Nat) (o : Oper), ops.toList[i]? = some o → i < m → ∃ d sti nxi nxi1, ds[i]? = some d ∧ LKind P E wr ops sti nxi o d nxi1 ∧ fits sti o.dst = true ∧ SlotsAt ops.toList (ds.map (·.v)) st0 i { sti with mem := st0.mem } ∧ sti.mem = memAt st0.mem (ds.take i) ∧ FreeFrom nxi sti.mem ∧ nxi ≤ sti.mem.length
  dum : ∀ (i : Nat) (e : Did), m ≤ i → ds[i]? = some e → e.us = []

theorem QInv.ends' {ops : Array Oper} {L : List Nat} {vs : List AV} {st0 stA : St} {S : Array Bool} (hI : QInv ops L vs st0 stA S) (hl : vs.length = ops.toList.length) {st' : St} {m : Nat} (hst : SlotsAt ops.toList vs st0 m st') (hall : ∀ i, i < m → S.getD i false = true) (hnot : ∀ i, m ≤ i → S.getD i false = false) :
    stA.mem = st'.mem ∧ stA.nt = st'.nt ∧ stA.fix = st'.fix ∧ ∀ t, look stA.tm t = look st'.tm t := by
  obtain ⟨h1, h2, h3, hA, hB⟩ := hst
  have lt : ∀ j, S.getD j false = true → j < m := fun j hj => by
    rcases Nat.lt_or_ge j m with q | q
    · exact q
    · rw [hnot j q] at hj; cases hj
  refine ⟨hI.mem.trans h1.symm, hI.nt.trans h2.symm, hI.fix.trans h3.symm, fun t => ?_⟩
  by_cases hw : ∃ (j : Nat) (p : Oper), j < m ∧ ops.toList[j]? = some p ∧ p.dst = some t
  · obtain ⟨j, p, hj, hp, hd⟩ := hw
    have hjl := (List.getElem?_eq_some_iff.1 hp).1
    have hjv : vs[j]? = some vs[j] := List.getElem?_eq_getElem (by rw [hl]; exact hjl)
    rw [hI.a j p _ t (hall j hj) hp hjv hd, hA j p _ t hj hp hjv hd]
  · rw [hI.b t fun k q hk hq hd => hw ⟨k, q, lt k hk, hq, hd⟩, hB t fun k q hk hq hd => hw ⟨k, q, hk, hq, hd⟩]

theorem go_done {ops : Array Oper} {S : Array Bool} (h : ∀ i, i < ops.size → S.getD i false = true) (hs : S.size = ops.size) (fuel t : Nat) : Region.linearise.go .any ops fuel t S [] = [] := by
  cases fuel with
  | zero => rfl
  | succ fuel =>
    have hr : Region.ready .any ops S = [] := by
      cases hr : Region.ready .any ops S with
      | nil => rfl
      | cons x xs =>
        have hx : x ∈ Region.ready .any ops S := by rw [hr]; exact .head _
        obtain ⟨h1, o, ho, _⟩ := mem_ready.1 hx
        have hlt := (Array.getElem?_eq_some_iff.1 ho).1
        have := h x hlt
        rw [getD_getD (by omega) false true, h1] at this
        cases this
    simp only [Region.linearise.go]
    show (match (Region.ready .any ops S)[t % (Region.ready .any ops S).length]? with
      | some i => Region.linearise.go .any ops fuel (t / (Region.ready .any ops S).length) (S.setIfInBounds i true) [i]
      | none => [].reverse) = []
    rw [hr]
    rfl

theorem led_any {b : Frame} {k : List Item} (cs : List Frame) {ops : Array Oper} {L : List Nat} {ds : List Did} {st0 st' : St} {m : Nat} {wr : Oper → Bool} (hO : QOrd ops L) (hL : LOk L ds) (hrun : LSpec P E wr ops m st0 ds st')
    (hm : m = ops.size ∨ (m + 1 = ops.size ∧ ∀ j, j < m → Nat.testBit (L.getD m 0) j = true)) : ∀ (fuel t : Nat) (S : Array Bool) (stA : St) (a : Act) (g : Gh) (w : World) (u : List Nat),
      QInv ops L (ds.map (·.v)) st0 { stA with mem := st0.mem } S → MemOf ds st0.mem (fun j => S.getD j false = true) stA.mem → SRel E g stA a w → u.length = fuel → (∀ i, i < ops.size → S.getD i false = false → i ∈ u) → (∀ i, m ≤ i → S.getD i false = false) →
      ∃ g' a' w', Steps P (lone (b.atR a (.inRegion ops (Region.linearise.go .any ops fuel t S []) :: k)) cs w) (lone (b.atR a' (.inRegion ops (List.range' m (ops.size - m)) :: k)) cs w') ∧ a'.defers = a.defers ∧ SRel E g' st' a' w' ∧
        Stp g stA.mem w g' st'.mem w' ∧ Fixed g g' st0.fix ∧ ∀ i c, g.blk i = some c → g'.blk i = some c := by
  obtain ⟨hdl, hend, hmem, hspec, hdum⟩ := hrun
  have hl : (ds.map (·.v)).length = ops.toList.length := by simpa using hdl
  have hdl' : ds.length = ops.size := by simpa using hdl
  have hmle : m ≤ ops.size := by omega
  have fin : ∀ (S : Array Bool) (stA : St) (a : Act) (g : Gh) (w : World), QInv ops L (ds.map (·.v)) st0 { stA with mem := st0.mem } S → MemOf ds st0.mem (fun j => S.getD j false = true) stA.mem → SRel E g stA a w →
      (∀ i, i < m → S.getD i false = true) → (∀ i, m ≤ i → S.getD i false = false) → SRel E g st' a w ∧ stA.mem = st'.mem := by
    intro S stA a g w hI hM hs hall hnot
    obtain ⟨_, e2, e3, e4⟩ := hI.ends' hl hend hall hnot
    have hm : stA.mem = st'.mem := by
      apply List.ext_getElem?
      intro i
      rw [hmem]
      have h2 := memAt_of ds st0.mem m (by omega)
      refine hM.agree h2 fun j d hd _ => ?_
      refine ⟨fun hS => ?_, fun hj => hall j hj⟩
      rcases Nat.lt_or_ge j m with q | q
      · exact q
      · rw [hnot j q] at hS; cases hS
    exact ⟨hs.same hm e2 e3 e4, hm⟩
  have full : ∀ (S : Array Bool), (∀ i, i < ops.size → S.getD i false = true) → (∀ i, m ≤ i → S.getD i false = false) → m = ops.size := by
    intro S h1 h2
    rcases hm with q | ⟨q, _⟩
    · exact q
    · have := h1 m (by omega); rw [h2 m (Nat.le_refl _)] at this; cases this
  intro fuel
  induction fuel with
  | zero =>
    intro t S stA a g w u hI hM hs hul hu hnot
    have hall : ∀ i, i < ops.size → S.getD i false = true := by
      intro i hi
      cases hq : S.getD i false with
      | true => rfl
      | false =>
        have := hu i hi hq
        rw [List.eq_nil_of_length_eq_zero hul] at this; cases this
    have hms := full S hall hnot
    obtain ⟨h1, h2⟩ := fin S stA a g w hI hM hs (fun i hi => hall i (by omega)) hnot
    refine ⟨g, a, w, ?_, rfl, h1, by rw [h2]; exact Stp.refl _ _ _, Fixed.refl _ _, fun _ _ h => h⟩
    rw [hms, Nat.sub_self, List.range'_zero]
    exact Steps.refl _ _
  | succ fuel ih =>
    intro t S stA a g w u hI hM hs hul hu hnot
    simp only [Region.linearise.go]
    show ∃ g' a' w', Steps P (lone (b.atR a (.inRegion ops (match (Region.ready .any ops S)[t % (Region.ready .any ops S).length]? with
      | some i => Region.linearise.go .any ops fuel (t / (Region.ready .any ops S).length) (S.setIfInBounds i true) [i]
      | none => [].reverse) :: k)) cs w) (lone (b.atR a' (.inRegion ops (List.range' m (ops.size - m)) :: k)) cs w') ∧ _
    cases hi : (Region.ready .any ops S)[t % (Region.ready .any ops S).length]? with
    | none =>
      have hnil : Region.ready .any ops S = [] := by
        cases hr : Region.ready .any ops S with
        | nil => rfl
        | cons x xs =>
          rw [hr] at hi
          have hlt : t % (x :: xs).length < (x :: xs).length := Nat.mod_lt _ (by simp)
          rw [List.getElem?_eq_getElem hlt] at hi; cases hi
      have hall := hI.all hO hnil
      have hms := full S hall hnot
      obtain ⟨h1, h2⟩ := fin S stA a g w hI hM hs (fun i hi => hall i (by omega)) hnot
      refine ⟨g, a, w, ?_, rfl, h1, by rw [h2]; exact Stp.refl _ _ _, Fixed.refl _ _, fun _ _ h => h⟩
      rw [hms, Nat.sub_self, List.range'_zero]
      exact Steps.refl _ _
    | some i =>
      have hir := List.mem_of_getElem? hi
      obtain ⟨hSi, o, ho, _⟩ := mem_ready.1 hir
      have ho' : ops.toList[i]? = some o := by simpa using ho
      have hilt : i < ops.size := (Array.getElem?_eq_some_iff.1 ho).1
      by_cases him : i < m
      case neg =>
        -- the last one: all others are done
        have hme : i = m ∧ m + 1 = ops.size ∧ ∀ j, j < m → Nat.testBit (L.getD m 0) j = true := by
          rcases hm with q | ⟨q1, q2⟩
          · omega
          · exact ⟨by omega, q1, q2⟩
        obtain ⟨rfl, hsz, hbits⟩ := hme
        have hall : ∀ j, j < i → S.getD j false = true := fun j hj => hI.ahead hO hir (hbits j hj)
        obtain ⟨h1, h2⟩ := fin S stA a g w hI hM hs hall hnot
        dsimp only
        rw [linearise_go_acc, List.reverse_singleton, List.singleton_append, go_done (fun j hj => by
          by_cases e : i = j
          · subst e; simp [Array.getD_eq_getD_getElem?, hI.size, hj]
          · rw [getD_set_ne false e]; exact hall j (by omega)) (by simp [hI.size])]
        refine ⟨g, a, w, ?_, rfl, h1, by rw [h2]; exact Stp.refl _ _ _, Fixed.refl _ _, fun _ _ h => h⟩
        rw [show ops.size - i = 1 by omega, List.range'_one]
        exact Steps.refl _ _
      obtain ⟨d, sti, nxi, nxi1, hd, hk, hf, hsti, hmi, hfri, hnxi⟩ := hspec i o ho' him
      have hv : (ds.map (·.v))[i]? = some d.v := by rw [List.getElem?_map, hd]; rfl
      have hslots : ∀ t ∈ slots ops o, look stA.tm t = look sti.tm t := fun t ht => hI.slots hO ho' hir hl hsti ht
      have hid : i < ds.length := (List.getElem?_eq_some_iff.1 hd).1
      have hni : S.getD i false = false := by rw [getD_getD (by rw [hI.size]; exact hilt) false true]; exact hSi
      have hmemu : i ∈ u := hu i hilt hni
      have hu' : ∀ j, j < ops.size → (S.setIfInBounds i true).getD j false = false → j ∈ u.erase i := by
        intro j hj hq
        have hne : j ≠ i := by
          intro e
          subst e
          rw [show (S.setIfInBounds j true).getD j false = true by simp [Array.getD_eq_getD_getElem?, hI.size, hj]] at hq
          cases hq
        rw [getD_set_ne false (fun e => hne e.symm)] at hq
        exact (List.mem_erase_of_ne hne).2 (hu j hj hq)
      have hnot' : ∀ j, m ≤ j → (S.setIfInBounds i true).getD j false = false := by
        intro j hj
        rw [getD_set_ne false (by omega)]
        exact hnot j hj
      have hul' : (u.erase i).length = fuel := by rw [List.length_erase_of_mem hmemu, hul]; rfl
      have hset : ∀ j, (S.setIfInBounds i true).getD j false = true ↔ S.getD j false = true ∨ j = i := by
        intro j
        by_cases h : i = j
        · subst h
          simp [Array.getD_eq_getD_getElem?, hI.size, hilt]
        · rw [getD_set_ne false h]
          exact ⟨.inl, fun q => q.resolve_right fun e => h e.symm⟩
      -- who else writes what this one looks at
      have hwf : ∀ b ∈ d.w, b ∈ d.fp := (hk.facts hnxi).2.2.2
      have wfp : ∀ (j : Nat) (e : Did), ds[j]? = some e → ∀ b ∈ e.w, b ∈ e.fp := by
        intro j e he
        have hj := (List.getElem?_eq_some_iff.1 he).1
        have hoj : ops.toList[j]? = some ops.toList[j] := List.getElem?_eq_getElem (by omega)
        by_cases hjm : j < m
        case neg =>
          intro b hb
          rw [Did.w, hdum j e (by omega) he] at hb
          cases hb
        obtain ⟨e', stj, nxj, nxj1, q1, q2, _, _, _, _, q3⟩ := hspec j _ hoj hjm
        rw [he] at q1; cases q1
        exact (q2.facts q3).2.2.2
      have hti := memAt_of ds st0.mem i (by omega)
      rw [← hmi] at hti
      have wlt : ∀ (j : Nat) (e : Did), ds[j]? = some e → ∀ b ∈ e.w, b < st0.mem.length := by
        intro j e he b hb
        have hj := (List.getElem?_eq_some_iff.1 he).1
        have hoj : ops.toList[j]? = some ops.toList[j] := List.getElem?_eq_getElem (by omega)
        by_cases hjm : j < m
        case neg =>
          rw [Did.w, hdum j e (by omega) he] at hb
          cases hb
        obtain ⟨e', stj, nxj, nxj1, q1, q2, _, _, q4, _, q3⟩ := hspec j _ hoj hjm
        rw [he] at q1; cases q1
        have h1 := (q2.facts q3).2.2.1 b hb
        have h2 := (q2.facts q3).2.1
        have h3 := memAt_length (ds.take j) st0.mem
        rw [q4, h3] at h2
        omega
      have hag : ∀ b ∈ d.fp, stA.mem[b]? = sti.mem[b]? ∨ (d.us = [] ∧ ∃ x, stA.mem[b]? = some x ∧ d.ld b x = true) := by
        intro b hb
        by_cases hw : ∃ j e, S.getD j false = true ∧ i < j ∧ ds[j]? = some e ∧ b ∈ e.w
        · obtain ⟨j0, e0, q1, q2, q3, q4⟩ := hw
          obtain ⟨j, ⟨hj, e, he, hbe⟩, hl⟩ := last_of (p := fun j => S.getD j false = true ∧ ∃ d, ds[j]? = some d ∧ b ∈ d.w) (n := ds.length) (fun k ⟨_, d, hd, _⟩ => (List.getElem?_eq_some_iff.1 hd).1) _ j0 rfl ⟨q1, e0, q3, q4⟩
          have hij : i < j := by
            rcases Nat.lt_or_ge i j with q | q
            · exact q
            · exact absurd (show j < j0 by omega) (hl j0 ⟨q1, e0, q3, q4⟩)
          have hlast := hM.last j e b hj he hbe fun k x hk hjk hx hbx => hl k ⟨hk, x, hx, hbx⟩ hjk
          rcases hL.pair j i e d hij he hd with q | ⟨_, q | q⟩
          · have := hI.cl j i hj q; rw [hni] at this; cases this
          · exact absurd hb (q b hbe)
          · obtain ⟨x, hx, hld⟩ := q.2 b hbe hb
            rw [apply_last hx (wlt j e he b hbe)] at hlast
            exact .inr ⟨q.1, x, hlast, hld⟩
        · refine .inl (hM.agree hti fun j e he hbe => ?_)
          rcases Nat.lt_trichotomy j i with hlt | heq | hgt
          · rcases hL.pair i j d e hlt hd he with q | ⟨q, _⟩
            · exact ⟨fun _ => hlt, fun _ => hI.ahead hO hir q⟩
            · exact absurd hb (q b hbe)
          · subst heq
            exact ⟨fun q => (by rw [hni] at q; cases q), fun q => absurd q (Nat.lt_irrefl _)⟩
          · exact ⟨fun q => absurd ⟨j, e, q, hgt, he, hbe⟩ hw, fun q => by omega⟩
      have hlenA : stA.mem.length = sti.mem.length := hM.len.trans hti.len.symm
      have hM' : MemOf ds st0.mem (fun j => (S.setIfInBounds i true).getD j false = true) (apply stA.mem d.us) := by
        refine hM.step hd hset (by rw [hni]; exact fun q => by cases q) fun j e hS hij he b hb hbe => ?_
        rcases hL.pair j i e d hij he hd with q | ⟨q, _⟩
        · have := hI.cl j i hS q; rw [hni] at this; cases this
        · exact q b hb (wfp j e he b hbe)
      have hI' := hI.step hO ho' hv hir
      have hfA : fits stA o.dst = true := by
        have : fits stA o.dst = fits sti o.dst := by unfold fits; rw [show stA.nt = st0.nt from hI.nt, show sti.nt = st0.nt from hsti.2.1]
        rw [this]; exact hf
      have hfixA : stA.fix = st0.fix := hI.fix
      have hput : ∀ m : Mem, put { stA with mem := st0.mem } o.dst d.v = { put { stA with mem := m } o.dst d.v with mem := st0.mem } := by
        intro m; cases o.dst <;> rfl
      have hputm : ∀ m : Mem, (put { stA with mem := m } o.dst d.v).mem = m := by intro m; cases o.dst <;> rfl
      have hfixl : stA.fix ≤ (apply stA.mem d.us).length := by rw [apply_length]; exact hs.fix
      dsimp only
      rw [linearise_go_acc, List.reverse_singleton, List.singleton_append]
      have hwt := wants_congr hslots
      have hev := ev_congr (E := E) hslots
      obtain ⟨w1, w2, w3⟩ := wants_yes hs (ops := ops) (o := o)
      -- behind the operation
      have go : ∀ (g2 : Gh) (cv : Value) (w' : World), VA g2 w' d.v cv → Rel g2 (apply stA.mem d.us) w' → Ext g w g2 w' → Stp g stA.mem w g2 (apply stA.mem d.us) w' →
          Steps P (lone (b.atR a (.inRegion ops (i :: Region.linearise.go .any ops fuel (t / (Region.ready .any ops S).length) (S.setIfInBounds i true) []) :: k)) cs w)
            (lone (b.atR (a.put o.dst cv) (.inRegion ops (Region.linearise.go .any ops fuel (t / (Region.ready .any ops S).length) (S.setIfInBounds i true) []) :: k)) cs w') →
          ∃ g' a' w', Steps P (lone (b.atR a (.inRegion ops (i :: Region.linearise.go .any ops fuel (t / (Region.ready .any ops S).length) (S.setIfInBounds i true) []) :: k)) cs w) (lone (b.atR a' (.inRegion ops (List.range' m (ops.size - m)) :: k)) cs w') ∧ a'.defers = a.defers ∧ SRel E g' st' a' w' ∧
            Stp g stA.mem w g' st'.mem w' ∧ Fixed g g' st0.fix ∧ ∀ i c, g.blk i = some c → g'.blk i = some c := by
        intro g2 cv w' k2 k3 k4 k5 kst
        have hs' := hs.put hfA k2 k4 k3 hfixl
        obtain ⟨g3, a3, w3', r1, r2, r3, r4, r5, r6⟩ := ih (t / (Region.ready .any ops S).length) (S.setIfInBounds i true) _ _ _ _ (u.erase i) (by rw [← hput]; exact hI') (by rw [hputm]; exact hM') hs' hul' hu' hnot'
        rw [hputm] at r4
        refine ⟨g3, a3, w3', kst.trans r1, r2.trans put_defers, r3, k5.trans r4, (Fixed.ofExt k4 _).trans r5, fun j c q => r6 j c (k4.blk j c q).1⟩
      rcases hk with ⟨hw, hdo⟩ | ⟨hw, rfl, rfl⟩
      · have hwanted : Region.wanted o (yielded ops a.tmps) = true := by
          rcases hw with hw | ⟨s', b', want, hw, hb⟩
          · exact w1 (hwt.trans hw)
          · rw [(w3 s' b' want (hwt.trans hw)).1]; exact hb
        rcases hdo with ⟨gf, args, v, m1, ht, hdoes, h1, h2, h3, h4, h5⟩ | ⟨ht, hled, hop, hfp, hwlt, h3, h4, hld⟩
        · have hagree : ∀ b ∈ d.fp, stA.mem[b]? = sti.mem[b]? := fun b hb => (hag b hb).resolve_right fun ⟨_, x, _, q⟩ => by rw [h5] at q; cases q
          have htA : target (ev E stA.tm) o = some (gf, args) := (target_congr hev).trans ht
          have hfpe : d.fp = close sti.mem 0 args ++ List.range' nxi (m1.length - (close sti.mem 0 args).length) := by rw [h5]; rfl
          have hclose : close stA.mem 0 args = close sti.mem 0 args := close_congr hlenA.symm fun j hj => (get_getD (hagree j (by rw [hfpe]; exact List.mem_append_left _ hj))).symm
          have hpack : pack stA.mem (close sti.mem 0 args) = pack sti.mem (close sti.mem 0 args) := pack_congr fun j hj => (get_getD (hagree j (by rw [hfpe]; exact List.mem_append_left _ hj))).symm
          obtain ⟨hnd, _⟩ := close_spec sti.mem 0 args
          generalize close sti.mem 0 args = ord at *
          rw [← hpack] at hdoes
          have hR : ∀ j ∈ List.range' nxi (m1.length - ord.length), stA.mem[j]? = some .free := by
            intro j hj
            rw [hagree j (by rw [hfpe]; exact List.mem_append_right _ hj)]
            rw [List.mem_range'_1] at hj
            exact hfri j hj.1 (by omega)
          have hnd2 : (ord ++ List.range' nxi (m1.length - ord.length)).Nodup := List.nodup_append.2 ⟨hnd, List.nodup_range', fun x hx y hy e => by
            subst e
            rw [List.mem_range'_1] at hy
            have := h2 x hx; omega⟩
          have hlt2 : ∀ j ∈ ord ++ List.range' nxi (m1.length - ord.length), j < stA.mem.length := by
            intro j hj
            rcases List.mem_append.1 hj with q | q
            · have := h2 j q; omega
            · rw [List.mem_range'_1] at q; omega
          obtain ⟨⟨fn, hf1, hf2, hf3⟩, hdoes⟩ := hdoes
          unfold target at htA
          split at htA
          · rename_i call hopc
            split at htA
            · rename_i x hcal
              split at htA
              · rename_i f' first captured hx
                simp only [Option.some.injEq, Prod.mk.injEq] at htA
                obtain ⟨rfl, hargse⟩ := htA
                have hvx := ev_sound hs x
                rw [hx, VA.fns] at hvx
                obtain ⟨fa, ca, hvx, hfa, hca⟩ := hvx
                have hrunc := run_call (P := P) (w := w) hopc hcal hvx hf1 hf2 hf3
                have hargs : VAs g w args (fa ++ call.args.map a.eval ++ ca).toList := by
                  rw [← hargse]
                  simp only [Array.toList_append, Array.toList_map]
                  exact (hfa.append (maps_sound (ev_sound hs) _)).append hca
                obtain ⟨hp1, hp2⟩ := hs.rel.pack hnd
                have hren := Renames.pack g ord
                obtain ⟨w', g', cv, fr, q1, q2, q3, q4, q5, q6, q7, q8⟩ := hdoes (g.pack ord) w (fa ++ call.args.map a.eval ++ ca) (b.atR a (.inRegion ops (i :: Region.linearise.go .any ops fuel (t / (Region.ready .any ops S).length) (S.setIfInBounds i true) []) :: k) :: cs) hp1
                  (VAs.ren hren hargs) (hs.glob.mono fun _ _ p => ⟨p, rfl⟩)
                have hlen : (Am.pack stA.mem ord).length = ord.length := by simp [Am.pack]
                rw [hlen] at q7 q8
                obtain ⟨g2, r1, r2, r3, r4⟩ := hs.rel.backAt hnd2 hlt2 hR q5 q6 q7 (by simp; omega)
                have hus : d.us = (ord ++ List.range' nxi (m1.length - ord.length)).zip (m1.map (renB (backIdx (ord ++ List.range' nxi (m1.length - ord.length)) stA.mem.length))) := by rw [h5, hlenA]; rfl
                have hdv : d.v = ren (backIdx (ord ++ List.range' nxi (m1.length - ord.length)) stA.mem.length) v := by rw [h5, hlenA]; rfl
                rw [← hus] at r1 r3
                have hstep := step_enter (b := b) (k := k) (cs := cs) (rest := Region.linearise.go .any ops fuel (t / (Region.ready .any ops S).length) (S.setIfInBounds i true) []) ho hwanted hrunc
                have hleave := step_leave_returned (P := P) (c := b.atR a (.inRegion ops (i :: Region.linearise.go .any ops fuel (t / (Region.ready .any ops S).length) (S.setIfInBounds i true) []) :: k)) (cs := cs) q2
                rw [Frame.finish_atR, ho] at hleave
                exact go g2 cv w' (by rw [hdv]; exact q4.ren r4) r1 r2 r3 (.head hstep (q1.trans (.one hleave)))
              · cases htA
            · cases htA
          · cases htA
        · have both : (op1 P (fun j => stA.mem.getD j .dead) (wr o) nxi (ev E stA.tm) o = some (d.v, d.us, true)) ∧ (makes o = true → stA.mem[nxi]? = some .free) := by
            by_cases hsp : ∃ b x, d.us = [] ∧ stA.mem[b]? = some x ∧ d.ld b x = true
            · obtain ⟨b, x, hus, hx, hldx⟩ := hsp
              rw [hld] at hldx
              unfold ldOf at hldx
              split at hldx
              · rename_i t a hopl
                split at hldx
                · rename_i c off hadr
                  simp only [Bool.and_eq_true] at hldx
                  obtain ⟨hcb, hl2⟩ := hldx
                  have hcb := Nat.eq_of_beq_eq_true hcb
                  subst hcb
                  split at hl2
                  · rename_i v' ok hlo
                    simp only [Bool.and_eq_true] at hl2
                    obtain ⟨rfl, hv'⟩ := hl2
                    have hv' := eqAV_eq hv'
                    subst hv'
                    have hrd : (fun j => stA.mem.getD j Blk.dead) c = x := by
                      show stA.mem.getD c .dead = x
                      rw [List.getD_eq_getElem?_getD, hx]; rfl
                    have hload : loadOp P (fun j => stA.mem.getD j .dead) t (.mp c off) = loadOp P (fun _ => x) t (.mp c off) := by
                      simp only [loadOp, cellsAt_congr (rd := fun j => stA.mem.getD j Blk.dead) (rd' := fun _ => x) (a := .mp c off) (fun b hb => by
                        have : b = c := by simpa [refs] using hb
                        subst this; exact hrd)]
                    refine ⟨?_, fun hm => ?_⟩
                    · have e1 : ev E stA.tm a = .mp c off := by rw [hev a (by rw [hopl]; simp [Op.operands]), hadr]
                      simp only [op1, hopl, e1, hload, hlo, okUpd, Option.map_some, hus]
                    · simp [makes, hopl] at hm
                  · cases hl2
                · cases hldx
              · cases hldx
            · have hagree : ∀ b ∈ d.fp, stA.mem[b]? = sti.mem[b]? := fun b hb => (hag b hb).resolve_right fun ⟨q0, x, q1, q2⟩ => hsp ⟨b, x, q0, q1, q2⟩
              refine ⟨?_, fun hm => ?_⟩
              · rw [← hop]
                refine (op1_led hled (fun x hx => (hev x hx).symm) fun j hj => ?_).symm
                exact (get_getD (hagree j (by rw [hfp]; exact List.mem_append_right _ (List.mem_append_left _ hj)))).symm
              · rw [hagree nxi (by rw [hfp, hm]; exact List.mem_append_right _ (List.mem_append_right _ (by simp)))]
                rw [hm] at h3
                simp only [cond_true] at h3
                exact hfri nxi (Nat.le_refl _) (by omega)
          obtain ⟨hopA, hfree⟩ := both
          obtain ⟨cv, w', g', k1, k2, k3, k4, k5⟩ := op1_sound hs.rel (ev_sound hs) (fun _ => rfl) hfree hopA
          exact go g' cv w' k2 k3 k4 k5 (.one (step_op ho hwanted k1))
      · have hwanted : Region.wanted o (yielded ops a.tmps) = false := by
          rcases hw with hw | ⟨s', b', want, hw, hb⟩
          · exact w2 (hwt.trans hw)
          · rw [(w3 s' b' want (hwt.trans hw)).1]; exact hb
        refine go g undef w (VA.tups.2 trivial) hs.rel (Ext.refl g w) (Stp.refl _ _ _) (.one ?_)
        have hst := stepR_op_skip (P := P) (b := b) (a := a) (k := k) (cs := cs) (w := w) (ops := ops) (i := i) (rest := Region.linearise.go .any ops fuel (t / (Region.ready .any ops S).length) (S.setIfInBounds i true) []) (by simp [ho, hwanted])
        simpa only [ho, Option.bind_some] using hst

theorem allFree_get : ∀ {m : Mem}, allFree m = true → ∀ (i : Nat) (b : Blk), m[i]? = some b → b = .free
  | [], _, i, b, h => by simp at h
  | x :: r, h, i, b, hb => by
    cases x with
    | free =>
      cases i with
      | zero => simpa using hb.symm
      | succ i => exact allFree_get (m := r) h i b (by simpa using hb)
    | _ => cases h

theorem Rel.trim {g : Gh} {m : Mem} {w : World} (h : Rel g m w) {n : Nat} (hf : allFree (m.drop n) = true) : Rel g (m.take n) w ∧ Stp g m w g (m.take n) w := by
  have get : ∀ i b, (m.take n)[i]? = some b → m[i]? = some b := fun i b hb => by
    rw [List.getElem?_take] at hb
    split at hb
    · exact hb
    · cases hb
  refine ⟨⟨fun i hi => ?_, fun i hi => h.free i (get i _ hi), fun i b l hi hb => h.cells i b l (get i b hi) hb, fun i c hi hc => h.tok i c (get i _ hi) hc,
    fun i j b b' c hi hj ho ho' hc hc' => h.inj i j b b' c (get i b hi) (get j b' hj) ho ho' hc hc', h.there, fun i k l hi => h.obs i k l (get i _ hi)⟩, Stp.less fun c ⟨i, b, hi, ho, hc⟩ => ⟨i, b, get i b hi, ho, hc⟩⟩
  rcases Nat.lt_or_ge i m.length with q | q
  · rw [List.length_take] at hi
    have hb : (m.drop n)[i - n]? = some m[i] := by
      rw [List.getElem?_drop, show n + (i - n) = i by omega]
      exact List.getElem?_eq_getElem q
    have := allFree_get hf _ _ hb
    exact h.free i (by rw [List.getElem?_eq_getElem q, this])
  · exact h.far i q

theorem Rel.frees {g : Gh} {w : World} : ∀ (n : Nat) {m : Mem}, Rel g m w → Rel g (m ++ frees n) w ∧ Stp g m w g (m ++ frees n) w
  | 0, m, h => by
    simp only [Am.frees, List.replicate_zero, List.append_nil]
    exact ⟨h, Stp.refl _ _ _⟩
  | n + 1, m, h => by
    obtain ⟨h1, h2⟩ := h.reserve
    obtain ⟨h3, h4⟩ := Rel.frees n h1
    have e : m ++ Am.frees (n + 1) = (m ++ [.free]) ++ Am.frees n := by simp [Am.frees, List.replicate_succ]
    rw [e]
    exact ⟨h3, h2.trans h4⟩

theorem allBits_spec {x : Nat} : ∀ {n : Nat}, allBits x n = true → ∀ j, j < n → Nat.testBit x j = true
  | 0, _, j, h => absurd h (Nat.not_lt_zero _)
  | n + 1, h, j, hj => by
    simp only [allBits, Bool.and_eq_true] at h
    rcases Nat.lt_or_ge j n with q | q
    · exact allBits_spec h.2 j q
    · have : j = n := by omega
      subst this; exact h.1

theorem openOps_spec (ops : Array Oper) : openOps ops ≤ ops.size ∧ (openOps ops = ops.size ∨ (openOps ops + 1 = ops.size ∧ ∀ j, j < openOps ops → Nat.testBit ((masks [] ops.toList).getD (openOps ops) 0) j = true)) := by
  unfold openOps
  cases h : isLast ops with
  | false => exact ⟨Nat.le_refl _, .inl rfl⟩
  | true =>
    simp only [cond_true]
    refine ⟨by omega, ?_⟩
    unfold isLast at h
    simp only [Bool.and_eq_true] at h
    obtain ⟨h1, h2⟩ := h
    have hp : 0 < ops.size := by
      rcases Nat.eq_zero_or_pos ops.size with e | e
      · rw [show ops[ops.size - 1]? = none from Array.getElem?_eq_none (by omega)] at h1; cases h1
      · exact e
    exact .inr ⟨by omega, fun j hj => allBits_spec h2 j hj⟩

theorem LRun.lspec {wr : Oper → Bool} {ops : Array Oper} {m : Nat} {st st' : St} {nx nx' : Nat} {ds : List Did} (h : LRun P E wr ops (ops.toList.take m) st nx ds st' nx') (hm : m ≤ ops.size) (hu : Uniq ops.toList) (hn : nx ≤ st.mem.length) (hfr : FreeFrom nx st.mem) :
    LSpec P E wr ops m st (ds ++ List.replicate (ops.size - m) ⟨.tup [], [], [], fun _ _ => false⟩) st' ∧ ds.length = m ∧ st'.mem = memAt st.mem ds ∧ st'.fix = st.fix := by
  have get : ∀ i, i < m → (ops.toList.take m)[i]? = ops.toList[i]? := fun i hi => by rw [List.getElem?_take, if_pos hi]
  have hu' : Uniq (ops.toList.take m) := by
    intro i j p q t hij hp hq
    rw [List.getElem?_take] at hp hq
    split at hp
    · split at hq
      · exact hu i j p q t hij hp hq
      · cases hq
    · cases hp
  have hlen : (ops.toList.take m).length = m := by simp; omega
  obtain ⟨h1, h2, h3, _, h4⟩ := h.spec hu' hn hfr
  rw [hlen] at h1 h2
  have slots : ∀ {i : Nat} {T : St}, i ≤ m → SlotsAt (ops.toList.take m) (ds.map (·.v)) st i T → SlotsAt ops.toList ((ds ++ List.replicate (ops.size - m) (⟨.tup [], [], [], fun _ _ => false⟩ : Did)).map (·.v)) st i T := by
    intro i T hi ⟨q1, q2, q3, q4, q5⟩
    refine ⟨q1, q2, q3, fun j p v t hj hp hv ht => q4 j p v t hj (by rw [get j (by omega)]; exact hp) ?_ ht, fun t ht => q5 t fun j p hj hp => ht j p hj ?_⟩
    · rw [List.map_append, List.getElem?_append_left (by simp; omega)] at hv; exact hv
    · rw [get j (by omega)] at hp; exact hp
  refine ⟨⟨by simp; omega, slots (Nat.le_refl _) h2, ?_, ?_, ?_⟩, h1, h3, h2.2.2.1⟩
  · rw [List.take_append_of_le_length (by omega), List.take_of_length_le (by omega)]; exact h3
  · intro i o ho hi
    obtain ⟨d, sti, nxi, nxi1, q1, q2, q3, q4, q5, q6, q7⟩ := h4 i o (by rw [get i hi]; exact ho)
    refine ⟨d, sti, nxi, nxi1, by rw [List.getElem?_append_left (by omega)]; exact q1, q2, q3, slots (by omega) q4, ?_, q6, q7⟩
    rw [List.take_append_of_le_length (by omega)]; exact q5
  · intro i e hi he
    rw [List.getElem?_append_right (by omega), List.getElem?_replicate] at he
    split at he
    · cases he; rfl
    · cases he

theorem LOk.pad {L : List Nat} {ds : List Did} {n : Nat} (h : ∀ (i j : Nat) (d e : Did), j < i → ds[i]? = some d → ds[j]? = some e → Nat.testBit (L.getD i 0) j = true ∨ ((∀ b ∈ e.w, b ∉ d.fp) ∧ ((∀ b ∈ d.w, b ∉ e.fp) ∨ LdOk d e))) :
    LOk L (ds ++ List.replicate n ⟨.tup [], [], [], fun _ _ => false⟩) := by
  refine ⟨fun i j d e hj hd he => ?_⟩
  rcases Nat.lt_or_ge i ds.length with q | q
  · exact h i j d e hj (by rw [List.getElem?_append_left q] at hd; exact hd) (by rw [List.getElem?_append_left (by omega)] at he; exact he)
  · rw [List.getElem?_append_right q, List.getElem?_replicate] at hd
    split at hd
    · cases hd
      exact .inr ⟨fun b _ => by simp, .inl fun b hb => by simp at hb⟩
    · cases hd

theorem led_ok {g : Gh} {w : World} {b : Frame} {a : Act} {k : List It} {ops : Array Oper} {f rid : Nat} {O : FuncId → List AV → Mem → Option (AV × Mem)} {st st' : St} (hO : ∀ g args m v m1, O g args m = some (v, m1) → Does P E g args m v m1)
    (hs : SRel E g st a w) (h : ledRun P E f rid O ops st = some (st', true)) :
    ∀ cs, ∃ g' a' w', Steps P (lone (b.atR a (.code (.region rid ops true) :: erl k)) cs w) (lone (b.atR a' (erl (behindOpen rid ops k))) cs w') ∧ a'.defers = a.defers ∧ SRel E g' st' a' w' ∧
      Stp g st.mem w g' st'.mem w' ∧ Fixed g g' st.fix ∧ st'.fix = st.fix ∧ ∀ i c, g.blk i = some c → g'.blk i = some c := by
  intro cs
  unfold ledRun at h
  split at h
  · rename_i st1 nx ds ok hq
    simp only [Option.some.injEq, Prod.mk.injEq, Bool.and_eq_true] at h
    obtain ⟨rfl, rfl, hord, hled, hfree, hnx, hmix⟩ := h
    have hnx := Nat.le_of_ble_eq_true hnx
    have hrun := ledGo_run hO hq
    obtain ⟨hQ, _⟩ := QOrd.of hord
    obtain ⟨hop1, hop2⟩ := openOps_spec ops
    have hL : LOk (masks [] ops.toList) (ds ++ List.replicate (ops.size - openOps ops) ⟨.tup [], [], [], fun _ _ => false⟩) := LOk.pad fun i j d e hj hd he => ledsOk_spec (bef := []) hled i j d e (Nat.zero_le _) hj hd he
    obtain ⟨hr1, hr2⟩ := hs.rel.frees (60 + ops.size)
    have hs1 : SRel E g { st with mem := st.mem ++ frees (60 + ops.size) } a w := ⟨hs.tm, hs.nt, hr1, by simp; have := hs.fix; omega, hs.glob⟩
    have hgd : ∀ j, (Array.replicate ops.size false).getD j false = false := by
      intro j
      rw [Array.getD_eq_getD_getElem?, Array.getElem?_replicate]
      split <;> rfl
    have hfr : FreeFrom st.mem.length (st.mem ++ frees (60 + ops.size)) := by
      intro i hi hl
      rw [List.getElem?_append_right hi]
      simp only [frees, List.length_append, List.length_replicate] at hl ⊢
      rw [List.getElem?_replicate, if_pos (by omega)]
    have hnl : st.mem.length ≤ (st.mem ++ frees (60 + ops.size)).length := by simp
    obtain ⟨hspec, hdl, hmem, hfix⟩ := hrun.lspec hop1 hQ.uniq hnl hfr
    generalize hds : ds ++ List.replicate (ops.size - openOps ops) (⟨.tup [], [], [], fun _ _ => false⟩ : Did) = ds2 at *
    have hI : QInv ops (masks [] ops.toList) (ds2.map (·.v)) { st with mem := st.mem ++ frees (60 + ops.size) } { st with mem := st.mem ++ frees (60 + ops.size) } (Array.replicate ops.size false) :=
      ⟨by simp, rfl, rfl, rfl, fun j _ _ _ hj => (by rw [hgd] at hj; cases hj), fun _ _ => rfl, fun i _ hi => (by rw [hgd] at hi; cases hi)⟩
    have hM : MemOf ds2 (st.mem ++ frees (60 + ops.size)) (fun j => (Array.replicate ops.size false).getD j false = true) (st.mem ++ frees (60 + ops.size)) := MemOf.nil fun j q => by rw [hgd] at q; cases q
    have hs2 := hs1.drew (w.drawn + 1)
    obtain ⟨g', a', w', r1, r2, r3, r4, r5, r6⟩ := led_any (P := P) (E := E) (b := b) (k := erl k) cs hQ hL hspec hop2 ops.size (w.tape w.drawn (.order b.fn rid)) (Array.replicate ops.size false) { st with mem := st.mem ++ frees (60 + ops.size) } a g _ (List.range ops.size) hI hM hs2 (by simp) (fun i hi _ => List.mem_range.2 hi) (fun i _ => hgd i)
    obtain ⟨t1, t2⟩ := r3.rel.trim hfree
    have hlen : st1.mem.length = st.mem.length + (60 + ops.size) := by rw [hmem, memAt_length]; simp [frees]
    have hfix : st1.fix = st.fix := hfix
    refine ⟨g', a', w', ?_, r2, ⟨r3.tm, r3.nt, t1, ?_, r3.glob⟩, ?_, r5, hfix, r6⟩
    · refine .head stepR_region_draw ?_
      have hsch : Region.schedule (P.follows .mixedOrders) ops (w.tape w.drawn (.order b.fn rid)) = Region.linearise.go .any ops ops.size (w.tape w.drawn (.order b.fn rid)) (Array.replicate ops.size false) [] := by
        simp only [Region.schedule, hmix, if_true, Region.linearise]
      rw [hsch]
      unfold behindOpen
      unfold openOps at r1
      cases hlast : isLast ops with
      | false =>
        rw [hlast] at r1
        simp only [cond_false, Nat.sub_self, List.range'_zero] at r1 ⊢
        exact r1.trans (.one stepR_region_end)
      | true =>
        rw [hlast] at r1
        simp only [cond_true] at r1 ⊢
        exact r1
    · have := hs.fix
      show st1.fix ≤ (st1.mem.take nx).length
      rw [List.length_take, hfix]
      omega
    · have hst : Stp g (st.mem ++ frees (60 + ops.size)) w g (st.mem ++ frees (60 + ops.size)) { w with drawn := w.drawn + 1 } := ⟨Nat.le_refl _, fun _ _ _ => rfl, fun _ _ h => ⟨h, rfl⟩, fun _ _ h => .inl h, fun _ h => .inl h, rfl, rfl, rfl⟩
      exact ((hr2.trans hst).trans r4).trans t2
  · cases h

def Same (s t : St) : Prop := s.nt = t.nt ∧ s.fix = t.fix ∧ s.mem = t.mem ∧ ∀ k, look s.tm k = look t.tm k

theorem Same.refl (s : St) : Same s s := ⟨rfl, rfl, rfl, fun _ => rfl⟩

theorem eqTm_look {a b : Tms} : ∀ {l : List Nat}, eqTm a b l = true → ∀ k ∈ l, look a k = look b k
  | [], _, k, h => by cases h
  | x :: r, h, k, hk => by
    simp only [eqTm, Bool.and_eq_true] at h
    rcases List.mem_cons.1 hk with rfl | hk
    · exact eqAV_eq h.1
    · exact eqTm_look h.2 k hk

theorem look_none : ∀ {a : Tms} {k : Nat}, k ∉ a.map (·.1) → look a k = .junk
  | [], _, _ => rfl
  | (j, v) :: r, k, h => by
    simp only [List.map_cons, List.mem_cons, not_or] at h
    simp only [look]
    cases hb : Nat.beq j k with
    | true => exact absurd (Nat.eq_of_beq_eq_true hb).symm h.1
    | false => exact look_none h.2

theorem eqSt_same {s t : St} (h : eqSt s t = true) : Same s t := by
  simp only [eqSt, Bool.and_eq_true] at h
  obtain ⟨h1, h2, h3, h4⟩ := h
  refine ⟨Nat.eq_of_beq_eq_true h1, Nat.eq_of_beq_eq_true h2, eqMem_eq h3, fun k => ?_⟩
  by_cases hk : k ∈ s.tm.map (·.1) ++ t.tm.map (·.1)
  · exact eqTm_look h4 k hk
  · rw [List.mem_append, not_or] at hk
    rw [look_none hk.1, look_none hk.2]

def Has (l : List Pt) (q : Pt) : Prop := ∃ p ∈ l, p.1 = q.1 ∧ Same q.2 p.2

theorem hasPt_has {q : Pt} : ∀ {l : List Pt}, hasPt q l = true → Has l q
  | [], h => by cases h
  | p :: r, h => by
    simp only [hasPt, Bool.or_eq_true] at h
    rcases h with h | h
    · simp only [eqPt, Bool.and_eq_true] at h
      exact ⟨p, .head _, (Array.toList_inj.1 (eqBools_eq h.1)).symm, eqSt_same h.2⟩
    · obtain ⟨x, h1, h2⟩ := hasPt_has h
      exact ⟨x, .tail _ h1, h2⟩

theorem addPt_has {q : Pt} {l : List Pt} : Has (addPt q l) q ∧ ∀ x ∈ l, x ∈ addPt q l := by
  unfold addPt
  cases h : hasPt q l with
  | true => exact ⟨hasPt_has h, fun _ hx => hx⟩
  | false => exact ⟨⟨q, .head _, rfl, Same.refl _⟩, fun _ hx => .tail _ hx⟩

theorem Has.mono {l l' : List Pt} {q : Pt} (h : Has l q) (hl : ∀ x ∈ l, x ∈ l') : Has l' q := by
  obtain ⟨p, h1, h2⟩ := h
  exact ⟨p, hl p h1, h2⟩

theorem nextPts_has {f : FuncId} {ops : Array Oper} {q : Pt} : ∀ {is : List Nat} {l l' : List Pt}, nextPts P E f ops q is l = some l' →
    (∀ x ∈ l, x ∈ l') ∧ ∀ i ∈ is, ∃ st, oneGo P E f ops i q.2 = some st ∧ Has l' (q.1.setIfInBounds i true, st)
  | [], l, l', h => by
    simp only [nextPts, Option.some.injEq] at h
    subst h
    exact ⟨fun _ hx => hx, fun i hi => by cases hi⟩
  | i :: r, l, l', h => by
    simp only [nextPts] at h
    split at h
    · rename_i st hst
      obtain ⟨h1, h2⟩ := nextPts_has h
      obtain ⟨k1, k2⟩ := addPt_has (q := (q.1.setIfInBounds i true, st)) (l := l)
      refine ⟨fun x hx => h1 x (k2 x hx), fun j hj => ?_⟩
      rcases List.mem_cons.1 hj with rfl | hj
      · exact ⟨st, hst, k1.mono h1⟩
      · exact h2 j hj
    · cases h

theorem level_has {f : FuncId} {ops : Array Oper} : ∀ {l acc l' : List Pt}, level P E f ops l acc = some l' →
    (∀ x ∈ acc, x ∈ l') ∧ ∀ q ∈ l, (Region.ready .any ops q.1 = [] → Has l' q) ∧ ∀ i ∈ Region.ready .any ops q.1, ∃ st, oneGo P E f ops i q.2 = some st ∧ Has l' (q.1.setIfInBounds i true, st)
  | [], acc, l', h => by
    simp only [level, Option.some.injEq] at h
    subst h
    exact ⟨fun _ hx => hx, fun q hq => by cases hq⟩
  | q :: r, acc, l', h => by
    simp only [level] at h
    split at h
    · rename_i hr
      obtain ⟨h1, h2⟩ := level_has h
      obtain ⟨k1, k2⟩ := addPt_has (q := q) (l := acc)
      refine ⟨fun x hx => h1 x (k2 x hx), fun p hp => ?_⟩
      rcases List.mem_cons.1 hp with rfl | hp
      · exact ⟨fun _ => k1.mono h1, fun i hi => by rw [hr] at hi; cases hi⟩
      · exact h2 p hp
    · rename_i hr
      split at h
      · rename_i l1 hn
        obtain ⟨h1, h2⟩ := level_has h
        obtain ⟨k1, k2⟩ := nextPts_has hn
        refine ⟨fun x hx => h1 x (k1 x hx), fun p hp => ?_⟩
        rcases List.mem_cons.1 hp with rfl | hp
        · refine ⟨fun e => absurd e hr, fun i hi => ?_⟩
          obtain ⟨st, q1, q2⟩ := k2 i hi
          exact ⟨st, q1, q2.mono h1⟩
        · exact h2 p hp
      · cases h

theorem Same.trans {a b c : St} (h : Same a b) (k : Same b c) : Same a c := ⟨h.1.trans k.1, h.2.1.trans k.2.1, h.2.2.1.trans k.2.2.1, fun x => (h.2.2.2 x).trans (k.2.2.2 x)⟩

theorem SRel.like {g : Gh} {w : World} {st st' : St} {a : Act} (h : SRel E g st a w) (q : Same st st') : SRel E g st' a w := h.same q.2.2.1 q.1 q.2.1 q.2.2.2

theorem levels_stuck {f : FuncId} {ops : Array Oper} : ∀ (n : Nat) {l l' : List Pt}, levels P E f ops n l = some l' → ∀ q ∈ l, Region.ready .any ops q.1 = [] → Has l' q
  | 0, l, l', h, q, hq, _ => by
    simp only [levels, Option.some.injEq] at h
    subst h
    exact ⟨q, hq, rfl, Same.refl _⟩
  | n + 1, l, l', h, q, hq, hr => by
    simp only [levels] at h
    split at h
    · rename_i l1 hl
      obtain ⟨p, h1, h2, h3⟩ := (((level_has hl).2 q hq).1 hr)
      obtain ⟨x, k1, k2, k3⟩ := levels_stuck n h p h1 (by rw [h2]; exact hr)
      exact ⟨x, k1, k2.trans h2, h3.trans k3⟩
    · cases h

theorem lat_ok {b : Frame} {k : List Item} {f : FuncId} {ops : Array Oper} : ∀ (n : Nat) (l l' : List Pt), levels P E f ops n l = some l' → ∀ (q : Pt), q ∈ l → ∀ (t : Nat) (a : Act) (g : Gh) (w : World), SRel E g q.2 a w →
    ∃ st' ∈ l'.map (·.2), ∃ g' a' w', (∀ cs, Steps P (lone (b.atR a (.inRegion ops (Region.linearise.go .any ops n t q.1 []) :: k)) cs w) (lone (b.atR a' (.inRegion ops [] :: k)) cs w')) ∧ a'.defers = a.defers ∧ SRel E g' st' a' w' ∧
      Stp g q.2.mem w g' st'.mem w' ∧ Fixed g g' q.2.fix ∧ st'.fix = q.2.fix ∧ ∀ i c, g.blk i = some c → g'.blk i = some c
  | 0, l, l', h, q, hq, t, a, g, w, hs => by
    simp only [levels, Option.some.injEq] at h
    subst h
    exact ⟨q.2, List.mem_map.2 ⟨q, hq, rfl⟩, g, a, w, fun cs => Steps.refl _ _, rfl, hs, Stp.refl _ _ _, Fixed.refl _ _, rfl, fun _ _ q => q⟩
  | n + 1, l, l', h, q, hq, t, a, g, w, hs => by
    have h0 := h
    simp only [levels] at h
    split at h
    · rename_i l1 hl
      simp only [Region.linearise.go]
      show ∃ st' ∈ l'.map (·.2), ∃ g' a' w', (∀ cs, Steps P (lone (b.atR a (.inRegion ops (match (Region.ready .any ops q.1)[t % (Region.ready .any ops q.1).length]? with
        | some i => Region.linearise.go .any ops n (t / (Region.ready .any ops q.1).length) (q.1.setIfInBounds i true) [i]
        | none => [].reverse) :: k)) cs w) (lone (b.atR a' (.inRegion ops [] :: k)) cs w')) ∧ _
      obtain ⟨_, k2⟩ := (level_has hl).2 q hq
      cases hr : (Region.ready .any ops q.1)[t % (Region.ready .any ops q.1).length]? with
      | none =>
        have hnil : Region.ready .any ops q.1 = [] := by
          cases hz : Region.ready .any ops q.1 with
          | nil => rfl
          | cons x xs =>
            rw [hz] at hr
            have hlt : t % (x :: xs).length < (x :: xs).length := Nat.mod_lt _ (by simp)
            rw [List.getElem?_eq_getElem hlt] at hr; cases hr
        obtain ⟨p, p1, p2, p3⟩ := levels_stuck (n + 1) h0 q hq hnil
        exact ⟨p.2, List.mem_map.2 ⟨p, p1, rfl⟩, g, a, w, fun cs => Steps.refl _ _, rfl, hs.like p3, by rw [← p3.2.2.1]; exact Stp.refl _ _ _, Fixed.refl _ _, p3.2.1.symm, fun _ _ q => q⟩
      | some i =>
        dsimp only
        rw [linearise_go_acc, List.reverse_singleton, List.singleton_append]
        obtain ⟨st, he, p, p1, p2, p3⟩ := k2 i (List.mem_of_getElem? hr)
        have p2 : p.1 = q.1.setIfInBounds i true := p2
        have p3 : Same st p.2 := p3
        unfold oneGo at he
        split at he
        · cases he
        · rename_i o ho
          split at he
          · rename_i hw
            dsimp only at he
            split at he
            · rename_i v us ok hop
              cases hok : (ok && fits q.2 o.dst) with
              | false => rw [hok] at he; cases he
              | true =>
                rw [hok] at he
                simp only [cond_true, Option.some.injEq] at he
                subst he
                simp only [Bool.and_eq_true] at hok
                obtain ⟨rfl, hf⟩ := hok
                have hwanted := (wants_yes hs (ops := ops) (o := o)).1 hw
                have hres : Rel g (reserve o q.2.mem) w ∧ Stp g q.2.mem w g (reserve o q.2.mem) w := by
                  unfold reserve
                  cases makes o with
                  | true => exact hs.rel.reserve
                  | false => exact ⟨hs.rel, Stp.refl _ _ _⟩
                have hfree : makes o = true → (reserve o q.2.mem)[q.2.mem.length]? = some .free := by
                  intro hm
                  simp [reserve, hm]
                obtain ⟨cv, w1, g1, k1, k2, k3, k4, k5⟩ := op1_sound hres.1 (ev_sound hs) (fun _ => rfl) hfree hop
                have hlen2 : q.2.fix ≤ (apply (reserve o q.2.mem) us).length := by
                  rw [apply_length]
                  have := hs.fix
                  unfold reserve
                  cases makes o <;> simp <;> omega
                have hs1 := (hs.put hf k2 k4 k3 hlen2).like p3
                have hm : p.2.mem = apply (reserve o q.2.mem) us := by rw [← p3.2.2.1, put_withmem]
                have hx : p.2.fix = q.2.fix := by rw [← p3.2.1]; cases o.dst <;> rfl
                obtain ⟨st2, r0, g2, a2, w2, r1, r2, r3, r4, r5, r6, r7⟩ := lat_ok (b := b) (k := k) n l1 l' h p p1 (t / (Region.ready .any ops q.1).length) _ _ _ hs1
                rw [hm] at r4
                rw [hx] at r5 r6
                rw [p2] at r1
                exact ⟨st2, r0, g2, a2, w2, fun cs => .head (step_op ho hwanted k1) (r1 cs), r2.trans put_defers, r3, (hres.2.trans k5).trans r4, (Fixed.ofExt k4 _).trans r5, r6, fun i c q => r7 i c (k4.blk i c q).1⟩
            · cases he
          · cases he
    · cases h

theorem fork_ok {g : Gh} {w : World} {b : Frame} {a : Act} {k : List Item} {ops : Array Oper} {f rid : Nat} {st : St} {sts : List St} (hs : SRel E g st a w) (h : forkRun P E f ops st = some sts) :
    ∃ st' ∈ sts, ∃ g' a' w', (∀ cs, Steps P (lone (b.atR a (.code (.region rid ops true) :: k)) cs w) (lone (b.atR a' k) cs w')) ∧ a'.defers = a.defers ∧ SRel E g' st' a' w' ∧
      Stp g st.mem w g' st'.mem w' ∧ Fixed g g' st.fix ∧ st'.fix = st.fix ∧ ∀ i c, g.blk i = some c → g'.blk i = some c := by
  unfold forkRun at h
  cases hc : ((isFlip ops || isFill P ops) && (P.follows .mixedOrders || !Region.departs ops)) with
  | false => rw [hc] at h; cases h
  | true =>
    rw [hc] at h
    simp only [cond_true, Option.map_eq_some_iff] at h
    simp only [Bool.and_eq_true] at hc
    obtain ⟨l', h1, rfl⟩ := h
    obtain ⟨st', h2, g', a', w', r1, r2, r3, r4, r5, r6, r7⟩ := lat_ok (b := b) (k := k) _ _ _ h1 (Array.replicate ops.size false, st) (.head _) (w.tape w.drawn (.order b.fn rid)) a g _ (hs.drew (w.drawn + 1))
    refine ⟨st', h2, g', a', w', fun cs => ?_, r2, r3, ?_, r5, r6, r7⟩
    · refine .head stepR_region_draw ?_
      have hsch : Region.schedule (P.follows .mixedOrders) ops (w.tape w.drawn (.order b.fn rid)) = Region.linearise.go .any ops ops.size (w.tape w.drawn (.order b.fn rid)) (Array.replicate ops.size false) [] := by
        simp only [Region.schedule, hc.2, if_true, Region.linearise]
      rw [hsch]
      exact (r1 cs).trans (.one stepR_region_end)
    · have hst : Stp g st.mem w g st.mem { w with drawn := w.drawn + 1 } := ⟨Nat.le_refl _, fun _ _ _ => rfl, fun _ _ h => ⟨h, rfl⟩, fun _ _ h => .inl h, fun _ h => .inl h, rfl, rfl, rfl⟩
      exact hst.trans r4

end
end Go.Am
end
