/-
  The executor's steps are the machine's: calls, ends, every step.
-/
import Derived.Test.YtmplfloknneaoaaAm15
namespace Go.Am
open Go.RowKit

section
variable {P : Program} {E : Env} {g : Gh} {w : World}

theorem apply_length : ∀ (us : Upd) (m : Mem), (apply m us).length = m.length
  | [], _ => rfl
  | (i, b) :: us, m => by simp [apply, apply_length us]

/-- What an event tells of the machine. (Regions whose order is open: elsewhere.) -/
def EvOk (P : Program) (E : Env) (g : Gh) (c : Cfg) (fr : Frame) (w : World) : Ev → Prop
  | .next c' => Goes P E g c fr w c'
  | .must b c' => b = true → Goes P E g c fr w c'
  | .test b y z => (b = true → Goes P E g c fr w y) ∧ (b = false → Goes P E g c fr w z)
  | .call f args m ord dst c' => ∀ v m1, Does P E f args m v m1 → Goes P E g c fr w { c' with st := back ord dst c'.st v m1 }
  | .draw _ _ _ => True
  | .done (.ret v m') => fr.fn = c.f ∧ m' = c.st.mem ∧ ∃ cv, fr.leaving P w (.returned cv) ∧ VA g w v cv ∧ Rel g m' w ∧ c.st.fix ≤ m'.length
  | .fail => True

theorem nf {x : It} {k : List It} (hx : x ≠ .fin) (hk : ∀ y ∈ k, y ≠ It.fin) : ∀ y ∈ x :: k, y ≠ It.fin := by
  intro y hy
  cases hy with
  | head => exact hx
  | tail _ hy => exact hk y hy

theorem CRel.mk {c : Cfg} {b : Frame} {a : Act} (hnf : ∀ x ∈ c.todo, x ≠ It.fin) (h1 : b.fn = c.f) (h2 : b.kind = .normal) (h3 : a.defers = []) (h4 : SRel E g c.st a w) : CRel P E g c (b.at a (erl c.todo)) w := by
  unfold CRel
  split
  · rename_i k hk; exact absurd rfl (hnf .fin (by rw [hk]; exact .head _))
  · exact ⟨b, a, rfl, h1, h2, h3, h4, hnf⟩

/-- The machine goes some steps; memory stays. -/
theorem Goes.quiet {c c' : Cfg} {b : Frame} {a : Act} {fr : Frame} (hst : ∀ cs, Steps P (lone fr cs w) (lone (b.at a (erl c'.todo)) cs w))
    (hnf : ∀ x ∈ c'.todo, x ≠ It.fin) (h1 : b.fn = c.f) (hf : c'.f = c.f) (h2 : b.kind = .normal) (h3 : a.defers = []) (h4 : SRel E g c'.st a w) (hm : c'.st.mem = c.st.mem) (hx : c'.st.fix = c.st.fix) : Goes P E g c fr w c' := by
  intro cs
  exact ⟨g, _, w, hst cs, CRel.mk hnf (h1.trans hf.symm) h2 h3 h4, by rw [hm]; exact Stp.refl _ _ _, Fixed.refl _ _, hf, hx⟩

theorem wp_defers {a : Act} {d : Option Tmp} {v : Value} (h : a.defers = []) : (a.put d v).defers = [] := by cases d <;> exact h

theorem run_call {a : Act} {o : Oper} {c : Call} {x : Operand} {f : FuncId} {fa ca : Array Value} (ho : o.op = .call c) (hc : c.callee = .value x) (hx : a.eval x = .func (.func f) fa ca)
    {fn : Func} (hf : P.funcs[f]? = some fn) (hb : fn.body.isSome = true) (hn : (fn.name == "runtime.NumGoroutine") = false) :
    (execOp a.eval o).run P w = .ok (.enter f (fa ++ c.args.map a.eval ++ ca)) w := by
  have hbn : fn.body.isNone = false := by cases hq : fn.body <;> simp_all
  simp only [execOp, ho, resolve, hc, hx, Deferred.ofValue, Sem.run_bind, Sem.run_pure, Result.andThen_ok, invoke, callFunc, run_program, hf, hn, Bool.false_eq_true, if_false, hbn]

theorem doOp_ok {c : Cfg} {b : Frame} {a : Act} {k0 : List It} {ops : Array Oper} {i rid : Nat} {o : Oper} (hs : SRel E g c.st a w) (hbf : b.fn = c.f) (hbk : b.kind = .normal) (hd : a.defers = [])
    (ho : ops[i]? = some o) (hw : Region.wanted o (yielded ops a.tmps) = true) (hk0 : ∀ x ∈ k0, x ≠ It.fin) :
    EvOk P E g c (b.at a (.inRegion ops (List.range' i (ops.size - i)) :: erl k0)) w (doOp P E c rid o (.ops rid ops (i + 1) false :: k0)) := by
  have hi : i < ops.size := by
    rcases Nat.lt_or_ge i ops.size with q | q
    · exact q
    · rw [Array.getElem?_eq_none q] at ho; cases ho
  rw [range'_head hi]
  unfold doOp
  have hev := ev_sound hs
  split
  · rename_i f args ht
    cases hb : (fits c.st o.dst && allLt (close c.st.mem 0 args) c.st.mem.length) with
    | false => simp only [hb, cond_false]; trivial
    | true =>
      simp only [hb, cond_true]
      simp only [Bool.and_eq_true] at hb
      intro v m1 hdoes cs
      obtain ⟨⟨fn, hf1, hf2, hf3⟩, hdoes⟩ := hdoes
      -- the call's operands
      unfold target at ht
      split at ht
      · rename_i call hop
        split at ht
        · rename_i x hcal
          split at ht
          · rename_i f' first captured hx
            simp only [Option.some.injEq, Prod.mk.injEq] at ht
            obtain ⟨rfl, rfl⟩ := ht
            have hvx := hev x
            rw [hx, VA.fns] at hvx
            obtain ⟨fa, ca, hvx, hfa, hca⟩ := hvx
            have hrun := run_call (P := P) (w := w) hop hcal hvx hf1 hf2 hf3
            have hargs : VAs g w (first ++ call.args.toList.map (ev E c.st.tm) ++ captured) (fa ++ call.args.map a.eval ++ ca).toList := by
              simp only [Array.toList_append, Array.toList_map]
              exact (hfa.append (maps_sound hev _)).append hca
            generalize first ++ call.args.toList.map (ev E c.st.tm) ++ captured = args at *
            obtain ⟨hnd, _⟩ := close_spec c.st.mem 0 args
            generalize close c.st.mem 0 args = ord at *
            obtain ⟨hp1, hp2⟩ := hs.rel.pack hnd
            have hren := Renames.pack g ord
            obtain ⟨w', g', cv, fr, q1, q2, q3, q4, q5, q6, q7, q8⟩ := hdoes (g.pack ord) w (fa ++ call.args.map a.eval ++ ca) (b.at a (.inRegion ops (i :: List.range' (i + 1) (ops.size - (i + 1))) :: erl k0) :: cs) hp1
              (VAs.ren hren hargs) (hs.glob.mono fun _ _ p => ⟨p, rfl⟩)
            have hlen : (Am.pack c.st.mem ord).length = ord.length := by simp [Am.pack]
            rw [hlen] at q7 q8
            obtain ⟨r1, r2, r3, r4⟩ := hs.rel.back hnd (allLt_mem hb.2) q5 q6 q7 q8
            have hstep := step_enter (b := b) (k := erl k0) (cs := cs) (rest := List.range' (i + 1) (ops.size - (i + 1))) ho hw hrun
            have hleave := step_leave_returned (P := P) (c := b.at a (.inRegion ops (i :: List.range' (i + 1) (ops.size - (i + 1))) :: erl k0)) (cs := cs) q2
            have hfin : (b.at a (.inRegion ops (i :: List.range' (i + 1) (ops.size - (i + 1))) :: erl k0)).finish cv = b.at (a.put o.dst cv) (.inRegion ops (List.range' (i + 1) (ops.size - (i + 1))) :: erl k0) := by
              rw [Frame.finish_at, ho]; rfl
            rw [hfin] at hleave
            have hlen2 : c.st.fix ≤ (backMem (backIdx ord c.st.mem.length) ord m1 c.st.mem).length := by
              rw [backMem_length _ _ _ _ q8]; have := hs.fix; omega
            refine ⟨_, _, w', .head hstep (q1.trans (.one hleave)), CRel.mk (a := a.put o.dst cv) (c := { c with todo := .ops rid ops (i + 1) false :: k0, st := back ord o.dst c.st v m1 }) (nf (fun e => by cases e) hk0) hbf hbk (wp_defers hd) (hs.put hb.1 (q4.ren r4) r2 r1 hlen2), ?_, Fixed.ofExt r2 _, rfl, ?_⟩
            · have : (back ord o.dst c.st v m1).mem = backMem (backIdx ord c.st.mem.length) ord m1 c.st.mem := by
                unfold back Am.put; cases o.dst <;> rfl
              show Stp g c.st.mem w _ (back ord o.dst c.st v m1).mem w'
              rw [this]; exact r3
            · show (back ord o.dst c.st v m1).fix = c.st.fix
              unfold back Am.put; cases o.dst <;> rfl
          · cases ht
        · cases ht
      · cases ht
  · dsimp only
    split
    · rename_i v us ok he
      intro hok cs
      simp only [Bool.and_eq_true] at hok
      obtain ⟨rfl, hfit⟩ := hok
      have hres : Rel g (reserve o c.st.mem) w ∧ Stp g c.st.mem w g (reserve o c.st.mem) w := by
        unfold reserve
        cases makes o with
        | true => exact hs.rel.reserve
        | false => exact ⟨hs.rel, Stp.refl _ _ _⟩
      have hfree : makes o = true → (reserve o c.st.mem)[c.st.mem.length]? = some .free := by
        intro hm
        simp [reserve, hm]
      obtain ⟨cv, w', g', k1, k2, k3, k4, k5⟩ := op1_sound hres.1 hev hfree he
      have hstep := step_op (b := b) (k := erl k0) (cs := cs) (rest := List.range' (i + 1) (ops.size - (i + 1))) ho hw k1
      have hlen2 : c.st.fix ≤ (apply (reserve o c.st.mem) us).length := by
        rw [apply_length]
        have := hs.fix
        unfold reserve
        cases makes o <;> simp <;> omega
      refine ⟨g', _, w', .one hstep, CRel.mk (a := a.put o.dst cv) (c := { c with todo := .ops rid ops (i + 1) false :: k0, st := put { c.st with mem := apply (reserve o c.st.mem) us } o.dst v }) (nf (fun e => by cases e) hk0) hbf hbk (wp_defers hd) (hs.put hfit k2 k4 k3 hlen2), ?_, Fixed.ofExt k4 _, rfl, ?_⟩
      · have : (put { c.st with mem := apply (reserve o c.st.mem) us } o.dst v).mem = apply (reserve o c.st.mem) us := by unfold Am.put; cases o.dst <;> rfl
        show Stp g c.st.mem w _ (put { c.st with mem := apply (reserve o c.st.mem) us } o.dst v).mem w'
        rw [this]; exact hres.2.trans k5
      · show (put { c.st with mem := apply (reserve o c.st.mem) us } o.dst v).fix = c.st.fix
        unfold Am.put; cases o.dst <;> rfl
    · trivial

end
end Go.Am
