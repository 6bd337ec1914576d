/-
  Runs to the end, and runs along one way: what they tell is so.
-/
import Derived.Test.YtiphaojaolcidaaDoorAm18
namespace Go.Am
open Go.RowKit

/-- No function bears the one name that the model treats by itself. -/
def NamesOk (P : Program) : Prop := ∀ (f : FuncId) (fn : Func), P.funcs[f]? = some fn → (fn.name == "runtime.NumGoroutine") = false

def Good (P : Program) (E : Env) (c : Cfg) (o : Out) : Prop :=
  ∀ (g : Gh) (fr : Frame) (w : World) (cs : List Frame), CRel P E g c fr w → match o with
    | .ret v m' => ∃ g' fr' w' cv w2, Steps P (lone fr cs w) (lone fr' cs w') ∧ Outs P c.st.rnd fr' w' cv w2 ∧ fr'.fn = c.f ∧ VA g' w2 v cv ∧ Rel g' m' w2 ∧ Stp g c.st.mem w g' m' w2 ∧ Fixed g g' c.st.fix ∧ c.st.fix ≤ m'.length
    | .pan v m' => ∃ g' fr' w' cv, Steps P (lone fr cs w) (lone fr' cs w') ∧ fr'.leaving P w' (.panicked [{ v := cv, recovered := false }]) ∧ fr'.fn = c.f ∧ VA g' w' v cv ∧ Rel g' m' w' ∧ Stp g c.st.mem w g' m' w' ∧ Fixed g g' c.st.fix ∧ c.st.fix ≤ m'.length

section
variable {P : Program} {E : Env}

theorem Good.of_goes {c c' : Cfg} {o : Out} (hg : ∀ g fr w, CRel P E g c fr w → Goes P E g c fr w c') (h : Good P E c' o) : Good P E c o := by
  intro g fr w cs hc
  obtain ⟨g', fr', w', q1, q2, q3, q4, q5, q6, q7⟩ := hg g fr w hc cs
  cases o with
  | ret v m' =>
    obtain ⟨g2, fr2, w2, cv, w3, r1, r2, r3, r4, r5, r6, r7, r8⟩ := h g' fr' w' cs q2
    refine ⟨g2, fr2, w2, cv, w3, q1.trans r1, by rw [← q7]; exact r2, r3.trans q5, r4, r5, q3.trans r6, q4.trans ?_, by rw [← q6]; exact r8⟩
    rw [← q6]; exact r7
  | pan v m' =>
    obtain ⟨g2, fr2, w2, cv, r1, r2, r3, r4, r5, r6, r7, r8⟩ := h g' fr' w' cs q2
    refine ⟨g2, fr2, w2, cv, q1.trans r1, r2, r3.trans q5, r4, r5, q3.trans r6, q4.trans ?_, by rw [← q6]; exact r8⟩
    rw [← q6]; exact r7

theorem upTo_range : ∀ n, upTo n = List.range n
  | 0 => rfl
  | n + 1 => by rw [upTo, upTo_range n, List.range_succ]

theorem look_range : ∀ (l : List AV) (s k : Nat), look ((List.range' s l.length).zip l) k = if s ≤ k then l.getD (k - s) .junk else .junk
  | [], s, k => by simp [look]
  | v :: l, s, k => by
    simp only [List.length_cons, List.range'_succ, List.zip_cons_cons, look_cons]
    by_cases e : s = k
    · subst e; simp
    · simp only [e, if_false]
      rw [look_range l (s + 1) k]
      by_cases h : s + 1 ≤ k
      · have h1 : s ≤ k := by omega
        have h2 : k - s = (k - (s + 1)) + 1 := by omega
        simp [h, h1, h2]
      · have h1 : ¬ s ≤ k := by omega
        simp [h, h1]

/-- A call of that kind. -/
def roleOf : Bool → Rnd
  | false => .call
  | true => .late
def kindOf : Bool → CallKind
  | false => .normal
  | true => .deferred

theorem CRel.enterK {g : Gh} {w : World} {f : FuncId} {args : List AV} {m : Mem} {c : Cfg} {cargs : Array Value} (z : Bool) (hi : init P f args m = some c) (hr : Rel g m w) (ha : VAs g w args cargs.toList) (hg : GlobOk E g w) :
    CRel P E g { c with st := { c.st with rnd := roleOf z } } (Frame.enter P f cargs (kindOf z)) w := by
  unfold init at hi
  split at hi
  · rename_i fn hf
    split at hi
    · rename_i body hb
      simp only [Option.some.injEq] at hi; subst hi
      have hlen := ha.len
      simp only [Array.length_toList] at hlen
      let b : Frame := { (default : Frame) with fn := f, kind := kindOf z, roundOf := none }
      have hen : Frame.enter P f cargs (kindOf z) = b.atR { tmps := cargs ++ Array.replicate (fn.ntmps - cargs.size) undef, defers := [] } [.code body] := by
        simp [Frame.enter, Frame.atR, hf, hb, b]
      rw [hen]
      refine CRel.mk (c := ⟨f, [.code 0 body], ⟨(upTo args.length).zip args, max fn.ntmps args.length, m, m.length, [], roleOf z⟩⟩) (nf trivial (fun _ h => by cases h)) rfl (by cases z <;> exact ⟨rfl, rfl⟩) trivial ⟨?_, ?_, hr, Nat.le_refl _, hg⟩
      · intro k
        rw [upTo_range, List.range_eq_range', look_range]
        simp only [Nat.zero_le, if_true, Nat.sub_zero]
        rcases Nat.lt_or_ge k args.length with hk | hk
        · rw [List.getD_eq_getElem?_getD, List.getElem?_eq_getElem hk]
          have hk' : k < cargs.toList.length := by simp; omega
          have hk2 : k < cargs.size := by omega
          have := ha.get k hk hk'
          simp only [Option.getD_some, Array.getD_eq_getD_getElem?]
          rw [Array.getElem?_append_left hk2, Array.getElem?_eq_getElem hk2]
          simpa using this
        · rw [List.getD_eq_getElem?_getD, List.getElem?_eq_none hk]
          exact .junk _
      · simp; omega
    · cases hi
  · cases hi

theorem init_rnd {f : FuncId} {args : List AV} {m : Mem} {c : Cfg} (hi : init P f args m = some c) : c.st.mem = m ∧ c.st.fix = m.length ∧ c.f = f ∧ c.st.rnd = .call := by
  unfold init at hi
  split at hi
  · split at hi
    · simp only [Option.some.injEq] at hi; subst hi; exact ⟨rfl, rfl, rfl, rfl⟩
    · cases hi
  · cases hi

theorem CRel.enter {g : Gh} {w : World} {f : FuncId} {args : List AV} {m : Mem} {c : Cfg} {cargs : Array Value} (hi : init P f args m = some c) (hr : Rel g m w) (ha : VAs g w args cargs.toList) (hg : GlobOk E g w) :
    CRel P E g c (Frame.enter P f cargs .normal) w := by
  have h := CRel.enterK (P := P) false hi hr ha hg
  have e : ({ c with st := { c.st with rnd := roleOf false } } : Cfg) = c := by
    obtain ⟨_, _, _, h4⟩ := init_rnd hi
    obtain ⟨f, t, tm, nt, mem, fix, mks, rnd⟩ := c
    simp only at h4
    subst h4
    rfl
  rw [e] at h
  exact h

theorem init_body (hN : NamesOk P) {f : FuncId} {args : List AV} {m : Mem} {c : Cfg} (hi : init P f args m = some c) : ∃ fn, P.funcs[f]? = some fn ∧ fn.body.isSome = true ∧ (fn.name == "runtime.NumGoroutine") = false := by
  unfold init at hi
  split at hi
  · rename_i fn hf
    split at hi
    · rename_i body hb
      exact ⟨fn, hf, by simp [hb], hN f fn hf⟩
    · cases hi
  · cases hi

theorem doesP_of_good (hN : NamesOk P) {f : FuncId} {args : List AV} {m : Mem} {c : Cfg} {v : AV} {m' : Mem} (hi : init P f args m = some c) (h : Good P E c (.pan v m')) : DoesP P E f args m v m' := by
  refine ⟨init_body hN hi, fun g w cargs cs hr ha hg => ?_⟩
  obtain ⟨g', fr', w', cv, q1, q2, q3, q4, q5, q6, q7, q8⟩ := h g _ w cs (CRel.enter hi hr ha hg)
  obtain ⟨e1, e2, e3, e4⟩ := init_rnd hi
  rw [e1] at q6; rw [e2] at q7 q8; rw [e3] at q3
  exact ⟨_, g', cv, fr', q1, q2, q3, q4, q5, q6, q7, q8⟩

theorem does_of_good (hN : NamesOk P) {f : FuncId} {args : List AV} {m : Mem} {c : Cfg} {v : AV} {m' : Mem} (hi : init P f args m = some c) (h : Good P E c (.ret v m')) : Does P E f args m v m' := by
  refine ⟨init_body hN hi, fun g w cargs cs hr ha hg => ?_⟩
  obtain ⟨g', fr', w', cv, w2, q1, q2, q3, q4, q5, q6, q7, q8⟩ := h g _ w cs (CRel.enter hi hr ha hg)
  obtain ⟨e1, e2, e3, e4⟩ := init_rnd hi
  rw [e1] at q6; rw [e2] at q7 q8; rw [e3] at q3; rw [e4] at q2
  obtain ⟨q2, rfl⟩ := q2
  exact ⟨_, g', cv, fr', q1, q2, q3, q4, q5, q6, q7, q8⟩

theorem putAll_sound {g : Gh} {w : World} : ∀ (ds : List Nat) (vs : List AV) (cvs : List Value) (tm : Tms) (t : Array Value), VAs g w vs cvs → ds.length = vs.length → (∀ d ∈ ds, d < t.size) → (∀ k, VA g w (look tm k) (t.getD k undef)) →
    (∀ k, VA g w (look (putAll tm ds vs) k) (((ds.zip cvs).foldl (fun t (q : Nat × Value) => t.setIfInBounds q.1 q.2) t).getD k undef)) ∧ ((ds.zip cvs).foldl (fun t (q : Nat × Value) => t.setIfInBounds q.1 q.2) t).size = t.size
  | [], [], [], tm, t, _, _, _, h => ⟨h, rfl⟩
  | d :: ds, v :: vs, cv :: cvs, tm, t, hv, hl, hd, h => by
    have hdt := hd d (.head _)
    obtain ⟨q1, q2⟩ := putAll_sound ds vs cvs ((d, v) :: tm) (t.setIfInBounds d cv) hv.2 (by simpa using hl) (fun d' hd' => by simpa using hd d' (.tail _ hd')) fun k => by
      simp only [look_cons]
      by_cases hk : d = k
      · subst hk
        simp only [if_true, Array.getD_eq_getD_getElem?, Array.getElem?_setIfInBounds_self_of_lt hdt, Option.getD_some]
        exact hv.1
      · simp only [hk, if_false, Array.getD_eq_getD_getElem?]
        rw [Array.getElem?_setIfInBounds_ne hk, ← Array.getD_eq_getD_getElem?]
        exact h k
    exact ⟨q1, q2.trans (by simp)⟩
  | [], _ :: _, _, _, _, _, hl, _, _ => by simp at hl
  | _ :: _, [], _, _, _, _, hl, _, _ => by simp at hl
  | [], [], _ :: _, _, _, h, _, _, _ => h.elim
  | _ :: _, _ :: _, [], _, _, h, _, _, _ => h.elim

theorem doesR_of_good {args : List AV} {m : Mem} {c : Cfg} {v : AV} {m' : Mem} (hi : initR args m = some c) (h : Good P E c (.ret v m')) : DoesR P E args m v m' := by
  intro g w i l xs cxs d cs hargs hr hl hx hg
  subst hargs
  unfold initR at hi
  dsimp only at hi
  split at hi
  · rename_i f ps as bd s pd vals hb
    cases hc : (Nat.beq xs.length ps.toList.length && allLt ps.toList vals.length) with
    | false => rw [hc] at hi; cases hi
    | true =>
      rw [hc] at hi
      simp only [cond_true, Option.some.injEq] at hi
      simp only [Bool.and_eq_true] at hc
      have hlen := Nat.eq_of_beq_eq_true hc.1
      have hlt := allLt_mem hc.2
      have hib := getD_some hb (by simp)
      obtain ⟨c0, ob, vs, k1, k2, k3, k4, _⟩ := hr.obs i _ _ hib
      rw [hl] at k1; cases k1
      obtain ⟨D, rfl⟩ := k4
      have hxl := hx.len
      simp only [Array.length_toList] at hxl
      have hvl := k3.len
      have hyield := run_yield (P := P) (args := cxs) k2 (by show cxs.size = ps.size; simp at hlen; omega)
      dsimp only at hyield
      have hfold : (ps.zip cxs).foldl (fun tmps (t, a) => tmps.setIfInBounds t a) vs.toArray = (ps.toList.zip cxs.toList).foldl (fun t (q : Nat × Value) => t.setIfInBounds q.1 q.2) vs.toArray := by
        rw [← Array.foldl_toList, Array.toList_zip]
      rw [hfold] at hyield
      obtain ⟨t1, t2⟩ := putAll_sound ps.toList xs cxs.toList ((upTo vals.length).zip vals) vs.toArray hx hlen.symm (fun d hd => by have := hlt d hd; simp; omega) fun k => by
        rw [upTo_range, List.range_eq_range', look_range]
        simp only [Nat.zero_le, if_true, Nat.sub_zero]
        rcases Nat.lt_or_ge k vals.length with hk | hk
        · rw [List.getD_eq_getElem?_getD, List.getElem?_eq_getElem hk]
          have hk' : k < vs.length := by omega
          have := k3.get k hk hk'
          simp only [Option.getD_some, Array.getD_eq_getD_getElem?]
          simpa [hk'] using this
        · rw [List.getD_eq_getElem?_getD, List.getElem?_eq_none hk]
          exact .junk _
      generalize (ps.toList.zip cxs.toList).foldl (fun t (q : Nat × Value) => t.setIfInBounds q.1 q.2) vs.toArray = T at *
      let b : Frame := { (default : Frame) with fn := f, kind := .normal, roundOf := some l }
      have hen : Frame.round l f T as bd .normal = b.atR { tmps := T, defers := [] } (erl c.todo) := by
        rw [← hi]
        simp [Frame.round, Frame.atR, erl, er, b]
      have hrel : CRel P E g c (Frame.round l f T as bd .normal) w := by
        rw [hen]
        subst hi
        exact CRel.mk (nf trivial (nf trivial (nf trivial fun _ h => by cases h))) rfl ⟨rfl, l, hl, rfl⟩ trivial ⟨t1, by rw [t2]; simp; omega, hr, Nat.le_refl _, hg⟩
      have hm : c.st.mem = m ∧ c.st.fix = m.length ∧ c.st.rnd = .round i := by subst hi; exact ⟨rfl, rfl, rfl⟩
      obtain ⟨e1, e2, e3⟩ := hm
      obtain ⟨g', fr', w', cv, w2, q1, q2, q3, q4, q5, q6, q7, q8⟩ := h g _ w (d :: cs) hrel
      rw [e1] at q6; rw [e2] at q7 q8; rw [e3] at q2
      exact ⟨f, T, as, bd, w2, g', cv, hyield, q1.trans (q2 d cs), q4, q5, q6, q7, q8⟩
  · cases hi

theorem good_done {c : Cfg} {o : Out} (h : Am.step P E c = .done o) : Good P E c o := by
  intro g fr w cs hc
  have hs := step_ok hc
  rw [h] at hs
  cases o with
  | ret v m' =>
    obtain ⟨h1, rfl, cv, w2, h2, h3, h4, h6, h5⟩ := hs
    exact ⟨g, fr, w, cv, w2, Steps.refl _ _, h2, h1, h3, h4, h6, Fixed.refl _ _, h5⟩
  | pan v m' =>
    obtain ⟨h1, rfl, cv, h2, h3, h4, h5⟩ := hs
    exact ⟨g, fr, w, cv, Steps.refl _ _, h2, h1, h3, h4, Stp.refl _ _ _, Fixed.refl _ _, h5⟩

theorem goes_next {c c' : Cfg} (h : Am.step P E c = .next c') : ∀ g fr w, CRel P E g c fr w → Goes P E g c fr w c' := by
  intro g fr w hc
  have hs := step_ok hc
  rw [h] at hs; exact hs

theorem goes_must {c c' : Cfg} (h : Am.step P E c = .must true c') : ∀ g fr w, CRel P E g c fr w → Goes P E g c fr w c' := by
  intro g fr w hc
  have hs := step_ok hc
  rw [h] at hs; exact hs rfl

theorem goes_test {c y z : Cfg} {b : Bool} (h : Am.step P E c = .test b y z) : ∀ g fr w, CRel P E g c fr w → Goes P E g c fr w (match b with | true => y | false => z) := by
  intro g fr w hc
  have hs := step_ok hc
  rw [h] at hs
  cases b with
  | true => exact hs.1 rfl
  | false => exact hs.2 rfl

theorem goes_call {c c' : Cfg} {f : FuncId} {args : List AV} {m : Mem} {ord : List Nat} {dst : Option Tmp} {v : AV} {m1 : Mem} (h : Am.step P E c = .call f args m ord dst c') (hd : Does P E f args m v m1) :
    ∀ g fr w, CRel P E g c fr w → Goes P E g c fr w { c' with st := back ord dst c'.st v m1 } := by
  intro g fr w hc
  have hs := step_ok hc
  rw [h] at hs
  exact hs.1 v m1 hd

theorem goes_thrown {c c' : Cfg} {f : FuncId} {args : List AV} {m : Mem} {ord : List Nat} {dst : Option Tmp} {v : AV} {m1 : Mem} (h : Am.step P E c = .call f args m ord dst c') (hd : DoesP P E f args m v m1) :
    ∀ g fr w, CRel P E g c fr w → Goes P E g c fr w (thrownAt ord c' v m1) := by
  intro g fr w hc
  have hs := step_ok hc
  rw [h] at hs
  exact hs.2 v m1 hd

theorem goes_late {c c' : Cfg} {f : FuncId} {args : List AV} {m : Mem} {ord : List Nat} {pv : Option AV} {m1 : Mem} (h : Am.step P E c = .late f args m ord pv c') (hd : DoesL P E f args m pv m1) :
    ∀ g fr w, CRel P E g c fr w → Goes P E g c fr w { c' with st := back ord none c'.st (.tup []) m1 } := by
  intro g fr w hc
  have hs := step_ok hc
  rw [h] at hs
  exact hs m1 hd

/-- Steps up to the place where it is asked what was thrown. -/
theorem toRec_goes {b : Frame} {a : Act} {cs : List Frame} {w : World} : ∀ (n : Nat) (t t' : List It), toRec n t = some t' → (∀ x ∈ t, It.pl x) → Steps P (lone (b.atR a (erl t)) cs w) (lone (b.atR a (erl t')) cs w) ∧ ∀ x ∈ t', It.pl x
  | 0, _, _, h, _ => by cases h
  | n + 1, t, t', h, hp => by
    unfold toRec at h
    split at h
    · simp only [Option.some.injEq] at h; subst h
      exact ⟨Steps.refl _ _, hp⟩
    · obtain ⟨h1, h2⟩ := toRec_goes n _ t' h (nf trivial (nf trivial fun y hy => hp y (.tail _ hy)))
      exact ⟨.head stepR_seq h1, h2⟩
    · rename_i id ops k
      obtain ⟨h1, h2⟩ := toRec_goes n _ t' h (nf trivial fun y hy => hp y (.tail _ hy))
      refine ⟨.head ?_ h1, h2⟩
      have := stepR_region (P := P) (b := b) (a := a) (k := erl k) (cs := cs) (w := w) (ops := ops) (id := id)
      simpa [erl, er, List.range_eq_range'] using this
    · obtain ⟨h1, h2⟩ := toRec_goes n _ t' h (nf trivial (nf trivial fun y hy => hp y (.tail _ hy)))
      exact ⟨.head (step_lone_go (by simp [stepG, stepG.exec, Frame.atR, erl, er])) h1, h2⟩
    · obtain ⟨h1, h2⟩ := toRec_goes n _ t' h (nf trivial (nf trivial fun y hy => hp y (.tail _ hy)))
      exact ⟨.head stepR_block h1, h2⟩
    · cases h

/-- The step in which it is asked what was thrown. -/
theorem step_recover {b : Frame} {a : Act} {k : List Item} {c0 : Frame} {cs : List Frame} {w : World} {ops : Array Oper} {i : Nat} {rest : List Nat} {o : Oper} {cpv : Option Value} (hk : b.kind = .deferred) (hb : b.roundOf = none) (ho : ops[i]? = some o) (hr : isRec o = true)
    (h0 : c0.mode = lateMode cpv false) :
    _root_.Go.step P (lone (b.atR a (.inRegion ops (i :: rest) :: k)) (c0 :: cs) w) = .next (lone (b.atR (a.put o.dst (cpv.getD .nilIface)) (.inRegion ops rest :: k)) ({ c0 with mode := lateMode cpv true } :: cs) w) := by
  unfold isRec at hr
  split at hr
  · rename_i c hop hgd
    split at hr
    · rename_i hcal harg
      have harr : c.args = #[] := by have := congrArg List.toArray harg; simpa using this
      have hw : Region.wanted o (yielded ops a.tmps) = true := by unfold Region.wanted; rw [hgd]
      have hg := stepGR_op (P := P) (b := b) (k := k) (cs := c0 :: cs) (w := w) (rest := rest) ho hw
      have hrun : (o.semAt b.roundOf a.eval).run P w = .ok .recover w := by
        rw [hb]
        simp only [Oper.semAt, execOp, hop, resolve, hcal, harr, Sem.run_bind, Sem.run_pure, Result.andThen_ok, invoke, builtin]
      have hfin : ∀ v, (b.atR a (.inRegion ops (i :: rest) :: k)).finish v = b.atR (a.put o.dst v) (.inRegion ops rest :: k) := fun v => by rw [Frame.finish_atR, ho]; rfl
      have hkk : (b.atR a (.inRegion ops (i :: rest) :: k)).kind = .deferred := hk
      have htr := tryRecover_deferred hkk (c0 :: cs)
      have hro : (b.atR a (.inRegion ops (i :: rest) :: k)).roundOf = none := hb
      refine step_lone_go ?_
      rw [hg]
      cases cpv with
      | none =>
        have e : recoverD (c0 :: cs) = none := by unfold recoverD; simp only [h0, lateMode]
        rw [e] at htr
        have h00 : ({ c0 with mode := lateMode none true } : Frame) = c0 := by rw [show lateMode none true = c0.mode from h0.symm]
        rw [h00]
        simp only [stepG.apply, Sem.runT_eq, hrun, hro, htr, GStep.bare_after, GStep.bare_go, hfin, Option.getD_none, if_true]
      | some v =>
        have e : recoverD (c0 :: cs) = some (v, { c0 with mode := lateMode (some v) true } :: cs) := by unfold recoverD; simp only [h0, lateMode]
        rw [e] at htr
        simp only [stepG.apply, Sem.runT_eq, hrun, hro, htr, GStep.bare_after, GStep.bare_go, hfin, Option.getD_some, if_true]
    · cases hr
  · cases hr

theorem doesL_of_good (hN : NamesOk P) {f : FuncId} {args : List AV} {m : Mem} {pv : Option AV} {c : Cfg} {v : AV} {m' : Mem} (hi : initL P f args m pv = some c) (h : Good P E c (.ret v m')) : DoesL P E f args m pv m' := by
  unfold initL at hi
  split at hi
  · rename_i c0 hi0
    split at hi
    · rename_i t1 hi1
      refine ⟨init_body hN hi0, fun g w cargs cpv fr0 cs h0 hpv hr ha hg => ?_⟩
      obtain ⟨e1, e2, e3, _⟩ := init_rnd hi0
      have hen := CRel.enterK (P := P) true hi0 hr ha hg
      have hcode : ∃ body, c0.todo = [.code 0 body] := by
        unfold init at hi0
        split at hi0
        · split at hi0
          · simp only [Option.some.injEq] at hi0; subst hi0; exact ⟨_, rfl⟩
          · cases hi0
        · cases hi0
      obtain ⟨body, hbody⟩ := hcode
      obtain ⟨f0, t0, st0⟩ := c0
      simp only at hbody e1 e2 e3 hi1 hi
      subst hbody
      obtain ⟨b, a, hfr, h1, h2, h3, h4, hk⟩ := hen
      simp only at h1 h2 h3 h4 hk
      obtain ⟨hsteps, hpl⟩ := toRec_goes (P := P) (b := b) (a := a) (cs := fr0 :: cs) (w := w) 20 _ _ hi1 hk
      have hen2 : Frame.enter P f cargs .deferred = b.atR a (erl [It.code 0 body]) := hfr
      rw [hen2]
      unfold doRec at hi
      simp only at hi
      split at hi
      · rename_i rid ops i sure k
        split at hi
        · rename_i o ho
          have hlt : i < ops.size := by
            rcases Nat.lt_or_ge i ops.size with q | q
            · exact q
            · rw [Array.getElem?_eq_none q] at ho; cases ho
          have hk' : ∀ y ∈ k, It.pl y := fun y hy => hpl y (.tail _ hy)
          cases hb : (isRec o && fits { st0 with rnd := .late } o.dst) with
          | false => rw [hb] at hi; cases hi
          | true =>
            rw [hb] at hi
            simp only [cond_true, Option.some.injEq] at hi
            simp only [Bool.and_eq_true] at hb
            have hstep := step_recover (P := P) (a := a) (k := erl k) (cs := cs) (w := w) (rest := List.range' (i + 1) (ops.size - (i + 1))) (cpv := cpv) h2.1 h2.2 ho hb.1 h0
            have hva : VA g w (pv.getD (.p (.sc .nilIface))) (cpv.getD .nilIface) := by
              cases pv with
              | none => cases cpv with
                | none => exact .p _ _ (.sc _)
                | some _ => exact hpv.elim
              | some u => cases cpv with
                | none => exact hpv.elim
                | some cv => exact hpv
            have hput := h4.put (m' := st0.mem) hb.2 hva (Ext.refl g w) h4.rel h4.fix
            have hcr : CRel P E g c (b.atR (a.put o.dst (cpv.getD .nilIface)) (.inRegion ops (List.range' (i + 1) (ops.size - (i + 1))) :: erl k)) w := by
              subst hi
              exact CRel.mk (c := ⟨f0, .ops rid ops (i + 1) false :: k, put { st0 with rnd := .late } o.dst (pv.getD (.p (.sc .nilIface)))⟩) (nf trivial hk') h1 (by rw [put_rnd]; exact h2) (h3.put (st := { st0 with rnd := .late }) (st' := { st0 with rnd := .late }) (Ext.refl g w) rfl) hput
            obtain ⟨g2, fr2, w2, cv, w3, r1, r2, r3, r4, r5, r6, r7, r8⟩ := h g _ w ({ fr0 with mode := lateMode cpv true } :: cs) hcr
            have hc : c.st.mem = m ∧ c.st.fix = m.length ∧ c.st.rnd = .late := by
              subst hi
              refine ⟨?_, ?_, ?_⟩
              · rw [← e1]
                show (put { st0 with rnd := .late } o.dst _).mem = st0.mem
                unfold Am.put; cases o.dst <;> rfl
              · rw [← e2]
                show (put { st0 with rnd := .late } o.dst _).fix = st0.fix
                unfold Am.put; cases o.dst <;> rfl
              · show (put { st0 with rnd := .late } o.dst _).rnd = .late
                rw [put_rnd]
            obtain ⟨c1, c2, c3⟩ := hc
            rw [c3] at r2
            obtain ⟨⟨r2, r2'⟩, rfl⟩ := r2
            rw [c1] at r6
            rw [c2] at r7 r8
            refine ⟨_, g2, cv, fr2, hsteps.trans (.head ?_ r1), r2, r2', r5, r6, r7, r8⟩
            have he : erl (.ops rid ops i sure :: k) = .inRegion ops (i :: List.range' (i + 1) (ops.size - (i + 1))) :: erl k := by
              simp only [erl, er, range'_head hlt, List.cons_append, List.nil_append]
            rw [he]
            exact hstep
        · cases hi
      · cases hi
    · cases hi
  · cases hi

theorem goes_round {c c' : Cfg} {args : List AV} {m : Mem} {ord : List Nat} {dst : Option Tmp} {v : AV} {m1 : Mem} (h : Am.step P E c = .round args m ord dst c') (hd : DoesR P E args m v m1) :
    ∀ g fr w, CRel P E g c fr w → Goes P E g c fr w { c' with st := back ord dst c'.st v m1 } := by
  intro g fr w hc
  have hs := step_ok hc
  rw [h] at hs
  exact hs v m1 hd

theorem goes_range {c c' : Cfg} {f : FuncId} {args : List AV} {m : Mem} {ord : List Nat} {L : Nat} {v : AV} {m1 m2 : Mem} {pd : Option Code} (h : Am.step P E c = .range f args m ord L c') (hd : Does P E f args m v m1)
    (he : rangeEnd (back ord none c'.st v m1).mem L = some (m2, pd)) : ∀ g fr w, CRel P E g c fr w → Goes P E g c fr w (behind c' m2 pd) := by
  intro g fr w hc
  have hs := step_ok hc
  rw [h] at hs
  exact hs v m1 hd m2 pd he

theorem Good.of_any {c : Cfg} {l : List Cfg} {o : Out} (hg : ∀ g fr w, CRel P E g c fr w → GoesAny P E g c fr w l) (h : ∀ c' ∈ l, Good P E c' o) : Good P E c o := by
  intro g fr w cs hc
  obtain ⟨c', hm, g', fr', w', q1, q2, q3, q4, q5, q6, q7⟩ := hg g fr w hc cs
  cases o with
  | ret v m' =>
    obtain ⟨g2, fr2, w2, cv, w3, r1, r2, r3, r4, r5, r6, r7, r8⟩ := h c' hm g' fr' w' cs q2
    refine ⟨g2, fr2, w2, cv, w3, q1.trans r1, by rw [← q7]; exact r2, r3.trans q5, r4, r5, q3.trans r6, q4.trans ?_, by rw [← q6]; exact r8⟩
    rw [← q6]; exact r7
  | pan v m' =>
    obtain ⟨g2, fr2, w2, cv, r1, r2, r3, r4, r5, r6, r7, r8⟩ := h c' hm g' fr' w' cs q2
    refine ⟨g2, fr2, w2, cv, q1.trans r1, r2, r3.trans q5, r4, r5, q3.trans r6, q4.trans ?_, by rw [← q6]; exact r8⟩
    rw [← q6]; exact r7

theorem goes_fork {c : Cfg} {l : List Cfg} (h : Am.step P E c = .fork l) : ∀ g fr w, CRel P E g c fr w → GoesAny P E g c fr w l := by
  intro g fr w hc
  have hs := step_ok hc
  rw [h] at hs; exact hs

theorem goes_draw {c c' : Cfg} {rid : Nat} {ops : Array Oper} {O : FuncId → List AV → Mem → Option (AV × Mem)} {st' : St} (h : Am.step P E c = .draw rid ops c') (hO : ∀ g args m v m1, O g args m = some (v, m1) → Does P E g args m v m1)
    (hq : ledRun P E c'.f rid O ops c'.st = some (st', true)) : ∀ g fr w, CRel P E g c fr w → Goes P E g c fr w { c' with st := { st' with mks := c'.st.mks, rnd := c'.st.rnd } } := by
  intro g fr w hc
  have hs := step_ok hc
  rw [h] at hs
  exact hs O st' hO hq

def Calls' (P : Program) (E : Env) (l : List Call') : Prop := ∀ q ∈ l, Does P E q.g q.args q.m q.v q.m'

theorem knownAt_does {K : List Call'} (hK : Calls' P E K) {g : FuncId} {args : List AV} {m : Mem} {r : AV × Mem} (h : knownAt K g args m = some r) : Does P E g args m r.1 r.2 := by
  induction K with
  | nil => cases h
  | cons q K ih =>
    simp only [knownAt] at h
    cases hb : (Nat.beq q.g g && (eqAVs args q.args && eqMem m q.m)) with
    | true =>
      rw [hb] at h
      simp only [cond_true, Option.some.injEq] at h
      subst h
      simp only [Bool.and_eq_true] at hb
      obtain ⟨h1, h2, h3⟩ := hb
      have h1 := Nat.eq_of_beq_eq_true h1
      have h2 := eqAVs_eq h2
      have h3 := eqMem_eq h3
      subst h1; subst h2; subst h3
      exact hK q (.head _)
    | false =>
      rw [hb] at h
      exact ih (fun x hx => hK x (.tail _ hx)) h

theorem eqOut_eq {o p : Out} (h : eqOut o p = true) : o = p := by
  cases o with
  | ret v m => cases p with
    | ret u n =>
      simp only [eqOut, Bool.and_eq_true] at h
      rw [eqAV_eq h.1, eqMem_eq h.2]
    | pan u n => cases h
  | pan v m => cases p with
    | ret u n => cases h
    | pan u n =>
      simp only [eqOut, Bool.and_eq_true] at h
      rw [eqAV_eq h.1, eqMem_eq h.2]

theorem agree_all : ∀ {l : List (Option Out)} {o : Out}, agree l = some o → ∀ x ∈ l, x = some o
  | [], _, h, _, _ => by cases h
  | [x], o, h, y, hy => by
    cases hy with
    | head => exact h
    | tail _ hy => cases hy
  | x :: y :: r, o, h, z, hz => by
    simp only [agree] at h
    split at h
    · rename_i o1 p1 h1
      cases hb : eqOut o1 p1 with
      | false => rw [hb] at h; cases h
      | true =>
        rw [hb] at h
        simp only [cond_true, Option.some.injEq] at h
        subst h
        cases hz with
        | head => rw [eqOut_eq hb]
        | tail _ hz => exact agree_all h1 z hz
    · cases h

theorem exec_sound (hN : NamesOk P) {K : List Call'} (hK : Calls' P E K) : ∀ (n : Nat) (c : Cfg) (o : Out), exec P E K n c = some o → Good P E c o
  | 0, _, _, h => by cases h
  | n + 1, c, o, h => by
    unfold exec at h
    split at h
    · rename_i c' hs; exact Good.of_goes (goes_next hs) (exec_sound hN hK n c' o h)
    · rename_i b c' hs
      cases b with
      | false => cases h
      | true => exact Good.of_goes (goes_must hs) (exec_sound hN hK n c' o h)
    · rename_i b y z hs
      have := goes_test hs
      cases b with
      | true => exact Good.of_goes this (exec_sound hN hK n y o h)
      | false => exact Good.of_goes this (exec_sound hN hK n z o h)
    · rename_i g args m ord dst c' hs
      split at h
      · rename_i v m1 hk
        exact Good.of_goes (goes_call hs (knownAt_does hK hk)) (exec_sound hN hK n _ o h)
      · split at h
        · rename_i ci hi
          split at h
          · rename_i v m1 he
            have hd := does_of_good hN hi (exec_sound hN hK n ci _ he)
            exact Good.of_goes (goes_call hs hd) (exec_sound hN hK n _ o h)
          · rename_i u m1 he
            have hd := doesP_of_good hN hi (exec_sound hN hK n ci _ he)
            exact Good.of_goes (goes_thrown hs hd) (exec_sound hN hK n _ o h)
          · cases h
        · cases h
    · rename_i g args m ord pv c' hs
      split at h
      · rename_i ci hi
        split at h
        · rename_i v m1 he
          have hd := doesL_of_good hN hi (exec_sound hN hK n ci _ he)
          exact Good.of_goes (goes_late hs hd) (exec_sound hN hK n _ o h)
        · cases h
      · cases h
    · rename_i args m ord dst c' hs
      split at h
      · rename_i ci hi
        split at h
        · rename_i v m1 he
          have hd := doesR_of_good hi (exec_sound hN hK n ci _ he)
          exact Good.of_goes (goes_round hs hd) (exec_sound hN hK n _ o h)
        · cases h
      · cases h
    · rename_i g args m ord L c' hs
      split at h
      · rename_i ci hi
        split at h
        · rename_i v m1 he
          split at h
          · rename_i m2 pd hend
            have hd := does_of_good hN hi (exec_sound hN hK n ci _ he)
            exact Good.of_goes (goes_range hs hd hend) (exec_sound hN hK n _ o h)
          · cases h
        · cases h
      · cases h
    · rename_i rid ops c' hs
      split at h
      · rename_i st' ok hq
        cases ok with
        | false => cases h
        | true =>
          refine Good.of_goes (goes_draw hs (fun g args m v m1 hO => ?_) hq) (exec_sound hN hK n _ o h)
          split at hO
          · rename_i r hk
            simp only [Option.some.injEq] at hO
            subst hO
            exact knownAt_does hK hk
          · split at hO
            · rename_i ci hi
              split at hO
              · rename_i v' m1' he
                simp only [Option.some.injEq, Prod.mk.injEq] at hO
                obtain ⟨rfl, rfl⟩ := hO
                exact does_of_good hN hi (exec_sound hN hK n ci _ he)
              · cases hO
            · cases hO
      · cases h
    · rename_i l hs
      exact Good.of_any (goes_fork hs) fun c' hc' => exec_sound hN hK n c' o (agree_all h _ (List.mem_map.2 ⟨c', hc', rfl⟩))
    · rename_i o' hs
      simp only [Option.some.injEq] at h; subst h
      exact good_done hs
    · cases h

theorem does_of_known (hN : NamesOk P) {K : List Call'} (hK : Calls' P E K) {n : Nat} {f : FuncId} {args : List AV} {m m' : Mem} {v : AV} (h : execF P E K n f args m = some (.ret v m')) : Does P E f args m v m' := by
  unfold execF at h
  split at h
  · rename_i c hi; exact does_of_good hN hi (exec_sound hN hK n c _ h)
  · cases h

theorem does_of_exec (hN : NamesOk P) {n : Nat} {f : FuncId} {args : List AV} {m m' : Mem} {v : AV} (h : execF P E [] n f args m = some (.ret v m')) : Does P E f args m v m' :=
  does_of_known hN (fun _ hq => by cases hq) h

theorem calls_nil : Calls' P E [] := fun _ hq => by cases hq

theorem calls_cons {q : Call'} {K : List Call'} (h : Does P E q.g q.args q.m q.v q.m') (hK : Calls' P E K) : Calls' P E (q :: K) := by
  intro x hx
  cases hx with
  | head => exact h
  | tail _ hx => exact hK x hx

/-- What a run along one way tells. -/
def FinOk (P : Program) (E : Env) (c : Cfg) : Fin → Prop
  | .out o => Good P E c o
  | .at c' => ∀ o, Good P E c' o → Good P E c o

theorem FinOk.of_goes {c c' : Cfg} {r : Fin} (hg : ∀ g fr w, CRel P E g c fr w → Goes P E g c fr w c') (h : FinOk P E c' r) : FinOk P E c r := by
  cases r with
  | out o => exact Good.of_goes hg h
  | «at» c2 => exact fun o ho => Good.of_goes hg (h o ho)

theorem same_eq {b b' : Bool} (h : same b b' = true) : b = b' := by cases b <;> cases b' <;> simp_all [same]

theorem drive_sound : ∀ (n : Nat) (c : Cfg) (as : List Ans) (r : Fin) (l : List Call'), ∀ ok, drive P E n c as = some (r, ok, l) → ok = true → Calls' P E l → FinOk P E c r
  | 0, _, _, _, _, _, h, _, _ => by cases h
  | n + 1, c, as, r, l, ok, h, ht, hl => by
    unfold drive at h
    split at h
    · split at h
      · rename_i c' hs
        simp only [Option.some.injEq, Prod.mk.injEq] at h
        obtain ⟨rfl, _, _⟩ := h
        exact fun o ho => Good.of_goes (goes_next hs) ho
      · cases h
    · split at h
      · rename_i c' hs
        exact FinOk.of_goes (goes_next hs) (drive_sound n c' _ r l ok h ht hl)
      · cases h
    · cases h
    · split at h
      · rename_i c' hs; exact FinOk.of_goes (goes_next hs) (drive_sound n c' _ r l ok h ht hl)
      · rename_i b c' hs
        split at h
        · rename_i r' ok' l' hd
          simp only [Option.some.injEq, Prod.mk.injEq] at h
          obtain ⟨rfl, rfl, rfl⟩ := h
          simp only [Bool.and_eq_true] at ht
          obtain ⟨rfl, ht⟩ := ht
          exact FinOk.of_goes (goes_must hs) (drive_sound n c' _ _ _ _ hd ht hl)
        · cases h
      · rename_i b y z b' as' hs
        split at h
        · rename_i r' ok' l' hd
          simp only [Option.some.injEq, Prod.mk.injEq] at h
          obtain ⟨rfl, rfl, rfl⟩ := h
          simp only [Bool.and_eq_true] at ht
          obtain ⟨hb, ht⟩ := ht
          have e := same_eq hb
          have gt := goes_test hs
          subst e
          have ih := drive_sound n _ _ _ _ _ hd ht hl
          cases b with
          | true => exact FinOk.of_goes gt ih
          | false => exact FinOk.of_goes gt ih
        · cases h
      · rename_i f args m ord dst c' v m1 as' hs
        split at h
        · rename_i r' ok' l' hd
          simp only [Option.some.injEq, Prod.mk.injEq] at h
          obtain ⟨rfl, rfl, rfl⟩ := h
          exact FinOk.of_goes (goes_call hs (hl _ (.head _))) (drive_sound n _ _ _ _ _ hd ht fun q hq => hl q (.tail _ hq))
        · cases h
      · rename_i o hs
        simp only [Option.some.injEq, Prod.mk.injEq] at h
        obtain ⟨rfl, _, _⟩ := h
        exact good_done hs
      · cases h

end
end Go.Am
