/-
  Every step of the executor is the machine's.
-/
import Derived.Test.YtmplfloknneaoaaAm17
import Derived.Test.YtmplfloknneaoaaAm16b
namespace Go.Am
open Go.RowKit

section
variable {P : Program} {E : Env} {g : Gh} {w : World}

theorem exitIn_erl {id : Nat} : ∀ {k k' : List It}, exitIn id k = some k' → exitTo id (erl k) = some (erl k')
  | [], _, h => by simp [exitIn] at h
  | .inBlock i :: k, k', h => by
    simp only [exitIn] at h
    cases hb : Nat.beq i id with
    | true =>
      simp only [hb, cond_true, Option.some.injEq] at h; subst h
      have := Nat.eq_of_beq_eq_true hb
      subst this
      simp [erl, er, exitTo]
    | false =>
      simp only [hb, cond_false] at h
      have hne : (i == id) = false := by
        rw [beq_eq_false_iff_ne]; intro e; subst e; simp [Nat.beq_refl] at hb
      simp only [erl, er, List.cons_append, List.nil_append, exitTo, hne, Bool.false_eq_true, if_false]
      exact exitIn_erl h
  | .code _ _ :: k, k', h => by
    simp only [exitIn] at h
    simpa [erl, er, exitTo] using exitIn_erl h
  | .ops _ _ _ _ :: k, k', h => by
    simp only [exitIn] at h
    simpa [erl, er, exitTo] using exitIn_erl h
  | .inLoop _ _ :: k, k', h => by
    simp only [exitIn] at h
    simpa [erl, er, exitTo] using exitIn_erl h
  | .forget _ :: k, k', h => by
    simp only [exitIn] at h
    simpa [erl, er] using exitIn_erl h
  | .fin :: k, k', h => by
    simp only [exitIn] at h
    simpa [erl, er] using exitIn_erl h

theorem exitIn_fin {id : Nat} : ∀ {k k' : List It}, (∀ x ∈ k, x ≠ .fin) → exitIn id k = some k' → ∀ x ∈ k', x ≠ .fin
  | [], _, _, h => by simp [exitIn] at h
  | x :: k, k', hf, h => by
    have ht : ∀ y ∈ k, y ≠ .fin := fun y hy => hf y (.tail _ hy)
    cases x with
    | inBlock i =>
      simp only [exitIn] at h
      cases hb : Nat.beq i id with
      | true => simp only [hb, cond_true, Option.some.injEq] at h; subst h; exact ht
      | false => simp only [hb, cond_false] at h; exact exitIn_fin ht h
    | _ => simp only [exitIn] at h; exact exitIn_fin ht h

theorem look_zip {g' : Gh} {ρ : Nat → Option Nat} {f : Nat → Value} : ∀ (keep : List Nat) (tm : Tms), (∀ k, VA g' w (ren ρ (look tm k)) (f k)) → ∀ k, VA g' w (look (keep.zip (renL ρ (keep.map (look tm)))) k) (f k)
  | [], tm, _, k => .junk _
  | i :: keep, tm, h, k => by
    simp only [List.map_cons, renL, List.zip_cons_cons, look_cons]
    by_cases e : i = k
    · subst e; simp only [if_true]; exact h i
    · simp only [e, if_false]; exact look_zip keep tm h k

theorem forget_ok {st : St} {a : Act} (h : SRel E g st a w) (keep : List Nat) : ∃ g', SRel E g' (forget keep st) a w ∧ Stp g st.mem w g' (forget keep st).mem w ∧ Fixed g g' st.fix ∧ (forget keep st).fix = st.fix := by
  obtain ⟨hnd, hfix⟩ := close_spec st.mem st.fix (keep.map (look st.tm))
  obtain ⟨h1, h2⟩ := h.rel.pack hnd
  have hlen : st.fix ≤ (close st.mem st.fix (keep.map (look st.tm))).length := by
    rcases Nat.eq_zero_or_pos st.fix with e | e
    · omega
    · have := lt_of_get (hfix (st.fix - 1) (by omega)); omega
  refine ⟨g.pack (close st.mem st.fix (keep.map (look st.tm))), ⟨look_zip keep st.tm fun k => (h.tm k).ren (Renames.pack g _), h.nt, h1, ?_, h.glob.mono fun _ _ p => ⟨p, rfl⟩⟩, ?_, ?_, rfl⟩
  · show st.fix ≤ (Am.pack st.mem _).length
    simpa [Am.pack] using hlen
  · exact ⟨Nat.le_refl _, fun _ _ _ => rfl, fun _ _ p => ⟨p, rfl⟩, fun _ _ p => .inl p, fun c ho => .inl (h2 c ho), rfl, rfl, rfl⟩
  · intro k c hk hc
    have := hfix k hk
    simp [Gh.pack, this, hc]

theorem forgetO_ok {st : St} {a : Act} (h : SRel E g st a w) (keep : Option (List Nat)) : ∃ g', SRel E g' (forgetO keep st) a w ∧ Stp g st.mem w g' (forgetO keep st).mem w ∧ Fixed g g' st.fix ∧ (forgetO keep st).fix = st.fix := by
  cases keep with
  | none => exact ⟨g, h, Stp.refl _ _ _, Fixed.refl _ _, rfl⟩
  | some keep => exact forget_ok h keep

theorem erl_forgets (keep : Option (List Nat)) (k : List It) : erl (forgets keep k) = erl k := by cases keep <;> rfl

theorem forgets_fin {keep : Option (List Nat)} {k : List It} (h : ∀ x ∈ k, x ≠ It.fin) : ∀ x ∈ forgets keep k, x ≠ It.fin := by
  cases keep with
  | none => exact h
  | some keep =>
    intro x hx
    cases hx with
    | head => exact fun e => by cases e
    | tail _ hx => exact h x hx

theorem step_ok {c : Cfg} {fr : Frame} (h : CRel P E g c fr w) : EvOk P E g c fr w (Am.step P E c) := by
  obtain ⟨f, todo, st⟩ := c
  cases todo with
  | nil =>
    obtain ⟨b, a, rfl, h1, h2, h3, h4, _⟩ := h
    exact ending_ok (b := b) (a := a) (todo := []) h4 h1 h2 h3 fun cs => .one step_end
  | cons x k =>
    by_cases hfin : x = .fin
    · subst hfin
      obtain ⟨h1, cv, h2, h3, h4, h5⟩ := h
      exact ⟨h1, rfl, cv, h2, h3, h4, h5⟩
    have h' : ∃ (b : Frame) (a : Act), fr = b.at a (er x ++ erl k) ∧ b.fn = f ∧ b.kind = .normal ∧ a.defers = [] ∧ SRel E g st a w ∧ ∀ y ∈ x :: k, y ≠ It.fin := by
      cases x <;> first
        | exact absurd rfl hfin
        | exact h
    obtain ⟨b, a, rfl, h1, h2, h3, h4, hxk⟩ := h'
    have hk : ∀ y ∈ k, y ≠ It.fin := fun y hy => hxk y (.tail _ hy)
    clear h
    cases x with
    | fin => exact absurd rfl hfin
    | inBlock id => exact Goes.quiet (fun cs => .one step_inBlock) hk h1 rfl h2 h3 h4 rfl rfl
    | forget keep =>
      intro cs
      obtain ⟨g', q1, q2, q3, q4⟩ := forget_ok h4 keep
      exact ⟨g', _, w, Steps.refl _ _, CRel.mk (c := ⟨f, k, forget keep st⟩) hk h1 h2 h3 q1, q2, q3, rfl, q4⟩
    | inLoop i body =>
      intro cs
      obtain ⟨g', q1, q2, q3, q4⟩ := forgetO_ok h4 (E.keep f (2 * i))
      exact ⟨g', _, w, .one step_inLoop, CRel.mk (c := ⟨f, .code (i + 1) body :: .inLoop i body :: k, forgetO (E.keep f (2 * i)) st⟩) (nf (fun e => by cases e) (nf (fun e => by cases e) hk)) h1 h2 h3 q1, q2, q3, rfl, q4⟩
    | ops rid ops i sure =>
      simp only [Am.step]
      cases ho : ops[i]? with
      | none =>
        have hi : ops.size - i = 0 := by
          have : ops.size ≤ i := by
            rcases Nat.lt_or_ge i ops.size with q | q
            · rw [Array.getElem?_eq_getElem q] at ho; cases ho
            · exact q
          omega
        refine Goes.quiet (c' := ⟨f, k, st⟩) (fun cs => .one ?_) hk h1 rfl h2 h3 h4 rfl rfl
        simp only [er, hi, List.range'_zero, List.cons_append, List.nil_append]
        exact step_region_end
      | some o =>
        obtain ⟨w1, w2, w3⟩ := wants_yes h4 (ops := ops) (o := o)
        have hi : i < ops.size := by
          rcases Nat.lt_or_ge i ops.size with q | q
          · exact q
          · rw [Array.getElem?_eq_none q] at ho; cases ho
        have skip : Region.wanted o (yielded ops a.tmps) = false → fits st o.dst = true → Goes P E g ⟨f, .ops rid ops i sure :: k, st⟩ (b.at a (er (.ops rid ops i sure) ++ erl k)) w ⟨f, .ops rid ops (i + 1) false :: k, put st o.dst (.tup [])⟩ := by
          intro hw hf cs
          have hst := step_op_skip (P := P) (b := b) (a := a) (k := erl k) (cs := cs) (w := w) (ops := ops) (i := i) (rest := List.range' (i + 1) (ops.size - (i + 1))) (by simp [ho, hw])
          simp only [ho, Option.bind_some] at hst
          rw [← range'_head hi] at hst
          have hp := h4.put (v := .tup []) (cv := undef) hf (VA.tups.2 trivial) (Ext.refl g w) h4.rel h4.fix
          refine ⟨g, _, w, .one hst, CRel.mk (a := a.put o.dst undef) (c := ⟨f, .ops rid ops (i + 1) false :: k, put st o.dst (.tup [])⟩) (nf (fun e => by cases e) hk) h1 h2 (wp_defers h3) hp, ?_, Fixed.refl _ _, rfl, ?_⟩
          · have : (put st o.dst (.tup [])).mem = st.mem := by unfold Am.put; cases o.dst <;> rfl
            show Stp g st.mem w g (put st o.dst (.tup [])).mem w
            rw [this]; exact Stp.refl _ _ _
          · show (put st o.dst (.tup [])).fix = st.fix
            unfold Am.put; cases o.dst <;> rfl
        dsimp only
        cases hwt : wants ops st.tm o with
        | yes => exact doOp_ok (c := ⟨f, .ops rid ops i sure :: k, st⟩) h4 h1 h2 h3 ho (w1 hwt) hk
        | no =>
          dsimp only
          cases hf : fits st o.dst with
          | false => trivial
          | true => exact skip (w2 hwt) hf
        | lost => trivial
        | ask d bb want =>
          obtain ⟨q1, q2⟩ := w3 d bb want hwt
          dsimp only
          cases sure with
          | false =>
            have known : ∀ b' : Bool, bb = b' → Goes P E g ⟨f, .ops rid ops i false :: k, st⟩ (b.at a (er (.ops rid ops i false) ++ erl k)) w ⟨f, .ops rid ops i true :: k, put st (some d) (sB b')⟩ := by
              intro b' e
              subst e
              refine Goes.quiet (c' := ⟨f, .ops rid ops i true :: k, put st (some d) (sB bb)⟩) (fun cs => Steps.refl _ _) (nf (fun e => by cases e) hk) h1 rfl h2 h3 (h4.known ?_) rfl rfl
              rw [q2]; exact .p _ _ (.sc _)
            exact ⟨known true, known false⟩
          | true =>
            dsimp only
            cases hb : bb == want with
            | true => exact doOp_ok (c := ⟨f, .ops rid ops i true :: k, st⟩) h4 h1 h2 h3 ho (q1.trans hb) hk
            | false =>
              dsimp only
              cases hf : fits st o.dst with
              | false => trivial
              | true => exact skip (q1.trans hb) hf
    | code i code =>
      cases code with
      | skip => exact Goes.quiet (c' := ⟨f, k, st⟩) (fun cs => .one step_skip) hk h1 rfl h2 h3 h4 rfl rfl
      | region id ops draw =>
        cases draw with
        | true =>
          simp only [Am.step]
          split
          · rename_i st' ok hq
            intro hok cs
            subst hok
            obtain ⟨g', a', w', r1, r2, r3, r4, r5, r6⟩ := draw_ok (b := b) (k := erl k) h4 h3 hq
            refine ⟨g', _, w', r1 cs, CRel.mk (a := a') (c := ⟨f, k, st'⟩) hk h1 h2 r2 r3, r4, r5, rfl, r6⟩
          · trivial
        | false =>
          refine Goes.quiet (c' := ⟨f, .ops id ops 0 false :: k, st⟩) (fun cs => .one ?_) (nf (fun e => by cases e) hk) h1 rfl h2 h3 h4 rfl rfl
          have := step_region (P := P) (b := b) (a := a) (k := erl k) (cs := cs) (w := w) (ops := ops) (id := id)
          simpa [erl, er, List.range_eq_range'] using this
      | seq x y => exact Goes.quiet (c' := ⟨f, .code i x :: .code (i + nodes x) y :: k, st⟩) (fun cs => .one step_seq) (nf (fun e => by cases e) (nf (fun e => by cases e) hk)) h1 rfl h2 h3 h4 rfl rfl
      | cond x y z =>
        simp only [Am.step]
        split
        · rename_i t hx
          have hv := ev_sound h4 x
          rw [hx, VA.pv] at hv
          generalize hz : a.eval x = cv at hv
          cases hv
          refine ⟨fun e => ?_, fun e => ?_⟩ <;> subst e
          · refine Goes.quiet (c' := ⟨f, .code (i + 1) y :: forgets (E.keep f (2 * i)) k, st⟩) (fun cs => .one ?_) (nf (fun e => by cases e) (forgets_fin hk)) h1 rfl h2 h3 h4 rfl rfl
            simp only [erl, erl_forgets]; exact step_cond hz
          · refine Goes.quiet (c' := ⟨f, .code (i + 1 + nodes y) z :: forgets (E.keep f (2 * i)) k, st⟩) (fun cs => .one ?_) (nf (fun e => by cases e) (forgets_fin hk)) h1 rfl h2 h3 h4 rfl rfl
            simp only [erl, erl_forgets]; exact step_cond hz
        · trivial
      | block id body => exact Goes.quiet (c' := ⟨f, .code i body :: .inBlock id :: k, st⟩) (fun cs => .one step_block) (nf (fun e => by cases e) (nf (fun e => by cases e) hk)) h1 rfl h2 h3 h4 rfl rfl
      | loop body =>
        intro cs
        obtain ⟨g', q1, q2, q3, q4⟩ := forgetO_ok h4 (E.keep f (2 * i))
        refine ⟨g', b.at a (erl (.code (i + 1) body :: .inLoop i body :: forgets (E.keep f (2 * i + 1)) k)), w, .one ?_, CRel.mk (c := ⟨f, .code (i + 1) body :: .inLoop i body :: forgets (E.keep f (2 * i + 1)) k, forgetO (E.keep f (2 * i)) st⟩) (nf (fun e => by cases e) (nf (fun e => by cases e) (forgets_fin hk))) h1 h2 h3 q1, q2, q3, rfl, q4⟩
        simp only [erl, erl_forgets]; exact step_loop
      | exit id =>
        simp only [Am.step]
        split
        · rename_i k' hk'
          exact Goes.quiet (c' := ⟨f, k', st⟩) (fun cs => .one (step_exit (exitIn_erl hk'))) (exitIn_fin hk hk') h1 rfl h2 h3 h4 rfl rfl
        · trivial
      | ret => exact ending_ok (b := b) (a := a) (todo := .code .ret :: erl k) h4 h1 h2 h3 fun cs => .one step_ret
      | _ => trivial

end
end Go.Am
