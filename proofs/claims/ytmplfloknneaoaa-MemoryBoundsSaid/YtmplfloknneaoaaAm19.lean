/-
  Runs to the end, and runs along one way: what they tell is so.
-/
import Derived.Test.YtmplfloknneaoaaAm18
namespace Go.Am
open Go.RowKit

/-- No function bears the one name that the model treats by itself. -/
def NamesOk (P : Program) : Prop := ∀ (f : FuncId) (fn : Func), P.funcs[f]? = some fn → (fn.name == "runtime.NumGoroutine") = false

def Good (P : Program) (E : Env) (c : Cfg) (o : Out) : Prop :=
  ∀ (g : Gh) (fr : Frame) (w : World) (cs : List Frame), CRel P E g c fr w → match o with
    | .ret v m' => ∃ g' fr' w' cv, Steps P (lone fr cs w) (lone fr' cs w') ∧ fr'.leaving P w' (.returned cv) ∧ fr'.fn = c.f ∧ VA g' w' v cv ∧ Rel g' m' w' ∧ Stp g c.st.mem w g' m' w' ∧ Fixed g g' c.st.fix ∧ c.st.fix ≤ m'.length

section
variable {P : Program} {E : Env}

theorem Good.of_goes {c c' : Cfg} {o : Out} (hg : ∀ g fr w, CRel P E g c fr w → Goes P E g c fr w c') (h : Good P E c' o) : Good P E c o := by
  intro g fr w cs hc
  obtain ⟨g', fr', w', q1, q2, q3, q4, q5, q6⟩ := hg g fr w hc cs
  obtain ⟨v, m'⟩ := o
  obtain ⟨g2, fr2, w2, cv, r1, r2, r3, r4, r5, r6, r7, r8⟩ := h g' fr' w' cs q2
  refine ⟨g2, fr2, w2, cv, q1.trans r1, r2, r3.trans q5, r4, r5, q3.trans r6, q4.trans ?_, by rw [← q6]; exact r8⟩
  rw [← q6]; exact r7

theorem upTo_range : ∀ n, upTo n = List.range n
  | 0 => rfl
  | n + 1 => by rw [upTo, upTo_range n, List.range_succ]

theorem look_range : ∀ (l : List AV) (s k : Nat), look ((List.range' s l.length).zip l) k = if s ≤ k then l.getD (k - s) .junk else .junk
  | [], s, k => by simp [look]
  | v :: l, s, k => by
    simp only [List.length_cons, List.range'_succ, List.zip_cons_cons, look_cons]
    by_cases e : s = k
    · subst e; simp
    · simp only [e, if_false]
      rw [look_range l (s + 1) k]
      by_cases h : s + 1 ≤ k
      · have h1 : s ≤ k := by omega
        have h2 : k - s = (k - (s + 1)) + 1 := by omega
        simp [h, h1, h2]
      · have h1 : ¬ s ≤ k := by omega
        simp [h, h1]

theorem CRel.enter {g : Gh} {w : World} {f : FuncId} {args : List AV} {m : Mem} {c : Cfg} {cargs : Array Value} (hi : init P f args m = some c) (hr : Rel g m w) (ha : VAs g w args cargs.toList) (hg : GlobOk E g w) :
    CRel P E g c (Frame.enter P f cargs .normal) w := by
  unfold init at hi
  split at hi
  · rename_i fn hf
    split at hi
    · rename_i body hb
      simp only [Option.some.injEq] at hi; subst hi
      have hlen := ha.len
      simp only [Array.length_toList] at hlen
      let b : Frame := { (default : Frame) with fn := f, kind := .normal }
      have hen : Frame.enter P f cargs .normal = b.at { tmps := cargs ++ Array.replicate (fn.ntmps - cargs.size) undef, defers := [] } [.code body] := by
        simp [Frame.enter, Frame.at, hf, hb, b]
      rw [hen]
      refine CRel.mk (c := ⟨f, [.code 0 body], ⟨(upTo args.length).zip args, max fn.ntmps args.length, m, m.length⟩⟩) (nf (fun e => by cases e) (fun _ h => by cases h)) rfl rfl rfl ⟨?_, ?_, hr, Nat.le_refl _, hg⟩
      · intro k
        rw [upTo_range, List.range_eq_range', look_range]
        simp only [Nat.zero_le, if_true, Nat.sub_zero]
        rcases Nat.lt_or_ge k args.length with hk | hk
        · rw [List.getD_eq_getElem?_getD, List.getElem?_eq_getElem hk]
          have hk' : k < cargs.toList.length := by simp; omega
          have hk2 : k < cargs.size := by omega
          have := ha.get k hk hk'
          simp only [Option.getD_some, Array.getD_eq_getD_getElem?]
          rw [Array.getElem?_append_left hk2, Array.getElem?_eq_getElem hk2]
          simpa using this
        · rw [List.getD_eq_getElem?_getD, List.getElem?_eq_none hk]
          exact .junk _
      · simp; omega
    · cases hi
  · cases hi

theorem does_of_good (hN : NamesOk P) {f : FuncId} {args : List AV} {m : Mem} {c : Cfg} {v : AV} {m' : Mem} (hi : init P f args m = some c) (h : Good P E c (.ret v m')) : Does P E f args m v m' := by
  refine ⟨?_, fun g w cargs cs hr ha hg => ?_⟩
  · unfold init at hi
    split at hi
    · rename_i fn hf
      split at hi
      · rename_i body hb
        exact ⟨fn, hf, by simp [hb], hN f fn hf⟩
      · cases hi
    · cases hi
  · obtain ⟨g', fr', w', cv, q1, q2, q3, q4, q5, q6, q7, q8⟩ := h g _ w cs (CRel.enter hi hr ha hg)
    have hm : c.st.mem = m ∧ c.st.fix = m.length ∧ c.f = f := by
      unfold init at hi
      split at hi
      · split at hi
        · simp only [Option.some.injEq] at hi; subst hi; exact ⟨rfl, rfl, rfl⟩
        · cases hi
      · cases hi
    obtain ⟨e1, e2, e3⟩ := hm
    rw [e1] at q6; rw [e2] at q7 q8; rw [e3] at q3
    exact ⟨w', g', cv, fr', q1, q2, q3, q4, q5, q6, q7, q8⟩

theorem good_done {c : Cfg} {o : Out} (h : Am.step P E c = .done o) : Good P E c o := by
  intro g fr w cs hc
  have hs := step_ok hc
  rw [h] at hs
  obtain ⟨v, m'⟩ := o
  obtain ⟨h1, rfl, cv, h2, h3, h4, h5⟩ := hs
  exact ⟨g, fr, w, cv, Steps.refl _ _, h2, h1, h3, h4, Stp.refl _ _ _, Fixed.refl _ _, h5⟩

theorem goes_next {c c' : Cfg} (h : Am.step P E c = .next c') : ∀ g fr w, CRel P E g c fr w → Goes P E g c fr w c' := by
  intro g fr w hc
  have hs := step_ok hc
  rw [h] at hs; exact hs

theorem goes_must {c c' : Cfg} (h : Am.step P E c = .must true c') : ∀ g fr w, CRel P E g c fr w → Goes P E g c fr w c' := by
  intro g fr w hc
  have hs := step_ok hc
  rw [h] at hs; exact hs rfl

theorem goes_test {c y z : Cfg} {b : Bool} (h : Am.step P E c = .test b y z) : ∀ g fr w, CRel P E g c fr w → Goes P E g c fr w (match b with | true => y | false => z) := by
  intro g fr w hc
  have hs := step_ok hc
  rw [h] at hs
  cases b with
  | true => exact hs.1 rfl
  | false => exact hs.2 rfl

theorem goes_call {c c' : Cfg} {f : FuncId} {args : List AV} {m : Mem} {ord : List Nat} {dst : Option Tmp} {v : AV} {m1 : Mem} (h : Am.step P E c = .call f args m ord dst c') (hd : Does P E f args m v m1) :
    ∀ g fr w, CRel P E g c fr w → Goes P E g c fr w { c' with st := back ord dst c'.st v m1 } := by
  intro g fr w hc
  have hs := step_ok hc
  rw [h] at hs
  exact hs v m1 hd

theorem exec_sound (hN : NamesOk P) : ∀ (n : Nat) (c : Cfg) (o : Out), exec P E n c = some o → Good P E c o
  | 0, _, _, h => by cases h
  | n + 1, c, o, h => by
    unfold exec at h
    split at h
    · rename_i c' hs; exact Good.of_goes (goes_next hs) (exec_sound hN n c' o h)
    · rename_i b c' hs
      cases b with
      | false => cases h
      | true => exact Good.of_goes (goes_must hs) (exec_sound hN n c' o h)
    · rename_i b y z hs
      have := goes_test hs
      cases b with
      | true => exact Good.of_goes this (exec_sound hN n y o h)
      | false => exact Good.of_goes this (exec_sound hN n z o h)
    · rename_i g args m ord dst c' hs
      split at h
      · rename_i ci hi
        split at h
        · rename_i v m1 he
          have hd := does_of_good hN hi (exec_sound hN n ci _ he)
          exact Good.of_goes (goes_call hs hd) (exec_sound hN n _ o h)
        · cases h
      · cases h
    · cases h
    · rename_i o' hs
      simp only [Option.some.injEq] at h; subst h
      exact good_done hs
    · cases h

theorem does_of_exec (hN : NamesOk P) {n : Nat} {f : FuncId} {args : List AV} {m m' : Mem} {v : AV} (h : execF P E n f args m = some (.ret v m')) : Does P E f args m v m' := by
  unfold execF at h
  split at h
  · rename_i c hi; exact does_of_good hN hi (exec_sound hN n c _ h)
  · cases h

/-- What a run along one way tells. -/
def FinOk (P : Program) (E : Env) (c : Cfg) : Fin → Prop
  | .out o => Good P E c o
  | .at c' => ∀ o, Good P E c' o → Good P E c o

theorem FinOk.of_goes {c c' : Cfg} {r : Fin} (hg : ∀ g fr w, CRel P E g c fr w → Goes P E g c fr w c') (h : FinOk P E c' r) : FinOk P E c r := by
  cases r with
  | out o => exact Good.of_goes hg h
  | «at» c2 => exact fun o ho => Good.of_goes hg (h o ho)

theorem same_eq {b b' : Bool} (h : same b b' = true) : b = b' := by cases b <;> cases b' <;> simp_all [same]

def Calls' (P : Program) (E : Env) (l : List Call') : Prop := ∀ q ∈ l, Does P E q.g q.args q.m q.v q.m'

theorem drive_sound : ∀ (n : Nat) (c : Cfg) (as : List Ans) (r : Fin) (l : List Call'), ∀ ok, drive P E n c as = some (r, ok, l) → ok = true → Calls' P E l → FinOk P E c r
  | 0, _, _, _, _, _, h, _, _ => by cases h
  | n + 1, c, as, r, l, ok, h, ht, hl => by
    unfold drive at h
    split at h
    · split at h
      · rename_i c' hs
        simp only [Option.some.injEq, Prod.mk.injEq] at h
        obtain ⟨rfl, _, _⟩ := h
        exact fun o ho => Good.of_goes (goes_next hs) ho
      · cases h
    · split at h
      · rename_i c' hs
        exact FinOk.of_goes (goes_next hs) (drive_sound n c' _ r l ok h ht hl)
      · cases h
    · cases h
    · split at h
      · rename_i c' hs; exact FinOk.of_goes (goes_next hs) (drive_sound n c' _ r l ok h ht hl)
      · rename_i b c' hs
        split at h
        · rename_i r' ok' l' hd
          simp only [Option.some.injEq, Prod.mk.injEq] at h
          obtain ⟨rfl, rfl, rfl⟩ := h
          simp only [Bool.and_eq_true] at ht
          obtain ⟨rfl, ht⟩ := ht
          exact FinOk.of_goes (goes_must hs) (drive_sound n c' _ _ _ _ hd ht hl)
        · cases h
      · rename_i b y z b' as' hs
        split at h
        · rename_i r' ok' l' hd
          simp only [Option.some.injEq, Prod.mk.injEq] at h
          obtain ⟨rfl, rfl, rfl⟩ := h
          simp only [Bool.and_eq_true] at ht
          obtain ⟨hb, ht⟩ := ht
          have e := same_eq hb
          have gt := goes_test hs
          subst e
          have ih := drive_sound n _ _ _ _ _ hd ht hl
          cases b with
          | true => exact FinOk.of_goes gt ih
          | false => exact FinOk.of_goes gt ih
        · cases h
      · rename_i f args m ord dst c' v m1 as' hs
        split at h
        · rename_i r' ok' l' hd
          simp only [Option.some.injEq, Prod.mk.injEq] at h
          obtain ⟨rfl, rfl, rfl⟩ := h
          exact FinOk.of_goes (goes_call hs (hl _ (.head _))) (drive_sound n _ _ _ _ _ hd ht fun q hq => hl q (.tail _ hq))
        · cases h
      · rename_i o hs
        simp only [Option.some.injEq, Prod.mk.injEq] at h
        obtain ⟨rfl, _, _⟩ := h
        exact good_done hs
      · cases h

end
end Go.Am
