/-
  Trees: all ways through code at once, with callees answered by functions; a tree that is right makes its code right.
-/
import Derived.Test.YtiphaojaolcidaaDoorAm19
namespace Go.Am
open Go.RowKit

inductive Tree where
  | out (o : Out)
  | at (c : Cfg)
  | must (b : Bool) (t : Tree)
  | need (p : Prop) (t : Tree)
  | test (b : Bool) (y z : Tree)
  | call (q : Call') (t : Tree)
  | stuck

/-- Who answers calls (in regions whose order is open: 'led'); where loops are cut; where tests fork; where something must be shown; which values are told another way. Places: function, region + 1 (or 0), operation (or place in the code). -/
structure Orc where
  call : FuncId → List AV → Mem → Option (AV × Mem)
  led : FuncId → List AV → Mem → Option (AV × Mem) := fun _ _ _ => none
  cut : FuncId → Nat → Bool
  fork : FuncId → Nat → Nat → Bool
  hard : FuncId → Nat → Nat → Bool
  shape : FuncId → Nat → Nat → Option (AV → AV)

def place (c : Cfg) : Nat × Nat := match c.todo with
  | .code i _ :: _ => (0, i)
  | .ops rid _ k _ :: _ => (rid + 1, k)
  | _ => (0, 0)

def cutAt (O : Orc) (c : Cfg) : Bool := match c.todo with
  | .inLoop i _ :: _ => O.cut c.f i
  | .code i (.loop _) :: _ => O.cut c.f i
  | _ => false

def destOf (c : Cfg) : Option Tmp := match c.todo with
  | .ops _ ops k _ :: _ => match ops[k]? with
    | some o => o.dst
    | none => none
  | _ => none

def inOps (c : Cfg) : Bool := match c.todo with
  | .ops .. :: _ => true
  | _ => false

/-- A value is told another way. -/
def reshape (sh : AV → AV) (d : Tmp) (c : Cfg) : Cfg := { c with st := put c.st (some d) (sh (look c.st.tm d)) }

/-- A value that may be told another way. -/
def shaped (sh : Option (AV → AV)) (d : Option Tmp) (c : Cfg) (k : Cfg → Tree) : Tree :=
  match sh, d, inOps c with
  | some sh, some d, true => .need (look c.st.tm d = sh (look c.st.tm d)) (k (reshape sh d c))
  | _, _, _ => k c

def hardly (h b : Bool) (t : Tree) : Tree :=
  match h with
  | true => .must b t
  | false => match b with
    | true => t
    | false => .stuck

/-- What to do at the tests that fork, one after the other. -/
inductive Sc where
  | fork (y z : Sc)
  | yes (s : Sc)
  | no (s : Sc)
  | lit (s : Sc)
  | fin

/-- The calls that are asked in a region whose order is open. -/
def askOne (E : Env) (O : FuncId → List AV → Mem → Option (AV × Mem)) (o : Oper) (st : St) : List Call' :=
  match target (ev E st.tm) o with
  | some (g, args) => match O g (renL (idx (close st.mem 0 args)) args) (pack st.mem (close st.mem 0 args)) with
    | some (v, m1) => [⟨g, renL (idx (close st.mem 0 args)) args, pack st.mem (close st.mem 0 args), v, m1⟩]
    | none => []
  | none => []

def askGo (P : Program) (E : Env) (f rid : Nat) (O : FuncId → List AV → Mem → Option (AV × Mem)) (ops : Array Oper) : List Oper → Nat → St → List Call'
  | [], _, _ => []
  | o :: r, nx, st =>
    let skip := askGo P E f rid O ops r nx (put st o.dst (.tup []))
    let doIt := askOne E O o st ++ match ledOne P E f rid O nx o st with
      | some (d, nx1, _) => askGo P E f rid O ops r nx1 (put { st with mem := apply st.mem d.us } o.dst d.v)
      | none => []
    match wants ops st.tm o with
    | .yes => doIt
    | .no => skip
    | .ask _ b want => match b == want with
      | true => doIt
      | false => skip
    | .lost => []

def asked (P : Program) (E : Env) (f rid : Nat) (O : FuncId → List AV → Mem → Option (AV × Mem)) (ops : Array Oper) (st : St) : List Call' :=
  askGo P E f rid O ops (ops.toList.take (openOps ops)) st.mem.length { st with mem := st.mem ++ frees (60 + ops.size) }

def callsT : List Call' → Tree → Tree
  | [], t => t
  | q :: r, t => .call q (callsT r t)

def grow (P : Program) (E : Env) (O : Orc) : Nat → Bool → Cfg → Sc → (Out → Sc → Tree) → Tree
  | 0, _, _, _, _ => .stuck
  | n + 1, top, c, s, K => match cutAt O c with
    | true => match top, step P E c with
      | true, .next c' => .at c'
      | _, _ => .stuck
    | false => match step P E c with
      | .next c' => grow P E O n top c' s K
      | .must b c' =>
        hardly (O.hard c.f (place c).1 (place c).2) b (shaped (O.shape c.f (place c).1 (place c).2) (destOf c) c' fun c => grow P E O n top c s K)
      | .test b y z => match O.fork c.f (place c).1 (place c).2 with
        | true => match s with
          | .fork s s' => .test b (grow P E O n top y s K) (grow P E O n top z s' K)
          | .yes s => .must b (grow P E O n top y s K)
          | .no s => .must (!b) (grow P E O n top z s K)
          | .lit s => match b with
            | true => grow P E O n top y s K
            | false => grow P E O n top z s K
          | .fin => .test b (grow P E O n top y .fin K) (grow P E O n top z .fin K)
        | false => match b with
          | true => grow P E O n top y s K
          | false => grow P E O n top z s K
      | .call g args m ord dst c' => match O.call g args m with
        | some (v, m1) => .call ⟨g, args, m, v, m1⟩ (shaped (O.shape c.f (place c).1 (place c).2) (destOf c) { c' with st := back ord dst c'.st v m1 } fun c => grow P E O n top c s K)
        | none => match init P g args m with
          | some ci => grow P E O n false ci s fun o s => match o with
            | .ret v m1 => grow P E O n top { c' with st := back ord dst c'.st v m1 } s K
            | .pan u m1 => grow P E O n top (thrownAt ord c' u m1) s K
          | none => .stuck
      | .late g args m ord pv c' => match initL P g args m pv with
        | some ci => grow P E O n false ci s fun o s => match o with
          | .ret _ m1 => grow P E O n top { c' with st := back ord none c'.st (.tup []) m1 } s K
          | .pan .. => .stuck
        | none => .stuck
      | .round args m ord dst c' => match initR args m with
        | some ci => grow P E O n false ci s fun o s => match o with
          | .ret v m1 => grow P E O n top { c' with st := back ord dst c'.st v m1 } s K
          | .pan .. => .stuck
        | none => .stuck
      | .range g args m ord L c' => match O.call g args m with
       | some (v, m1) => match rangeEnd (back ord none c'.st v m1).mem L with
          | some (m2, pd) => .call ⟨g, args, m, v, m1⟩ (grow P E O n top (behind c' m2 pd) s K)
          | none => .stuck
       | none => match init P g args m with
        | some ci => grow P E O n false ci s fun o s => match o with
          | .ret v m1 => match rangeEnd (back ord none c'.st v m1).mem L with
            | some (m2, pd) => grow P E O n top (behind c' m2 pd) s K
            | none => .stuck
          | .pan .. => .stuck
        | none => .stuck
      | .draw rid ops c' => match ledRun P E c'.f rid O.led ops c'.st with
        | some (st, ok) => callsT (asked P E c'.f rid O.led ops c'.st) (hardly (O.hard c.f (place c).1 (place c).2) ok (grow P E O n top { c' with st := { st with mks := c'.st.mks, rnd := c'.st.rnd } } s K))
        | none => .stuck
      | .done o => K o s
      | _ => .stuck

def Tree.ok (P : Program) (E : Env) (o : Out) : Tree → Prop
  | .out o' => o' = o
  | .at c => Good P E c o
  | .must b t => b = true ∧ t.ok P E o
  | .need p t => p ∧ t.ok P E o
  | .test b y z => (b = true → y.ok P E o) ∧ (b = false → z.ok P E o)
  | .call q t => Does P E q.g q.args q.m q.v q.m' ∧ t.ok P E o
  | .stuck => False

section
variable {P : Program} {E : Env}

theorem reshape_ok {sh : AV → AV} {d : Tmp} {c : Cfg} {o : Out} (hin : inOps c = true) (h : look c.st.tm d = sh (look c.st.tm d)) (hg : Good P E (reshape sh d c) o) : Good P E c o := by
  intro g fr w cs hc
  have hc' : CRel P E g (reshape sh d c) fr w := by
    obtain ⟨f, todo, st⟩ := c
    cases todo with
    | nil => cases hin
    | cons x k =>
      cases x with
      | ops rid ops i sure =>
        obtain ⟨b, a, q1, q2, q3, q4, q5, q6⟩ := hc
        exact ⟨b, a, q1, q2, q3, q4, q5.known (h ▸ q5.tm d), q6⟩
      | _ => cases hin
  exact hg g fr w cs hc'

theorem hardly_ok {h b : Bool} {t : Tree} {o : Out} (k : (hardly h b t).ok P E o) : b = true ∧ t.ok P E o := by
  cases h with
  | true => exact k
  | false => cases b with
    | true => exact ⟨rfl, k⟩
    | false => exact k.elim

/-- What a tree says of a configuration. -/
def Tells (P : Program) (E : Env) (top : Bool) (c : Cfg) (K : Out → Sc → Tree) (o : Out) : Prop := (∃ o1 s1, Good P E c o1 ∧ (K o1 s1).ok P E o) ∨ (top = true ∧ Good P E c o)

theorem Tells.of_goes {top : Bool} {c c' : Cfg} {K : Out → Sc → Tree} {o : Out} (hg : ∀ g fr w, CRel P E g c fr w → Goes P E g c fr w c') (h : Tells P E top c' K o) : Tells P E top c K o := by
  rcases h with ⟨o1, s1, h1, h2⟩ | ⟨h1, h2⟩
  · exact .inl ⟨o1, s1, Good.of_goes hg h1, h2⟩
  · exact .inr ⟨h1, Good.of_goes hg h2⟩

theorem shaped_tells {top : Bool} {sh : Option (AV → AV)} {d : Option Tmp} {c : Cfg} {k : Cfg → Tree} {K : Out → Sc → Tree} {o : Out} (hk : ∀ c, (k c).ok P E o → Tells P E top c K o) (h : (shaped sh d c k).ok P E o) : Tells P E top c K o := by
  unfold shaped at h
  split at h
  · rename_i hin
    rcases hk _ h.2 with ⟨o1, s1, h1, h2⟩ | ⟨h1, h2⟩
    · exact .inl ⟨o1, s1, reshape_ok hin h.1 h1, h2⟩
    · exact .inr ⟨h1, reshape_ok hin h.1 h2⟩
  · exact hk c h

/-- Answers that are right, whatever is asked. -/
def Right (P : Program) (E : Env) (call : FuncId → List AV → Mem → Option (AV × Mem)) : Prop := ∀ g args m v m1, call g args m = some (v, m1) → Does P E g args m v m1

theorem right_none : Right P E fun _ _ _ => none := fun _ _ _ _ _ h => by cases h

theorem callsT_ok {t : Tree} {o : Out} : ∀ {l : List Call'}, (callsT l t).ok P E o → Calls' P E l ∧ t.ok P E o
  | [], h => ⟨fun _ hq => (by cases hq), h⟩
  | q :: l, h => ⟨fun q' hq => by
      cases hq with
      | head => exact h.1
      | tail _ hq => exact (callsT_ok (l := l) h.2).1 q' hq, (callsT_ok (l := l) h.2).2⟩

open Classical in
/-- Answers to some questions alone. -/
noncomputable def only (O : FuncId → List AV → Mem → Option (AV × Mem)) (l : List Call') (g : FuncId) (args : List AV) (m : Mem) : Option (AV × Mem) :=
  if ∃ q ∈ l, q.g = g ∧ q.args = args ∧ q.m = m then O g args m else none

theorem only_of {O : FuncId → List AV → Mem → Option (AV × Mem)} {l : List Call'} {g : FuncId} {args : List AV} {m : Mem} (h : ∃ q ∈ l, q.g = g ∧ q.args = args ∧ q.m = m) : only O l g args m = O g args m := by
  unfold only; rw [if_pos h]

theorem askOne_same0 {f rid : Nat} {O O' : FuncId → List AV → Mem → Option (AV × Mem)} {nx : Nat} {o : Oper} {st : St} (h : ∀ q ∈ askOne E O o st, O' q.g q.args q.m = O q.g q.args q.m) {r : Did × Nat × Bool} (hr : ledOne0 P E f rid O nx o st = some r) : ledOne0 P E f rid O' nx o st = some r := by
  unfold ledOne0 at hr ⊢
  unfold askOne at h
  cases ht : target (ev E st.tm) o with
  | none => simp only [ht] at hr ⊢; exact hr
  | some ga =>
    obtain ⟨g, args⟩ := ga
    simp only [ht] at hr h ⊢
    cases hO : O g (renL (idx (close st.mem 0 args)) args) (pack st.mem (close st.mem 0 args)) with
    | none => simp only [hO] at hr; cases hr
    | some vm =>
      obtain ⟨v, m1⟩ := vm
      simp only [hO] at h hr
      have := h _ (.head _)
      simp only at this
      rw [this, hO]
      exact hr

theorem askOne_same {f rid : Nat} {O O' : FuncId → List AV → Mem → Option (AV × Mem)} {nx : Nat} {o : Oper} {st : St} (h : ∀ q ∈ askOne E O o st, O' q.g q.args q.m = O q.g q.args q.m) {r : Did × Nat × Bool} (hr : ledOne P E f rid O nx o st = some r) : ledOne P E f rid O' nx o st = some r := by
  unfold ledOne at hr ⊢
  cases hl : ledOne0 P E f rid O nx o st with
  | none =>
    rw [hl] at hr
    unfold tellV at hr
    split at hr <;> cases hr
  | some x =>
    rw [askOne_same0 h hl]
    rw [hl] at hr
    exact hr

theorem askGo_same {f rid : Nat} {O O' : FuncId → List AV → Mem → Option (AV × Mem)} {ops : Array Oper} : ∀ (l : List Oper) (nx : Nat) (st : St) (r : St × Nat × List Did × Bool), (∀ q ∈ askGo P E f rid O ops l nx st, O' q.g q.args q.m = O q.g q.args q.m) → ledGo P E f rid O ops l nx st = some r → ledGo P E f rid O' ops l nx st = some r
  | [], _, _, _, _, h => h
  | o :: l, nx, st, r, ha, h => by
    unfold ledGo at h ⊢
    unfold askGo at ha
    have hskip : ∀ r, (∀ q ∈ askGo P E f rid O ops l nx (put st o.dst (.tup [])), O' q.g q.args q.m = O q.g q.args q.m) →
        (match ledGo P E f rid O ops l nx (put st o.dst (.tup [])) with
          | some (st', nx', ds, ok) => some (st', nx', (⟨.tup [], [], [], fun _ _ => false⟩ : Did) :: ds, fits st o.dst && ok)
          | none => none) = some r →
        (match ledGo P E f rid O' ops l nx (put st o.dst (.tup [])) with
          | some (st', nx', ds, ok) => some (st', nx', (⟨.tup [], [], [], fun _ _ => false⟩ : Did) :: ds, fits st o.dst && ok)
          | none => none) = some r := by
      intro r hq hr
      cases hg : ledGo P E f rid O ops l nx (put st o.dst (.tup [])) with
      | none => rw [hg] at hr; cases hr
      | some x => rw [askGo_same l nx _ x hq hg]; rw [hg] at hr; exact hr
    have hdo : ∀ r, (∀ q ∈ askOne E O o st ++ (match ledOne P E f rid O nx o st with
          | some (d, nx1, _) => askGo P E f rid O ops l nx1 (put { st with mem := apply st.mem d.us } o.dst d.v)
          | none => []), O' q.g q.args q.m = O q.g q.args q.m) →
        (match ledOne P E f rid O nx o st with
          | some (d, nx1, ok) => match ledGo P E f rid O ops l nx1 (put { st with mem := apply st.mem d.us } o.dst d.v) with
            | some (st', nx', ds, ok') => some (st', nx', d :: ds, ok && (fits st o.dst && ok'))
            | none => none
          | none => none) = some r →
        (match ledOne P E f rid O' nx o st with
          | some (d, nx1, ok) => match ledGo P E f rid O' ops l nx1 (put { st with mem := apply st.mem d.us } o.dst d.v) with
            | some (st', nx', ds, ok') => some (st', nx', d :: ds, ok && (fits st o.dst && ok'))
            | none => none
          | none => none) = some r := by
      intro r hq hr
      cases h1 : ledOne P E f rid O nx o st with
      | none => rw [h1] at hr; cases hr
      | some x =>
        obtain ⟨d, nx1, ok⟩ := x
        rw [askOne_same (fun q hm => hq q (List.mem_append.2 (.inl hm))) h1]
        rw [h1] at hr hq
        dsimp only at hr hq ⊢
        cases hg : ledGo P E f rid O ops l nx1 (put { st with mem := apply st.mem d.us } o.dst d.v) with
        | none => rw [hg] at hr; cases hr
        | some y => rw [askGo_same l nx1 _ y (fun q hm => hq q (List.mem_append.2 (.inr hm))) hg]; rw [hg] at hr; exact hr
    dsimp only at h ha ⊢
    cases hw : wants ops st.tm o with
    | yes => simp only [hw] at h ha ⊢; exact hdo r ha h
    | no => simp only [hw] at h ha ⊢; exact hskip r ha h
    | lost => simp only [hw] at h; cases h
    | ask d b want =>
      simp only [hw] at h ha ⊢
      cases hb : b == want with
      | true => simp only [hb] at h ha ⊢; exact hdo r ha h
      | false => simp only [hb] at h ha ⊢; exact hskip r ha h

theorem led_asked {f rid : Nat} {O : FuncId → List AV → Mem → Option (AV × Mem)} {ops : Array Oper} {st : St} {r : St × Bool} (h : ledRun P E f rid O ops st = some r) : ledRun P E f rid (only O (asked P E f rid O ops st)) ops st = some r := by
  unfold ledRun at h ⊢
  cases hg : ledGo P E f rid O ops (ops.toList.take (openOps ops)) st.mem.length { st with mem := st.mem ++ frees (60 + ops.size) } with
  | none => rw [hg] at h; cases h
  | some x =>
    rw [askGo_same (O' := only O (asked P E f rid O ops st)) _ _ _ x (fun q hq => only_of ⟨q, hq, rfl, rfl, rfl⟩) hg]
    rw [hg] at h; exact h

theorem askOne_is {O : FuncId → List AV → Mem → Option (AV × Mem)} {o : Oper} {st : St} {q : Call'} (h : q ∈ askOne E O o st) : O q.g q.args q.m = some (q.v, q.m') := by
  unfold askOne at h
  split at h
  · split at h
    · rename_i hO
      cases h with
      | head => exact hO
      | tail _ h => cases h
    · cases h
  · cases h

theorem askGo_is {f rid : Nat} {O : FuncId → List AV → Mem → Option (AV × Mem)} {ops : Array Oper} : ∀ (l : List Oper) (nx : Nat) (st : St) (q : Call'), q ∈ askGo P E f rid O ops l nx st → O q.g q.args q.m = some (q.v, q.m')
  | [], _, _, _, h => by cases h
  | o :: l, nx, st, q, h => by
    unfold askGo at h
    have hdo : q ∈ askOne E O o st ++ (match ledOne P E f rid O nx o st with
          | some (d, nx1, _) => askGo P E f rid O ops l nx1 (put { st with mem := apply st.mem d.us } o.dst d.v)
          | none => []) → O q.g q.args q.m = some (q.v, q.m') := by
      intro h
      rcases List.mem_append.1 h with h | h
      · exact askOne_is h
      · split at h
        · exact askGo_is l _ _ q h
        · cases h
    dsimp only at h
    split at h
    · exact hdo h
    · exact askGo_is l _ _ q h
    · split at h
      · exact hdo h
      · exact askGo_is l _ _ q h
    · cases h

theorem only_right {f rid : Nat} {O : FuncId → List AV → Mem → Option (AV × Mem)} {ops : Array Oper} {st : St} (h : Calls' P E (asked P E f rid O ops st)) : Right P E (only O (asked P E f rid O ops st)) := by
  intro g args m v m1 hO
  unfold only at hO
  split at hO
  · rename_i hq
    obtain ⟨q, hm, rfl, rfl, rfl⟩ := hq
    have := askGo_is _ _ _ q hm
    rw [this] at hO
    obtain ⟨rfl, rfl⟩ : q.v = v ∧ q.m' = m1 := by simpa using hO
    exact h q hm
  · cases hO

theorem grow_sound (hN : NamesOk P) {O : Orc} {o : Out} : ∀ (n : Nat) (top : Bool) (c : Cfg) (s : Sc) (K : Out → Sc → Tree), (grow P E O n top c s K).ok P E o → Tells P E top c K o
  | 0, _, _, _, _, h => h.elim
  | n + 1, top, c, s, K, h => by
    unfold grow at h
    split at h
    · split at h
      · rename_i c' hs; exact .inr ⟨rfl, Good.of_goes (goes_next hs) h⟩
      · exact h.elim
    · split at h
      · rename_i c' hs; exact Tells.of_goes (goes_next hs) (grow_sound hN n top c' s K h)
      · rename_i b c' hs
        obtain ⟨rfl, hb⟩ := hardly_ok h
        exact Tells.of_goes (goes_must hs) (shaped_tells (fun c => grow_sound hN n top c s K) hb)
      · rename_i b y z hs
        have gt := goes_test hs
        split at h
        · split at h
          · cases b with
            | true => exact Tells.of_goes gt (grow_sound hN n top y _ K (h.1 rfl))
            | false => exact Tells.of_goes gt (grow_sound hN n top z _ K (h.2 rfl))
          · obtain ⟨rfl, h⟩ := h
            exact Tells.of_goes gt (grow_sound hN n top y _ K h)
          · obtain ⟨hb, h⟩ := h
            cases b with
            | true => cases hb
            | false => exact Tells.of_goes gt (grow_sound hN n top z _ K h)
          · cases b with
            | true => exact Tells.of_goes gt (grow_sound hN n top y _ K h)
            | false => exact Tells.of_goes gt (grow_sound hN n top z _ K h)
          · cases b with
            | true => exact Tells.of_goes gt (grow_sound hN n top y _ K (h.1 rfl))
            | false => exact Tells.of_goes gt (grow_sound hN n top z _ K (h.2 rfl))
        · cases b with
          | true => exact Tells.of_goes gt (grow_sound hN n top y _ K h)
          | false => exact Tells.of_goes gt (grow_sound hN n top z _ K h)
      · rename_i f args m ord dst c' hs
        split at h
        · exact Tells.of_goes (goes_call hs h.1) (shaped_tells (fun c => grow_sound hN n top c s K) h.2)
        · split at h
          · rename_i ci hi
            rcases grow_sound hN n false ci s _ h with ⟨o1, s1, h1, h2⟩ | ⟨h1, _⟩
            · cases o1 with
              | ret v m1 => exact Tells.of_goes (goes_call hs (does_of_good hN hi h1)) (grow_sound hN n top _ s1 K h2)
              | pan v m1 => exact Tells.of_goes (goes_thrown hs (doesP_of_good hN hi h1)) (grow_sound hN n top _ s1 K h2)
            · cases h1
          · exact h.elim
      · rename_i g args m ord pv c' hs
        split at h
        · rename_i ci hi
          rcases grow_sound hN n false ci s _ h with ⟨o1, s1, h1, h2⟩ | ⟨h1, _⟩
          · cases o1 with
            | ret v m1 => exact Tells.of_goes (goes_late hs (doesL_of_good hN hi h1)) (grow_sound hN n top _ s1 K h2)
            | pan v m1 => exact h2.elim
          · cases h1
        · exact h.elim
      · rename_i args m ord dst c' hs
        split at h
        · rename_i ci hi
          rcases grow_sound hN n false ci s _ h with ⟨o1, s1, h1, h2⟩ | ⟨h1, _⟩
          · cases o1 with
            | ret v m1 => exact Tells.of_goes (goes_round hs (doesR_of_good hi h1)) (grow_sound hN n top _ s1 K h2)
            | pan v m1 => exact h2.elim
          · cases h1
        · exact h.elim
      · rename_i g args m ord L c' hs
        split at h
        · split at h
          · rename_i m2 pd hend
            exact Tells.of_goes (goes_range hs h.1 hend) (grow_sound hN n top _ s K h.2)
          · exact h.elim
        split at h
        · rename_i ci hi
          rcases grow_sound hN n false ci s _ h with ⟨o1, s1, h1, h2⟩ | ⟨h1, _⟩
          · cases o1 with
            | ret v m1 =>
              dsimp only at h2
              split at h2
              · rename_i m2 pd hend
                exact Tells.of_goes (goes_range hs (does_of_good hN hi h1) hend) (grow_sound hN n top _ s1 K h2)
              · exact h2.elim
            | pan v m1 => exact h2.elim
          · cases h1
        · exact h.elim
      · rename_i rid ops c' hs
        split at h
        · rename_i st ok hq
          obtain ⟨hcs, h⟩ := callsT_ok h
          obtain ⟨rfl, hb⟩ := hardly_ok h
          exact Tells.of_goes (goes_draw hs (only_right hcs) (led_asked hq)) (grow_sound hN n top _ s K hb)
        · exact h.elim
      · rename_i o' hs
        exact .inl ⟨o', s, good_done hs, h⟩
      · exact h.elim

def atEnd (o : Out) (_ : Sc) : Tree := .out o

theorem good_of_tree (hN : NamesOk P) {O : Orc} {n : Nat} {c : Cfg} {s : Sc} {t : Tree} {o : Out} (ht : grow P E O n true c s atEnd = t) (h : t.ok P E o) : Good P E c o := by
  subst ht
  rcases grow_sound hN n true c s atEnd h with ⟨o1, s1, h1, h2⟩ | ⟨_, h1⟩
  · have : o1 = o := h2
    exact this ▸ h1
  · exact h1

def growF (P : Program) (E : Env) (O : Orc) (n : Nat) (f : FuncId) (args : List AV) (m : Mem) (s : Sc) : Tree :=
  match init P f args m with
  | some c => grow P E O n true c s atEnd
  | none => .stuck

/-- A function, by its tree. -/
theorem does_of_tree (hN : NamesOk P) {O : Orc} {n : Nat} {f : FuncId} {args : List AV} {m m' : Mem} {s : Sc} {v : AV} {t : Tree} (ht : growF P E O n f args m s = t) (h : t.ok P E (.ret v m')) : Does P E f args m v m' := by
  subst ht
  unfold growF at h
  split at h
  · rename_i c hi; exact does_of_good hN hi (good_of_tree hN rfl h)
  · exact h.elim

theorem namesOk_of {P : Program} (h : (P.funcs.toList.all fun fn => !(fn.name == "runtime.NumGoroutine")) = true) : NamesOk P := by
  intro f fn hf
  rw [List.all_eq_true] at h
  have := h fn (by rw [← Array.getElem?_toList] at hf; exact List.mem_of_getElem? hf)
  simpa using this

/-! Loops: where their bodies begin. -/

/-- A loop in a function's code: its body, and what comes behind. -/
def findLoop (E : Env) (f t : Nat) : Code → Nat → List It → Option (Code × List It)
  | .loop b, i, k => match Nat.beq i t with
    | true => some (b, k)
    | false => findLoop E f t b (i + 1) (.inLoop i b :: forgets (E.keep f (2 * i + 1)) k)
  | .seq a b, i, k => match findLoop E f t a i (.code (i + nodes a) b :: k) with
    | some r => some r
    | none => findLoop E f t b (i + nodes a) k
  | .cond _ a b, i, k => match findLoop E f t a (i + 1) (forgets (E.keep f (2 * i)) k) with
    | some r => some r
    | none => findLoop E f t b (i + 1 + nodes a) (forgets (E.keep f (2 * i)) k)
  | .block id b, i, k => findLoop E f t b i (.inBlock id :: k)
  | .scope b, i, k => findLoop E f t b i (.inScope b :: k)
  | _, _, _ => none

/-- A loop's body begins, with these values in the slots that are kept. -/
def bodyCfg (P : Program) (E : Env) (f t : Nat) (vs : List AV) (m : Mem) (fix nt : Nat) : Cfg :=
  match P.funcs[f]? with
  | some fn => match fn.body with
    | some c => match findLoop E f t c 0 [] with
      | some (b, k) => ⟨f, .code (t + 1) b :: .inLoop t b :: forgets (E.keep f (2 * t + 1)) k, ⟨((E.keep f (2 * t)).getD []).zip vs, nt, m, fix, [], .call⟩⟩
      | none => ⟨f, [], ⟨[], 0, [], 0, [], .call⟩⟩
    | none => ⟨f, [], ⟨[], 0, [], 0, [], .call⟩⟩
  | none => ⟨f, [], ⟨[], 0, [], 0, [], .call⟩⟩

/-- Places in a list. -/
def isAt (l : List (Nat × Nat × Nat)) (f a b : Nat) : Bool := match l with
  | [] => false
  | (f', a', b') :: r => cond (Nat.beq f f') (cond (Nat.beq a a') (cond (Nat.beq b b') true (isAt r f a b)) (isAt r f a b)) (isAt r f a b)

def isCut (l : List (Nat × Nat)) (f a : Nat) : Bool := match l with
  | [] => false
  | (f', a') :: r => cond (Nat.beq f f') (cond (Nat.beq a a') true (isCut r f a)) (isCut r f a)

def orc (call : FuncId → List AV → Mem → Option (AV × Mem)) (cuts : List (Nat × Nat)) (forks hards : List (Nat × Nat × Nat)) : Orc where
  call := call
  cut := isCut cuts
  fork := isAt forks
  hard := isAt hards
  shape _ _ _ := none

/-- Which slots are kept at a loop's head: rows (function, twice the loop's place, slots). -/
def keepAt (rows : List (Nat × Nat × List Nat)) (f j : Nat) : Option (List Nat) := match rows with
  | [] => none
  | (f', j', l) :: r => cond (Nat.beq f f' && Nat.beq j j') (some l) (keepAt r f j)

def noLed (_ : FuncId) (_ : List AV) (_ : Mem) : Option (AV × Mem) := none

theorem right_noLed {P : Program} {E : Env} : Right P E noLed := right_none

/-- With answers in regions whose order is open. -/
def orcL (call led : FuncId → List AV → Mem → Option (AV × Mem)) (cuts : List (Nat × Nat)) (forks hards : List (Nat × Nat × Nat)) : Orc where
  call := call
  led := led
  cut := isCut cuts
  fork := isAt forks
  hard := isAt hards
  shape _ _ _ := none

/-- Values that are told another way: rows (function, region + 1, operation, value). -/
def shapeAt (l : List (Nat × Nat × Nat × AV)) (f a b : Nat) : Option (AV → AV) := match l with
  | [] => none
  | (f', a', b', v) :: r => cond (Nat.beq f f' && (Nat.beq a a' && Nat.beq b b')) (some fun _ => v) (shapeAt r f a b)

/-- With values that are told another way. -/
def orcS (call led : FuncId → List AV → Mem → Option (AV × Mem)) (cuts : List (Nat × Nat)) (forks hards : List (Nat × Nat × Nat)) (shape : FuncId → Nat → Nat → Option (AV → AV)) : Orc where
  call := call
  led := led
  cut := isCut cuts
  fork := isAt forks
  hard := isAt hards
  shape := shape

/-! The record of a range over a function, by its place in the code. -/

def findRange (t : Nat) : Code → Nat → Option (Array Tmp × Code × Code)
  | .rangeFunc _ ps as bd, i => cond (Nat.beq i t) (some (ps, as, bd)) none
  | .seq a b, i => match findRange t a i with
    | some r => some r
    | none => findRange t b (i + nodes a)
  | .cond _ a b, i => match findRange t a (i + 1) with
    | some r => some r
    | none => findRange t b (i + 1 + nodes a)
  | .block _ b, i => findRange t b i
  | .scope b, i => findRange t b i
  | .loop b, i => findRange t b (i + 1)
  | _, _ => none

/-- How such a record is, in a function whose first range (behind so many conditions and loops) it is. -/
def loopK (P : Program) (f t : Nat) (st : LoopState) (pd : Option Code) : ObK :=
  match P.funcs[f]? with
  | some fn => match fn.body with
    | some c => match findRange t c 0 with
      | some (ps, as, bd) => .loop f ps as bd st pd
      | none => .opq
    | none => .opq
  | none => .opq

end
end Go.Am
