/-
  Trees: all ways through code at once, with callees answered by functions; a tree that is right makes its code right.
-/
import Derived.Test.YthnpfilmecibcaaGreatDoorAm19
namespace Go.Am
open Go.RowKit

inductive Tree where
  | out (o : Out)
  | at (c : Cfg)
  | must (b : Bool) (t : Tree)
  | need (p : Prop) (t : Tree)
  | test (b : Bool) (y z : Tree)
  | call (q : Call') (t : Tree)
  | stuck

/-- Who answers calls (in regions whose order is open: 'led'); where loops are cut; where tests fork; where something must be shown; which values are told another way. Places: function, region + 1 (or 0), operation (or place in the code). -/
structure Orc where
  call : FuncId → List AV → Mem → Option (AV × Mem)
  led : FuncId → List AV → Mem → Option (AV × Mem) := fun _ _ _ => none
  cut : FuncId → Nat → Bool
  fork : FuncId → Nat → Nat → Bool
  hard : FuncId → Nat → Nat → Bool
  shape : FuncId → Nat → Nat → Option (AV → AV)

def place (c : Cfg) : Nat × Nat := match c.todo with
  | .code i _ :: _ => (0, i)
  | .ops rid _ k _ :: _ => (rid + 1, k)
  | _ => (0, 0)

def cutAt (O : Orc) (c : Cfg) : Bool := match c.todo with
  | .inLoop i _ :: _ => O.cut c.f i
  | .code i (.loop _) :: _ => O.cut c.f i
  | _ => false

def destOf (c : Cfg) : Option Tmp := match c.todo with
  | .ops _ ops k _ :: _ => match ops[k]? with
    | some o => o.dst
    | none => none
  | _ => none

def inOps (c : Cfg) : Bool := match c.todo with
  | .ops .. :: _ => true
  | _ => false

/-- A value is told another way. -/
def reshape (sh : AV → AV) (d : Tmp) (c : Cfg) : Cfg := { c with st := put c.st (some d) (sh (look c.st.tm d)) }

/-- A value that may be told another way. -/
def shaped (sh : Option (AV → AV)) (d : Option Tmp) (c : Cfg) (k : Cfg → Tree) : Tree :=
  match sh, d, inOps c with
  | some sh, some d, true => .need (look c.st.tm d = sh (look c.st.tm d)) (k (reshape sh d c))
  | _, _, _ => k c

def hardly (h b : Bool) (t : Tree) : Tree :=
  match h with
  | true => .must b t
  | false => match b with
    | true => t
    | false => .stuck

/-- What to do at the tests that fork, one after the other. -/
inductive Sc where
  | fork (y z : Sc)
  | yes (s : Sc)
  | no (s : Sc)
  | lit (s : Sc)
  | fin

def grow (P : Program) (E : Env) (O : Orc) : Nat → Bool → Cfg → Sc → (Out → Sc → Tree) → Tree
  | 0, _, _, _, _ => .stuck
  | n + 1, top, c, s, K => match cutAt O c with
    | true => match top, step P E c with
      | true, .next c' => .at c'
      | _, _ => .stuck
    | false => match step P E c with
      | .next c' => grow P E O n top c' s K
      | .must b c' =>
        hardly (O.hard c.f (place c).1 (place c).2) b (shaped (O.shape c.f (place c).1 (place c).2) (destOf c) c' fun c => grow P E O n top c s K)
      | .test b y z => match O.fork c.f (place c).1 (place c).2 with
        | true => match s with
          | .fork s s' => .test b (grow P E O n top y s K) (grow P E O n top z s' K)
          | .yes s => .must b (grow P E O n top y s K)
          | .no s => .must (!b) (grow P E O n top z s K)
          | .lit s => match b with
            | true => grow P E O n top y s K
            | false => grow P E O n top z s K
          | .fin => .test b (grow P E O n top y .fin K) (grow P E O n top z .fin K)
        | false => match b with
          | true => grow P E O n top y s K
          | false => grow P E O n top z s K
      | .call g args m ord dst c' => match O.call g args m with
        | some (v, m1) => .call ⟨g, args, m, v, m1⟩ (grow P E O n top { c' with st := back ord dst c'.st v m1 } s K)
        | none => match init P g args m with
          | some ci => grow P E O n false ci s fun o s => match o with
            | .ret v m1 => grow P E O n top { c' with st := back ord dst c'.st v m1 } s K
            | .pan u m1 => grow P E O n top (thrownAt ord c' u m1) s K
          | none => .stuck
      | .late g args m ord pv c' => match initL P g args m pv with
        | some ci => grow P E O n false ci s fun o s => match o with
          | .ret _ m1 => grow P E O n top { c' with st := back ord none c'.st (.tup []) m1 } s K
          | .pan .. => .stuck
        | none => .stuck
      | .round args m ord dst c' => match initR args m with
        | some ci => grow P E O n false ci s fun o s => match o with
          | .ret v m1 => grow P E O n top { c' with st := back ord dst c'.st v m1 } s K
          | .pan .. => .stuck
        | none => .stuck
      | .range g args m ord L c' => match init P g args m with
        | some ci => grow P E O n false ci s fun o s => match o with
          | .ret v m1 => match rangeEnd (back ord none c'.st v m1).mem L with
            | some (m2, pd) => grow P E O n top (behind c' m2 pd) s K
            | none => .stuck
          | .pan .. => .stuck
        | none => .stuck
      | .draw rid ops c' => match ledRun P E c'.f rid O.led ops c'.st with
        | some (st, ok) => hardly (O.hard c.f (place c).1 (place c).2) ok (grow P E O n top { c' with st := { st with mks := c'.st.mks, rnd := c'.st.rnd } } s K)
        | none => .stuck
      | .done o => K o s
      | _ => .stuck

def Tree.ok (P : Program) (E : Env) (o : Out) : Tree → Prop
  | .out o' => o' = o
  | .at c => Good P E c o
  | .must b t => b = true ∧ t.ok P E o
  | .need p t => p ∧ t.ok P E o
  | .test b y z => (b = true → y.ok P E o) ∧ (b = false → z.ok P E o)
  | .call q t => Does P E q.g q.args q.m q.v q.m' ∧ t.ok P E o
  | .stuck => False

section
variable {P : Program} {E : Env}

theorem reshape_ok {sh : AV → AV} {d : Tmp} {c : Cfg} {o : Out} (hin : inOps c = true) (h : look c.st.tm d = sh (look c.st.tm d)) (hg : Good P E (reshape sh d c) o) : Good P E c o := by
  intro g fr w cs hc
  have hc' : CRel P E g (reshape sh d c) fr w := by
    obtain ⟨f, todo, st⟩ := c
    cases todo with
    | nil => cases hin
    | cons x k =>
      cases x with
      | ops rid ops i sure =>
        obtain ⟨b, a, q1, q2, q3, q4, q5, q6⟩ := hc
        exact ⟨b, a, q1, q2, q3, q4, q5.known (h ▸ q5.tm d), q6⟩
      | _ => cases hin
  exact hg g fr w cs hc'

theorem hardly_ok {h b : Bool} {t : Tree} {o : Out} (k : (hardly h b t).ok P E o) : b = true ∧ t.ok P E o := by
  cases h with
  | true => exact k
  | false => cases b with
    | true => exact ⟨rfl, k⟩
    | false => exact k.elim

/-- What a tree says of a configuration. -/
def Tells (P : Program) (E : Env) (top : Bool) (c : Cfg) (K : Out → Sc → Tree) (o : Out) : Prop := (∃ o1 s1, Good P E c o1 ∧ (K o1 s1).ok P E o) ∨ (top = true ∧ Good P E c o)

theorem Tells.of_goes {top : Bool} {c c' : Cfg} {K : Out → Sc → Tree} {o : Out} (hg : ∀ g fr w, CRel P E g c fr w → Goes P E g c fr w c') (h : Tells P E top c' K o) : Tells P E top c K o := by
  rcases h with ⟨o1, s1, h1, h2⟩ | ⟨h1, h2⟩
  · exact .inl ⟨o1, s1, Good.of_goes hg h1, h2⟩
  · exact .inr ⟨h1, Good.of_goes hg h2⟩

theorem shaped_tells {top : Bool} {sh : Option (AV → AV)} {d : Option Tmp} {c : Cfg} {k : Cfg → Tree} {K : Out → Sc → Tree} {o : Out} (hk : ∀ c, (k c).ok P E o → Tells P E top c K o) (h : (shaped sh d c k).ok P E o) : Tells P E top c K o := by
  unfold shaped at h
  split at h
  · rename_i hin
    rcases hk _ h.2 with ⟨o1, s1, h1, h2⟩ | ⟨h1, h2⟩
    · exact .inl ⟨o1, s1, reshape_ok hin h.1 h1, h2⟩
    · exact .inr ⟨h1, reshape_ok hin h.1 h2⟩
  · exact hk c h

/-- Answers that are right, whatever is asked. -/
def Right (P : Program) (E : Env) (call : FuncId → List AV → Mem → Option (AV × Mem)) : Prop := ∀ g args m v m1, call g args m = some (v, m1) → Does P E g args m v m1

theorem right_none : Right P E fun _ _ _ => none := fun _ _ _ _ _ h => by cases h

theorem grow_sound (hN : NamesOk P) {O : Orc} (hL : Right P E O.led) {o : Out} : ∀ (n : Nat) (top : Bool) (c : Cfg) (s : Sc) (K : Out → Sc → Tree), (grow P E O n top c s K).ok P E o → Tells P E top c K o
  | 0, _, _, _, _, h => h.elim
  | n + 1, top, c, s, K, h => by
    unfold grow at h
    split at h
    · split at h
      · rename_i c' hs; exact .inr ⟨rfl, Good.of_goes (goes_next hs) h⟩
      · exact h.elim
    · split at h
      · rename_i c' hs; exact Tells.of_goes (goes_next hs) (grow_sound hN hL n top c' s K h)
      · rename_i b c' hs
        obtain ⟨rfl, hb⟩ := hardly_ok h
        exact Tells.of_goes (goes_must hs) (shaped_tells (fun c => grow_sound hN hL n top c s K) hb)
      · rename_i b y z hs
        have gt := goes_test hs
        split at h
        · split at h
          · cases b with
            | true => exact Tells.of_goes gt (grow_sound hN hL n top y _ K (h.1 rfl))
            | false => exact Tells.of_goes gt (grow_sound hN hL n top z _ K (h.2 rfl))
          · obtain ⟨rfl, h⟩ := h
            exact Tells.of_goes gt (grow_sound hN hL n top y _ K h)
          · obtain ⟨hb, h⟩ := h
            cases b with
            | true => cases hb
            | false => exact Tells.of_goes gt (grow_sound hN hL n top z _ K h)
          · cases b with
            | true => exact Tells.of_goes gt (grow_sound hN hL n top y _ K h)
            | false => exact Tells.of_goes gt (grow_sound hN hL n top z _ K h)
          · cases b with
            | true => exact Tells.of_goes gt (grow_sound hN hL n top y _ K (h.1 rfl))
            | false => exact Tells.of_goes gt (grow_sound hN hL n top z _ K (h.2 rfl))
        · cases b with
          | true => exact Tells.of_goes gt (grow_sound hN hL n top y _ K h)
          | false => exact Tells.of_goes gt (grow_sound hN hL n top z _ K h)
      · rename_i f args m ord dst c' hs
        split at h
        · exact Tells.of_goes (goes_call hs h.1) (grow_sound hN hL n top _ s K h.2)
        · split at h
          · rename_i ci hi
            rcases grow_sound hN hL n false ci s _ h with ⟨o1, s1, h1, h2⟩ | ⟨h1, _⟩
            · cases o1 with
              | ret v m1 => exact Tells.of_goes (goes_call hs (does_of_good hN hi h1)) (grow_sound hN hL n top _ s1 K h2)
              | pan v m1 => exact Tells.of_goes (goes_thrown hs (doesP_of_good hN hi h1)) (grow_sound hN hL n top _ s1 K h2)
            · cases h1
          · exact h.elim
      · rename_i g args m ord pv c' hs
        split at h
        · rename_i ci hi
          rcases grow_sound hN hL n false ci s _ h with ⟨o1, s1, h1, h2⟩ | ⟨h1, _⟩
          · cases o1 with
            | ret v m1 => exact Tells.of_goes (goes_late hs (doesL_of_good hN hi h1)) (grow_sound hN hL n top _ s1 K h2)
            | pan v m1 => exact h2.elim
          · cases h1
        · exact h.elim
      · rename_i args m ord dst c' hs
        split at h
        · rename_i ci hi
          rcases grow_sound hN hL n false ci s _ h with ⟨o1, s1, h1, h2⟩ | ⟨h1, _⟩
          · cases o1 with
            | ret v m1 => exact Tells.of_goes (goes_round hs (doesR_of_good hi h1)) (grow_sound hN hL n top _ s1 K h2)
            | pan v m1 => exact h2.elim
          · cases h1
        · exact h.elim
      · rename_i g args m ord L c' hs
        split at h
        · rename_i ci hi
          rcases grow_sound hN hL n false ci s _ h with ⟨o1, s1, h1, h2⟩ | ⟨h1, _⟩
          · cases o1 with
            | ret v m1 =>
              dsimp only at h2
              split at h2
              · rename_i m2 pd hend
                exact Tells.of_goes (goes_range hs (does_of_good hN hi h1) hend) (grow_sound hN hL n top _ s1 K h2)
              · exact h2.elim
            | pan v m1 => exact h2.elim
          · cases h1
        · exact h.elim
      · rename_i rid ops c' hs
        split at h
        · rename_i st ok hq
          obtain ⟨rfl, hb⟩ := hardly_ok h
          exact Tells.of_goes (goes_draw hs hL hq) (grow_sound hN hL n top _ s K hb)
        · exact h.elim
      · rename_i o' hs
        exact .inl ⟨o', s, good_done hs, h⟩
      · exact h.elim

def atEnd (o : Out) (_ : Sc) : Tree := .out o

theorem good_of_tree (hN : NamesOk P) {O : Orc} (hL : Right P E O.led) {n : Nat} {c : Cfg} {s : Sc} {t : Tree} {o : Out} (ht : grow P E O n true c s atEnd = t) (h : t.ok P E o) : Good P E c o := by
  subst ht
  rcases grow_sound hN hL n true c s atEnd h with ⟨o1, s1, h1, h2⟩ | ⟨_, h1⟩
  · have : o1 = o := h2
    exact this ▸ h1
  · exact h1

def growF (P : Program) (E : Env) (O : Orc) (n : Nat) (f : FuncId) (args : List AV) (m : Mem) (s : Sc) : Tree :=
  match init P f args m with
  | some c => grow P E O n true c s atEnd
  | none => .stuck

/-- A function, by its tree. -/
theorem does_of_tree (hN : NamesOk P) {O : Orc} (hL : Right P E O.led) {n : Nat} {f : FuncId} {args : List AV} {m m' : Mem} {s : Sc} {v : AV} {t : Tree} (ht : growF P E O n f args m s = t) (h : t.ok P E (.ret v m')) : Does P E f args m v m' := by
  subst ht
  unfold growF at h
  split at h
  · rename_i c hi; exact does_of_good hN hi (good_of_tree hN hL rfl h)
  · exact h.elim

theorem namesOk_of {P : Program} (h : (P.funcs.toList.all fun fn => !(fn.name == "runtime.NumGoroutine")) = true) : NamesOk P := by
  intro f fn hf
  rw [List.all_eq_true] at h
  have := h fn (by rw [← Array.getElem?_toList] at hf; exact List.mem_of_getElem? hf)
  simpa using this

/-! Loops: where their bodies begin. -/

/-- A loop in a function's code: its body, and what comes behind. -/
def findLoop (E : Env) (f t : Nat) : Code → Nat → List It → Option (Code × List It)
  | .loop b, i, k => match Nat.beq i t with
    | true => some (b, k)
    | false => findLoop E f t b (i + 1) (.inLoop i b :: forgets (E.keep f (2 * i + 1)) k)
  | .seq a b, i, k => match findLoop E f t a i (.code (i + nodes a) b :: k) with
    | some r => some r
    | none => findLoop E f t b (i + nodes a) k
  | .cond _ a b, i, k => match findLoop E f t a (i + 1) (forgets (E.keep f (2 * i)) k) with
    | some r => some r
    | none => findLoop E f t b (i + 1 + nodes a) (forgets (E.keep f (2 * i)) k)
  | .block id b, i, k => findLoop E f t b i (.inBlock id :: k)
  | .scope b, i, k => findLoop E f t b i (.inScope b :: k)
  | _, _, _ => none

/-- A loop's body begins, with these values in the slots that are kept. -/
def bodyCfg (P : Program) (E : Env) (f t : Nat) (vs : List AV) (m : Mem) (fix nt : Nat) : Cfg :=
  match P.funcs[f]? with
  | some fn => match fn.body with
    | some c => match findLoop E f t c 0 [] with
      | some (b, k) => ⟨f, .code (t + 1) b :: .inLoop t b :: forgets (E.keep f (2 * t + 1)) k, ⟨((E.keep f (2 * t)).getD []).zip vs, nt, m, fix, [], .call⟩⟩
      | none => ⟨f, [], ⟨[], 0, [], 0, [], .call⟩⟩
    | none => ⟨f, [], ⟨[], 0, [], 0, [], .call⟩⟩
  | none => ⟨f, [], ⟨[], 0, [], 0, [], .call⟩⟩

/-- Places in a list. -/
def isAt (l : List (Nat × Nat × Nat)) (f a b : Nat) : Bool := match l with
  | [] => false
  | (f', a', b') :: r => cond (Nat.beq f f') (cond (Nat.beq a a') (cond (Nat.beq b b') true (isAt r f a b)) (isAt r f a b)) (isAt r f a b)

def isCut (l : List (Nat × Nat)) (f a : Nat) : Bool := match l with
  | [] => false
  | (f', a') :: r => cond (Nat.beq f f') (cond (Nat.beq a a') true (isCut r f a)) (isCut r f a)

def orc (call : FuncId → List AV → Mem → Option (AV × Mem)) (cuts : List (Nat × Nat)) (forks hards : List (Nat × Nat × Nat)) : Orc where
  call := call
  cut := isCut cuts
  fork := isAt forks
  hard := isAt hards
  shape _ _ _ := none

/-- Which slots are kept at a loop's head: rows (function, twice the loop's place, slots). -/
def keepAt (rows : List (Nat × Nat × List Nat)) (f j : Nat) : Option (List Nat) := match rows with
  | [] => none
  | (f', j', l) :: r => cond (Nat.beq f f' && Nat.beq j j') (some l) (keepAt r f j)

def noLed (_ : FuncId) (_ : List AV) (_ : Mem) : Option (AV × Mem) := none

theorem right_noLed {P : Program} {E : Env} : Right P E noLed := right_none

/-- With answers in regions whose order is open. -/
def orcL (call led : FuncId → List AV → Mem → Option (AV × Mem)) (cuts : List (Nat × Nat)) (forks hards : List (Nat × Nat × Nat)) : Orc where
  call := call
  led := led
  cut := isCut cuts
  fork := isAt forks
  hard := isAt hards
  shape _ _ _ := none

end
end Go.Am
