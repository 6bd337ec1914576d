/-
  Lists of instructions: how many there are, how deep they stand, what holds of all of them; the same of stacks of such lists.
-/
import Derived.Test.YtjjloibfhgofcaaDoorInsB
namespace Go.Am

mutual
/-- Does it hold of an instruction and of all in it? -/
def okI (p : Ins → Bool) : Ins → Bool
  | .mk op r a b n tags l e => p (.mk op r a b n tags l e) && (okL p l && okL p e)
def okL (p : Ins → Bool) : List Ins → Bool
  | [] => true
  | x :: r => okI p x && okL p r
end

mutual
/-- How many instructions. -/
def numI : Ins → Nat
  | .mk _ _ _ _ _ _ l e => 1 + numL l + numL e
def numL : List Ins → Nat
  | [] => 0
  | x :: r => numI x + numL r
end

mutual
/-- How deep the deepest stands, where these stand so deep. -/
def depI : Nat → Ins → Nat
  | d, .mk _ _ _ _ _ _ l e => max d (max (depL (d + 1) l) (depL (d + 1) e))
def depL : Nat → List Ins → Nat
  | _, [] => 0
  | d, x :: r => max (depI d x) (depL d r)
end

mutual
/-- How many labels one has at most. -/
def tagI : Ins → Nat
  | .mk _ _ _ _ _ tags l e => max tags.length (max (tagL l) (tagL e))
def tagL : List Ins → Nat
  | [] => 0
  | x :: r => max (tagI x) (tagL r)
end

theorem numL_length : ∀ l : List Ins, l.length ≤ numL l
  | [] => Nat.zero_le _
  | .mk _ _ _ _ _ t l e :: r => by have := numL_length r; simp only [numL, numI, List.length_cons]; omega

mutual
theorem numI_cnt : ∀ x : Ins, numI x ≤ cntI x
  | .mk _ _ _ _ _ t l e => by have := numL_cnt l; have := numL_cnt e; simp only [numI, cntI]; omega
theorem numL_cnt : ∀ l : List Ins, numL l ≤ cntL l
  | [] => Nat.zero_le _
  | x :: r => by have := numI_cnt x; have := numL_cnt r; simp only [numL, cntL]; omega
end

mutual
theorem tagI_cnt : ∀ x : Ins, tagI x ≤ cntI x
  | .mk _ _ _ _ _ t l e => by have := tagL_cnt l; have := tagL_cnt e; simp only [tagI, cntI]; omega
theorem tagL_cnt : ∀ l : List Ins, tagL l ≤ cntL l
  | [] => Nat.zero_le _
  | x :: r => by have := tagI_cnt x; have := tagL_cnt r; simp only [tagL, cntL]; omega
end

mutual
theorem depI_num : ∀ (d : Nat) (x : Ins), depI d x ≤ d + numI x
  | d, .mk _ _ _ _ _ t l e => by have := depL_num (d + 1) l; have := depL_num (d + 1) e; simp only [depI, numI]; omega
theorem depL_num : ∀ (d : Nat) (l : List Ins), depL d l ≤ d + numL l
  | _, [] => Nat.zero_le _
  | d, x :: r => by have := depI_num d x; have := depL_num d r; simp only [depL, numL]; omega
end

mutual
/-- Depth from a place on. -/
theorem depI_shift : ∀ (d : Nat) (x : Ins), depI (d + 1) x = depI d x + 1
  | d, .mk _ _ _ _ _ t l e => by
    have h1 := depL_shift (d + 1) l
    have h2 := depL_shift (d + 1) e
    simp only [depI]
    cases l with
    | nil => cases e with
      | nil => simp [depL]
      | cons y e => rw [h2 (by simp)]; simp only [depL]; omega
    | cons x l => cases e with
      | nil => rw [h1 (by simp)]; simp only [depL]; omega
      | cons y e => rw [h1 (by simp), h2 (by simp)]; omega
theorem depL_shift : ∀ (d : Nat) (l : List Ins), l ≠ [] → depL (d + 1) l = depL d l + 1
  | _, [], h => absurd rfl h
  | d, x :: r, _ => by
    have h1 := depI_shift d x
    cases r with
    | nil => simp only [depL, h1]; omega
    | cons y r => rw [depL, depL_shift d (y :: r) (by simp), h1, depL.eq_2 d x]; omega
end

/-- A list of instructions; an instruction. -/
abbrev aL (l : List Ins) : AV := .p (.ps l.length 8 (encL l))
def aggI (op r a b nn : Int) (tg : List Int) (ll le : List Ins) : AV := .agg [sI .i64 op, sI .i64 r, sI .u32 a, sI .u32 b, sI .i32 nn, .p (.ps tg.length 1 (encT .u32 tg)), aL ll, aL le]
def aggX : Ins → AV
  | .mk op r a b nn tg ll le => aggI op r a b nn tg ll le

theorem aL_inj {l m : List Ins} (h : aL l = aL m) : l = m := by
  simp only [AV.p.injEq, PV.ps.injEq] at h
  exact encL_inj h.2.2

/-- The cells of the instruction at a place, one by one. -/
theorem cells_at {l : List Ins} {k : Nat} {op rs a b nn : Int} {tags : List Int} {ll le : List Ins} (h : l[k]? = some (.mk op rs a b nn tags ll le)) :
    (encL l).getD (k * 8) .bad = .sc (.int .i64 op) ∧ (encL l).getD (k * 8 + 1) .bad = .sc (.int .i64 rs) ∧ (encL l).getD (k * 8 + 2) .bad = .sc (.int .u32 a) ∧ (encL l).getD (k * 8 + 3) .bad = .sc (.int .u32 b) ∧
      (encL l).getD (k * 8 + 4) .bad = .sc (.int .i32 nn) ∧ (encL l).getD (k * 8 + 5) .bad = .ps tags.length 1 (encT .u32 tags) ∧ (encL l).getD (k * 8 + 6) .bad = .ps ll.length 8 (encL ll) ∧ (encL l).getD (k * 8 + 7) .bad = .ps le.length 8 (encL le) :=
  have hc := encL_getD h
  ⟨hc 0 (by omega), hc 1 (by omega), hc 2 (by omega), hc 3 (by omega), hc 4 (by omega), hc 5 (by omega), hc 6 (by omega), hc 7 (by omega)⟩

theorem i64N {n : Nat} (h : n ≤ 9223372036854775807) : IntKind.i64.wrap (n : Int) = n := i64In (by omega) (by omega)

/-! Stacks. -/

abbrev InsS := List (List Ins × Nat)

def encS (st : InsS) : List PV := st.flatMap fun e => [.ps e.1.length 8 (encL e.1), .sc (.int .i64 e.2)]
def okS (p : Ins → Bool) (st : InsS) : Bool := st.all fun e => okL p e.1
def numS (st : InsS) : Nat := (st.map fun e => numL e.1).sum
def depS (st : InsS) : Nat := (st.map fun e => depL e.2 e.1).foldr max 0
def tagS (st : InsS) : Nat := (st.map fun e => tagL e.1).foldr max 0
/-- What is left to do. -/
def wS (st : InsS) : Nat := (st.map fun e => 2 * numL e.1 + 1).sum

theorem encS_length : ∀ st : InsS, (encS st).length = st.length * 2
  | [] => rfl
  | e :: st => by rw [encS, List.flatMap_cons, List.length_append, List.length_cons]; have := encS_length st; rw [encS] at this; rw [this]; simp; omega

theorem encS_append (s t : InsS) : encS (s ++ t) = encS s ++ encS t := by simp [encS]

theorem foldr_max (s : List Nat) (b : Nat) : s.foldr max b = max (s.foldr max 0) b := by
  induction s with
  | nil => simp
  | cons a s ih => simp only [List.foldr_cons, ih]; omega

theorem okS_append (p : Ins → Bool) (s t : InsS) : okS p (s ++ t) = (okS p s && okS p t) := by simp [okS]
theorem numS_append (s t : InsS) : numS (s ++ t) = numS s + numS t := by simp [numS]
theorem wS_append (s t : InsS) : wS (s ++ t) = wS s + wS t := by simp [wS]
theorem depS_append (s t : InsS) : depS (s ++ t) = max (depS s) (depS t) := by simp only [depS, List.map_append, List.foldr_append]; rw [foldr_max]
theorem tagS_append (s t : InsS) : tagS (s ++ t) = max (tagS s) (tagS t) := by simp only [tagS, List.map_append, List.foldr_append]; rw [foldr_max]

@[simp] theorem okS_one (p : Ins → Bool) (l : List Ins) (d : Nat) : okS p [(l, d)] = okL p l := by simp [okS]
@[simp] theorem numS_one (l : List Ins) (d : Nat) : numS [(l, d)] = numL l := by simp [numS]
@[simp] theorem wS_one (l : List Ins) (d : Nat) : wS [(l, d)] = 2 * numL l + 1 := by simp [wS]
@[simp] theorem depS_one (l : List Ins) (d : Nat) : depS [(l, d)] = depL d l := by simp [depS]
@[simp] theorem tagS_one (l : List Ins) (d : Nat) : tagS [(l, d)] = tagL l := by simp [tagS]

theorem wS_length : ∀ st : InsS, st.length ≤ wS st
  | [] => Nat.zero_le _
  | e :: st => by have := wS_length st; simp only [wS, List.map_cons, List.sum_cons, List.length_cons] at this ⊢; omega

/-- A list that is told for a stack: its first cells are the stack's. -/
def StkAt (st : InsS) (cells : List AV) : Prop := cells.take (st.length * 2) = (encS st).map .p

theorem StkAt.len {st : InsS} {cells : List AV} (h : StkAt st cells) : st.length * 2 ≤ cells.length := by
  have := congrArg List.length h
  rw [List.length_take, List.length_map, encS_length] at this
  omega

/-- The topmost. -/
theorem StkAt.top {st : InsS} {x : List Ins} {d : Nat} {cells : List AV} (h : StkAt (st ++ [(x, d)]) cells) : cells.getD (st.length * 2) .junk = .p (.ps x.length 8 (encL x)) ∧ cells.getD (st.length * 2 + 1) .junk = .p (.sc (.int .i64 d)) := by
  have hl := h.len
  simp only [List.length_append, List.length_cons, List.length_nil] at hl
  have get : ∀ j, j < 2 → cells.getD (st.length * 2 + j) .junk = ((encS (st ++ [(x, d)])).map AV.p).getD (st.length * 2 + j) .junk := by
    intro j hj
    rw [← show cells.take ((st ++ [(x, d)]).length * 2) = _ from h, List.getD_eq_getElem?_getD, List.getD_eq_getElem?_getD, List.getElem?_take_of_lt (by simp only [List.length_append, List.length_cons, List.length_nil]; omega)]
  have g0 := get 0 (by omega)
  have g1 := get 1 (by omega)
  rw [encS_append, List.map_append, List.getD_eq_getElem?_getD (l := List.map AV.p (encS st) ++ _), List.getElem?_append_right (by simp [encS_length])] at g0 g1
  simp only [List.length_map, encS_length] at g0 g1
  rw [show st.length * 2 + 0 - st.length * 2 = 0 by omega] at g0
  rw [show st.length * 2 + 1 - st.length * 2 = 1 by omega] at g1
  exact ⟨by simpa [encS] using g0, by simpa [encS] using g1⟩

theorem StkAt.pop {st : InsS} {e : List Ins × Nat} {cells : List AV} (h : StkAt (st ++ [e]) cells) : StkAt st cells := by
  unfold StkAt at h ⊢
  have := congrArg (List.take (st.length * 2)) h
  rw [List.take_take, encS_append, List.map_append, List.take_left' (by simp [encS_length])] at this
  rw [← this]; congr 1
  simp only [List.length_append, List.length_cons, List.length_nil]; omega

theorem StkAt.keep {st : InsS} {cells : List AV} (h : StkAt st cells) : StkAt st (cells.map keepP) := by
  unfold StkAt at h ⊢
  rw [← List.map_take, h, List.map_map]; rfl

theorem StkAt.push {st : InsS} {cells : List AV} (h : StkAt st cells) (x : List Ins) (d : Nat) : StkAt (st ++ [(x, d)]) (cells.take (st.length * 2) ++ [.p (.ps x.length 8 (encL x)), .p (.sc (.int .i64 d))]) := by
  have hl := h.len
  unfold StkAt at h ⊢
  rw [List.take_of_length_le (by simp; omega), h, encS_append, List.map_append]; rfl

end Go.Am
