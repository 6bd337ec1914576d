/-
  Lists of instructions: what a row's data says of them, as pure values. (For any program with such a type.)
  Lists of numbers and of instructions in cells: what stands at a place; how many parts there are.
  Lists of instructions: how many there are, how deep they stand, what holds of all of them; the same of stacks of such lists.
  Lists of instructions: induction by what stands in the lists; functions of a list's cells.
  One instruction's data, as a pure value.
  The door: the environment (the library's tables), the names.
-/
import Derived.Test.YtgbphddecpjlhaaGreatDoorMG
import Derived.Test.YtgbphddecpjlhaaGreatDoorChecked
import Derived.Test.YtgbphddecpjlhaaGreatDoorMF
import GoSem.PinnedTables

section
namespace Go.Am
open Go.RowKit

/-- An instruction: its operation, results, words, number, labels, lists. -/
inductive Ins where
  | mk (op results a b n : Int) (tags : List Int) (l e : List Ins)

namespace Ins
def op : Ins → Int | .mk op _ _ _ _ _ _ _ => op
def results : Ins → Int | .mk _ r _ _ _ _ _ _ => r
def a : Ins → Int | .mk _ _ a _ _ _ _ _ => a
def b : Ins → Int | .mk _ _ _ b _ _ _ _ => b
def n : Ins → Int | .mk _ _ _ _ n _ _ _ => n
def tags : Ins → List Int | .mk _ _ _ _ _ t _ _ => t
def l : Ins → List Ins | .mk _ _ _ _ _ _ l _ => l
def e : Ins → List Ins | .mk _ _ _ _ _ _ _ e => e
end Ins

def encT (k : IntKind) (l : List Int) : List PV := l.map fun t => .sc (.int k t)

mutual
def encI : Ins → List PV
  | .mk op r a b n tags l e => [.sc (.int .i64 op), .sc (.int .i64 r), .sc (.int .u32 a), .sc (.int .u32 b), .sc (.int .i32 n), .ps tags.length 1 (encT .u32 tags), .ps l.length 8 (encL l), .ps e.length 8 (encL e)]
def encL : List Ins → List PV
  | [] => []
  | x :: r => encI x ++ encL r
end

mutual
def wfI : Ins → Prop
  | .mk op r a b n tags l e => (Lit.int .i64 op).wf = true ∧ (Lit.int .i64 r).wf = true ∧ (Lit.int .u32 a).wf = true ∧ (Lit.int .u32 b).wf = true ∧ (Lit.int .i32 n).wf = true ∧ (tags.length ≤ maxLen ∧ ∀ t ∈ tags, (Lit.int .u32 t).wf = true) ∧ (l.length ≤ maxLen ∧ wfL l) ∧ e.length ≤ maxLen ∧ wfL e
def wfL : List Ins → Prop
  | [] => True
  | x :: r => wfI x ∧ wfL r
end

theorem encL_flat : ∀ l : List Ins, encL l = l.flatMap encI
  | [] => rfl
  | x :: r => by rw [encL, encL_flat r]; rfl

theorem wfL_all : ∀ {l : List Ins}, (∀ x ∈ l, wfI x) → wfL l
  | [], _ => trivial
  | x :: _, h => ⟨h x (.head _), wfL_all fun y hy => h y (.tail _ hy)⟩

theorem encI_length : ∀ x : Ins, (encI x).length = 8
  | .mk .. => rfl

theorem encL_length : ∀ l : List Ins, (encL l).length = l.length * 8
  | [] => rfl
  | x :: r => by rw [encL, List.length_append, encI_length, encL_length r, List.length_cons]; omega

/-- The types of instructions in a program. -/
structure InsT (P : Program) (tL tI ti tu tn tt : TypeId) (fs : Array Field) : Prop where
  hL : P.underlying tL = some (.slice tI)
  hI : P.underlying tI = some (.struct fs)
  hz : P.cellsOf tI = 8
  hf : fs.toList.map (fun f => (f.offset, f.type)) = [(0, ti), (1, ti), (2, tu), (3, tu), (4, tn), (5, tt), (6, tL), (7, tL)]
  h1 : P.cellsOf ti = 1 ∧ P.cellsOf tu = 1 ∧ P.cellsOf tn = 1 ∧ P.cellsOf tt = 1 ∧ P.cellsOf tL = 1
  ki : P.underlying ti = some (.int .i64)
  ku : P.underlying tu = some (.int .u32)
  kn : P.underlying tn = some (.int .i32)
  kt : P.underlying tt = some (.slice tu)

section
variable {H : Type} {enc : TypeId × Value → H} {P : Program} {w : World} {base : Nat} {spare : Nat → Bool} {held : Bool} {tL tI ti tu tn tt : TypeId} {fs : Array Field}

theorem fld {i : Nat} {o t : Nat} (hf : (fs.toList.map fun f => (f.offset, f.type))[i]? = some (o, t)) : ∃ f, fs[i]? = some f ∧ f.offset = o ∧ f.type = t := by
  rw [List.getElem?_map] at hf
  cases h : fs.toList[i]? with
  | none => rw [h] at hf; cases hf
  | some f =>
    rw [h] at hf
    simp only [Option.map_some, Option.some.injEq, Prod.mk.injEq] at hf
    exact ⟨f, by simpa using h, hf.1, hf.2⟩

theorem CellsOk.cat {w : World} {x : PV} {l : List PV} {v : Value} {cs : List Value} (h : CellsOk w [x] [v]) (k : CellsOk w l cs) : CellsOk w (x :: l) (v :: cs) := h.append k

theorem ins_of_trod (T : InsT P tL tI ti tu tn tt fs) : ∀ (fuel : Nat) (cs : List Value) (x : DataW H × List MemPlace), DataW.trod enc P w base spare held fuel tL cs = some x →
    ∃ l : List Ins, (l.length ≤ maxLen ∧ wfL l) ∧ CellsOk w [.ps l.length 8 (encL l)] cs := by
  intro fuel
  induction fuel using Nat.strongRecOn with
  | ind fuel ih =>
    intro cs x h
    obtain ⟨xs, h0, h1, h2⟩ := cells_of_slice (encE := encI) (wf := wfI) T.hL (by rw [T.hz]; omega) h fun n hn us y hy => by
      obtain ⟨m, rfl, hlen, hg⟩ := cells_of_struct T.hI hy
      rw [T.hz] at hlen
      have get : ∀ (i : Nat) (o t : Nat), [(0, ti), (1, ti), (2, tu), (3, tu), (4, tn), (5, tt), (6, tL), (7, tL)][i]? = some (o, t) → P.cellsOf t = 1 → ∃ y, DataW.trod enc P w base spare held m t ((us.drop o).take 1) = some y := by
        intro i o t hi hc
        obtain ⟨f, q1, q2, q3⟩ := fld (fs := fs) (i := i) (by rw [T.hf]; exact hi)
        obtain ⟨y, hy⟩ := hg i f q1
        rw [q2, q3, hc] at hy
        exact ⟨y, hy⟩
      obtain ⟨c1, c2, c3, c4, c5⟩ := T.h1
      obtain ⟨y0, e0⟩ := get 0 0 ti rfl c1
      obtain ⟨y1, e1⟩ := get 1 1 ti rfl c1
      obtain ⟨y2, e2⟩ := get 2 2 tu rfl c2
      obtain ⟨y3, e3⟩ := get 3 3 tu rfl c2
      obtain ⟨y4, e4⟩ := get 4 4 tn rfl c3
      obtain ⟨y5, e5⟩ := get 5 5 tt rfl c4
      obtain ⟨y6, e6⟩ := get 6 6 tL rfl c5
      obtain ⟨y7, e7⟩ := get 7 7 tL rfl c5
      match us, hlen with
      | [u0, u1, u2, u3, u4, u5, u6, u7], _ =>
        simp only [List.drop_zero, List.drop_succ_cons, List.take_succ_cons, List.take_zero] at e0 e1 e2 e3 e4 e5 e6 e7
        obtain ⟨n0, w0, k0⟩ := cells_of_int T.ki e0
        obtain ⟨n1, w1, k1⟩ := cells_of_int T.ki e1
        obtain ⟨n2, w2, k2⟩ := cells_of_int T.ku e2
        obtain ⟨n3, w3, k3⟩ := cells_of_int T.ku e3
        obtain ⟨n4, w4, k4⟩ := cells_of_int T.kn e4
        obtain ⟨n5, w5, w5', k5⟩ := cells_of_ints T.kt T.ku c2 e5
        obtain ⟨n6, w6, k6⟩ := ih m (by omega) _ _ e6
        obtain ⟨n7, w7, k7⟩ := ih m (by omega) _ _ e7
        exact ⟨.mk n0 n1 n2 n3 n4 n5 n6 n7, ⟨w0, w1, w2, w3, w4, ⟨w5, w5'⟩, w6, w7⟩, k0.cat (k1.cat (k2.cat (k3.cat (k4.cat (k5.cat (k6.cat k7))))))⟩
    refine ⟨xs, ⟨h0, wfL_all h1⟩, ?_⟩
    rw [T.hz, ← encL_flat] at h2
    exact h2

end
end Go.Am
end

section
namespace Go.Am

theorem encT_getD (k : IntKind) (l : List Int) (n : Nat) (h : n < l.length) : (encT k l).getD n .bad = .sc (.int k (l.getD n 0)) := by
  simp [encT, List.getD_eq_getElem?_getD, List.getElem?_eq_getElem h]

theorem encT_bad (k : IntKind) (l : List Int) (n : Nat) (h : l.length ≤ n) : (encT k l).getD n .bad = .bad := by
  simp [encT, List.getD_eq_getElem?_getD, List.getElem?_eq_none h]

@[simp] theorem pvInt_encT (k : IntKind) (l : List Int) (n : Nat) : pvInt ((encT k l).getD n .bad) = l.getD n 0 := by
  rcases Nat.lt_or_ge n l.length with h | h
  · rw [encT_getD k l n h]; rfl
  · rw [encT_bad k l n h]
    simp [List.getD_eq_getElem?_getD, List.getElem?_eq_none h]
    rfl

@[simp] theorem isInt_encT (k : IntKind) (l : List Int) (n : Nat) : isInt k ((encT k l).getD n .bad) = decide (n < l.length) := by
  rcases Nat.lt_or_ge n l.length with h | h
  · rw [encT_getD k l n h]; simp [isInt, h]
  · rw [encT_bad k l n h]; simp [isInt]; omega

theorem encT_inj {k : IntKind} : ∀ {l m : List Int}, encT k l = encT k m → l = m
  | [], [], _ => rfl
  | [], _ :: _, h => by simp [encT] at h
  | _ :: _, [], h => by simp [encT] at h
  | a :: l, b :: m, h => by
    simp only [encT, List.map_cons, List.cons.injEq, PV.sc.injEq, Value.int.injEq, true_and] at h
    rw [h.1, encT_inj (l := l) (m := m) h.2]

mutual
theorem encI_inj : ∀ {x y : Ins}, encI x = encI y → x = y
  | .mk op r a b n tags l e, .mk op' r' a' b' n' tags' l' e', h => by
    simp only [encI, List.cons.injEq, PV.sc.injEq, Value.int.injEq, PV.ps.injEq, true_and, and_true] at h
    obtain ⟨rfl, rfl, rfl, rfl, rfl, ⟨_, h5⟩, ⟨_, h6⟩, _, h7⟩ := h
    rw [encT_inj h5, encL_inj h6, encL_inj h7]
theorem encL_inj : ∀ {l m : List Ins}, encL l = encL m → l = m
  | [], [], _ => rfl
  | [], .mk .. :: _, h => by simp [encL, encI] at h
  | .mk .. :: _, [], h => by simp [encL, encI] at h
  | x :: l, y :: m, h => by
    simp only [encL] at h
    obtain ⟨h1, h2⟩ := List.append_inj h (by rw [encI_length, encI_length])
    rw [encI_inj h1, encL_inj h2]
end

/-- The cells of the instruction at a place. -/
theorem encL_getD : ∀ {l : List Ins} {k : Nat} {x : Ins}, l[k]? = some x → ∀ c, c < 8 → (encL l).getD (k * 8 + c) .bad = (encI x).getD c .bad
  | [], _, _, h, _, _ => by simp at h
  | y :: l, 0, x, h, c, hc => by
    simp only [List.getElem?_cons_zero, Option.some.injEq] at h; subst h
    rw [encL, Nat.zero_mul, Nat.zero_add, List.getD_eq_getElem?_getD, List.getD_eq_getElem?_getD, List.getElem?_append_left (by rw [encI_length]; exact hc)]
  | y :: l, k + 1, x, h, c, hc => by
    have ih := encL_getD (l := l) (k := k) (x := x) (by simpa using h) c hc
    rw [List.getD_eq_getElem?_getD] at ih
    rw [encL, List.getD_eq_getElem?_getD, List.getElem?_append_right (by rw [encI_length]; omega), encI_length, show (k + 1) * 8 + c - 8 = k * 8 + c by omega]
    exact ih

theorem encL_append : ∀ l m : List Ins, encL (l ++ m) = encL l ++ encL m
  | [], _ => rfl
  | x :: l, m => by rw [List.cons_append, encL, encL, encL_append l m, List.append_assoc]

theorem encL_one (x : Ins) : encL [x] = encI x := by simp [encL]

theorem wfL_mem : ∀ {l : List Ins} {x : Ins}, wfL l → x ∈ l → wfI x
  | _ :: _, _, h, .head _ => h.1
  | _ :: _, _, h, .tail _ hx => wfL_mem h.2 hx

mutual
/-- How many instructions and labels there are. -/
def cntI : Ins → Nat
  | .mk _ _ _ _ _ tags l e => 1 + tags.length + cntL l + cntL e
def cntL : List Ins → Nat
  | [] => 0
  | x :: r => cntI x + cntL r
end

theorem cntL_length : ∀ l : List Ins, l.length ≤ cntL l
  | [] => Nat.zero_le _
  | .mk _ _ _ _ _ t l e :: r => by have := cntL_length r; simp only [cntL, cntI, List.length_cons]; omega

theorem cntL_mem : ∀ {l : List Ins} {x : Ins}, x ∈ l → cntI x ≤ cntL l
  | y :: l, x, h => by
    simp only [cntL]
    cases h with
    | head => omega
    | tail _ h => have := cntL_mem h; omega

mutual
/-- How many 'Instrs' tells, from a number on: as far as they are no more than so many. -/
def insF : List Ins → Int → Int → Int
  | [], _, n => n
  | x :: r, most, n => if n ≤ most then insF r most (insX x most n) else n
def insX : Ins → Int → Int → Int
  | .mk _ _ _ _ _ tags l e, most, n =>
    let n1 := n + 1 + min (tags.length : Int) most
    let n2 := if n1 ≤ most then n1 + insF l (most - n1) 0 else n1
    if n2 ≤ most then n2 + insF e (most - n2) 0 else n2
end

mutual
theorem insX_range : ∀ (x : Ins) (most n : Int), 0 ≤ n → n ≤ most → n ≤ insX x most n ∧ insX x most n ≤ 2 * most + 1
  | .mk _ _ _ _ _ tags l e, most, n, h0, h => by
    simp only [insX]
    generalize hn1 : n + 1 + min (tags.length : Int) most = n1
    have h1 : n + 1 ≤ n1 ∧ n1 ≤ 2 * most + 1 := by omega
    generalize hn2 : (if n1 ≤ most then n1 + insF l (most - n1) 0 else n1) = n2
    have h2 : n1 ≤ n2 ∧ n2 ≤ 2 * most + 1 := by
      rw [← hn2]
      split
      · have := insF_range l (most - n1) 0 (by omega) (by omega) (by omega); omega
      · omega
    split
    · have := insF_range e (most - n2) 0 (by omega) (by omega) (by omega); omega
    · omega
theorem insF_range : ∀ (l : List Ins) (most n : Int), 0 ≤ most → 0 ≤ n → n ≤ 2 * most + 1 → n ≤ insF l most n ∧ insF l most n ≤ 2 * most + 1
  | [], most, n, _, _, h => by simp only [insF]; omega
  | x :: r, most, n, hm, h0, h => by
    simp only [insF]
    split
    · have h1 := insX_range x most n h0 (by omega)
      have h2 := insF_range r most (insX x most n) hm (by omega) (by omega)
      omega
    · omega
end

mutual
theorem insX_cnt : ∀ (x : Ins) (most n : Int), 0 ≤ n → n ≤ most → insX x most n ≤ most → insX x most n = n + cntI x
  | .mk _ _ _ _ _ tags l e, most, n, h0, h => by
    simp only [insX, cntI]
    generalize hn1 : n + 1 + min (tags.length : Int) most = n1
    generalize hn2 : (if n1 ≤ most then n1 + insF l (most - n1) 0 else n1) = n2
    intro h3
    have hle : n2 ≤ most := by
      split at h3
      · rename_i q; exact q
      · exact h3
    rw [if_pos hle] at h3 ⊢
    have hr2 := insF_range e (most - n2) 0 (by omega) (by omega) (by omega)
    have hle1 : n1 ≤ most := by
      rw [← hn2] at hle
      split at hle
      · rename_i q; exact q
      · exact hle
    rw [if_pos hle1] at hn2
    have hr1 := insF_range l (most - n1) 0 (by omega) (by omega) (by omega)
    have e1 := insF_cnt l (most - n1) 0 (by omega) (by omega) (by omega)
    have e2 := insF_cnt e (most - n2) 0 (by omega) (by omega) (by omega)
    have : min (tags.length : Int) most = tags.length := by omega
    push_cast
    omega
theorem insF_cnt : ∀ (l : List Ins) (most n : Int), 0 ≤ most → 0 ≤ n → insF l most n ≤ most → insF l most n = n + cntL l
  | [], most, n, _, _, h => by simp [insF, cntL]
  | x :: r, most, n, hm, h0, h => by
    simp only [insF, cntL] at h ⊢
    split at h
    · rename_i hn
      rw [if_pos hn]
      have hr := insX_range x most n h0 hn
      have hr2 := insF_range r most (insX x most n) hm (by omega) (by omega)
      have e1 := insX_cnt x most n h0 hn (by omega)
      have e2 := insF_cnt r most (insX x most n) hm (by omega) h
      push_cast
      omega
    · omega
end

end Go.Am
end

section
namespace Go.Am

mutual
/-- Does it hold of an instruction and of all in it? -/
def okI (p : Ins → Bool) : Ins → Bool
  | .mk op r a b n tags l e => p (.mk op r a b n tags l e) && (okL p l && okL p e)
def okL (p : Ins → Bool) : List Ins → Bool
  | [] => true
  | x :: r => okI p x && okL p r
end

mutual
/-- How many instructions. -/
def numI : Ins → Nat
  | .mk _ _ _ _ _ _ l e => 1 + numL l + numL e
def numL : List Ins → Nat
  | [] => 0
  | x :: r => numI x + numL r
end

mutual
/-- How deep the deepest stands, where these stand so deep. -/
def depI : Nat → Ins → Nat
  | d, .mk _ _ _ _ _ _ l e => max d (max (depL (d + 1) l) (depL (d + 1) e))
def depL : Nat → List Ins → Nat
  | _, [] => 0
  | d, x :: r => max (depI d x) (depL d r)
end

mutual
/-- How many labels one has at most. -/
def tagI : Ins → Nat
  | .mk _ _ _ _ _ tags l e => max tags.length (max (tagL l) (tagL e))
def tagL : List Ins → Nat
  | [] => 0
  | x :: r => max (tagI x) (tagL r)
end

theorem numL_length : ∀ l : List Ins, l.length ≤ numL l
  | [] => Nat.zero_le _
  | .mk _ _ _ _ _ t l e :: r => by have := numL_length r; simp only [numL, numI, List.length_cons]; omega

mutual
theorem numI_cnt : ∀ x : Ins, numI x ≤ cntI x
  | .mk _ _ _ _ _ t l e => by have := numL_cnt l; have := numL_cnt e; simp only [numI, cntI]; omega
theorem numL_cnt : ∀ l : List Ins, numL l ≤ cntL l
  | [] => Nat.zero_le _
  | x :: r => by have := numI_cnt x; have := numL_cnt r; simp only [numL, cntL]; omega
end

mutual
theorem tagI_cnt : ∀ x : Ins, tagI x ≤ cntI x
  | .mk _ _ _ _ _ t l e => by have := tagL_cnt l; have := tagL_cnt e; simp only [tagI, cntI]; omega
theorem tagL_cnt : ∀ l : List Ins, tagL l ≤ cntL l
  | [] => Nat.zero_le _
  | x :: r => by have := tagI_cnt x; have := tagL_cnt r; simp only [tagL, cntL]; omega
end

mutual
theorem depI_num : ∀ (d : Nat) (x : Ins), depI d x ≤ d + numI x
  | d, .mk _ _ _ _ _ t l e => by have := depL_num (d + 1) l; have := depL_num (d + 1) e; simp only [depI, numI]; omega
theorem depL_num : ∀ (d : Nat) (l : List Ins), depL d l ≤ d + numL l
  | _, [] => Nat.zero_le _
  | d, x :: r => by have := depI_num d x; have := depL_num d r; simp only [depL, numL]; omega
end

mutual
/-- Depth from a place on. -/
theorem depI_shift : ∀ (d : Nat) (x : Ins), depI (d + 1) x = depI d x + 1
  | d, .mk _ _ _ _ _ t l e => by
    have h1 := depL_shift (d + 1) l
    have h2 := depL_shift (d + 1) e
    simp only [depI]
    cases l with
    | nil => cases e with
      | nil => simp [depL]
      | cons y e => rw [h2 (by simp)]; simp only [depL]; omega
    | cons x l => cases e with
      | nil => rw [h1 (by simp)]; simp only [depL]; omega
      | cons y e => rw [h1 (by simp), h2 (by simp)]; omega
theorem depL_shift : ∀ (d : Nat) (l : List Ins), l ≠ [] → depL (d + 1) l = depL d l + 1
  | _, [], h => absurd rfl h
  | d, x :: r, _ => by
    have h1 := depI_shift d x
    cases r with
    | nil => simp only [depL, h1]; omega
    | cons y r => rw [depL, depL_shift d (y :: r) (by simp), h1, depL.eq_2 d x]; omega
end

/-- A list of instructions; an instruction. -/
abbrev aL (l : List Ins) : AV := .p (.ps l.length 8 (encL l))
def aggI (op r a b nn : Int) (tg : List Int) (ll le : List Ins) : AV := .agg [sI .i64 op, sI .i64 r, sI .u32 a, sI .u32 b, sI .i32 nn, .p (.ps tg.length 1 (encT .u32 tg)), aL ll, aL le]
def aggX : Ins → AV
  | .mk op r a b nn tg ll le => aggI op r a b nn tg ll le

theorem aL_inj {l m : List Ins} (h : aL l = aL m) : l = m := by
  simp only [AV.p.injEq, PV.ps.injEq] at h
  exact encL_inj h.2.2

/-- The cells of the instruction at a place, one by one. -/
theorem cells_at {l : List Ins} {k : Nat} {op rs a b nn : Int} {tags : List Int} {ll le : List Ins} (h : l[k]? = some (.mk op rs a b nn tags ll le)) :
    (encL l).getD (k * 8) .bad = .sc (.int .i64 op) ∧ (encL l).getD (k * 8 + 1) .bad = .sc (.int .i64 rs) ∧ (encL l).getD (k * 8 + 2) .bad = .sc (.int .u32 a) ∧ (encL l).getD (k * 8 + 3) .bad = .sc (.int .u32 b) ∧
      (encL l).getD (k * 8 + 4) .bad = .sc (.int .i32 nn) ∧ (encL l).getD (k * 8 + 5) .bad = .ps tags.length 1 (encT .u32 tags) ∧ (encL l).getD (k * 8 + 6) .bad = .ps ll.length 8 (encL ll) ∧ (encL l).getD (k * 8 + 7) .bad = .ps le.length 8 (encL le) :=
  have hc := encL_getD h
  ⟨hc 0 (by omega), hc 1 (by omega), hc 2 (by omega), hc 3 (by omega), hc 4 (by omega), hc 5 (by omega), hc 6 (by omega), hc 7 (by omega)⟩

theorem i64N {n : Nat} (h : n ≤ 9223372036854775807) : IntKind.i64.wrap (n : Int) = n := i64In (by omega) (by omega)

/-! Stacks. -/

abbrev InsS := List (List Ins × Nat)

def encS (st : InsS) : List PV := st.flatMap fun e => [.ps e.1.length 8 (encL e.1), .sc (.int .i64 e.2)]
def okS (p : Ins → Bool) (st : InsS) : Bool := st.all fun e => okL p e.1
def numS (st : InsS) : Nat := (st.map fun e => numL e.1).sum
def depS (st : InsS) : Nat := (st.map fun e => depL e.2 e.1).foldr max 0
def tagS (st : InsS) : Nat := (st.map fun e => tagL e.1).foldr max 0
/-- What is left to do. -/
def wS (st : InsS) : Nat := (st.map fun e => 2 * numL e.1 + 1).sum

theorem encS_length : ∀ st : InsS, (encS st).length = st.length * 2
  | [] => rfl
  | e :: st => by rw [encS, List.flatMap_cons, List.length_append, List.length_cons]; have := encS_length st; rw [encS] at this; rw [this]; simp; omega

theorem encS_append (s t : InsS) : encS (s ++ t) = encS s ++ encS t := by simp [encS]

theorem foldr_max (s : List Nat) (b : Nat) : s.foldr max b = max (s.foldr max 0) b := by
  induction s with
  | nil => simp
  | cons a s ih => simp only [List.foldr_cons, ih]; omega

theorem okS_append (p : Ins → Bool) (s t : InsS) : okS p (s ++ t) = (okS p s && okS p t) := by simp [okS]
theorem numS_append (s t : InsS) : numS (s ++ t) = numS s + numS t := by simp [numS]
theorem wS_append (s t : InsS) : wS (s ++ t) = wS s + wS t := by simp [wS]
theorem depS_append (s t : InsS) : depS (s ++ t) = max (depS s) (depS t) := by simp only [depS, List.map_append, List.foldr_append]; rw [foldr_max]
theorem tagS_append (s t : InsS) : tagS (s ++ t) = max (tagS s) (tagS t) := by simp only [tagS, List.map_append, List.foldr_append]; rw [foldr_max]

@[simp] theorem okS_one (p : Ins → Bool) (l : List Ins) (d : Nat) : okS p [(l, d)] = okL p l := by simp [okS]
@[simp] theorem numS_one (l : List Ins) (d : Nat) : numS [(l, d)] = numL l := by simp [numS]
@[simp] theorem wS_one (l : List Ins) (d : Nat) : wS [(l, d)] = 2 * numL l + 1 := by simp [wS]
@[simp] theorem depS_one (l : List Ins) (d : Nat) : depS [(l, d)] = depL d l := by simp [depS]
@[simp] theorem tagS_one (l : List Ins) (d : Nat) : tagS [(l, d)] = tagL l := by simp [tagS]

theorem wS_length : ∀ st : InsS, st.length ≤ wS st
  | [] => Nat.zero_le _
  | e :: st => by have := wS_length st; simp only [wS, List.map_cons, List.sum_cons, List.length_cons] at this ⊢; omega

/-- A list that is told for a stack: its first cells are the stack's. -/
def StkAt (st : InsS) (cells : List AV) : Prop := cells.take (st.length * 2) = (encS st).map .p

theorem StkAt.len {st : InsS} {cells : List AV} (h : StkAt st cells) : st.length * 2 ≤ cells.length := by
  have := congrArg List.length h
  rw [List.length_take, List.length_map, encS_length] at this
  omega

/-- The topmost. -/
theorem StkAt.top {st : InsS} {x : List Ins} {d : Nat} {cells : List AV} (h : StkAt (st ++ [(x, d)]) cells) : cells.getD (st.length * 2) .junk = .p (.ps x.length 8 (encL x)) ∧ cells.getD (st.length * 2 + 1) .junk = .p (.sc (.int .i64 d)) := by
  have hl := h.len
  simp only [List.length_append, List.length_cons, List.length_nil] at hl
  have get : ∀ j, j < 2 → cells.getD (st.length * 2 + j) .junk = ((encS (st ++ [(x, d)])).map AV.p).getD (st.length * 2 + j) .junk := by
    intro j hj
    rw [← show cells.take ((st ++ [(x, d)]).length * 2) = _ from h, List.getD_eq_getElem?_getD, List.getD_eq_getElem?_getD, List.getElem?_take_of_lt (by simp only [List.length_append, List.length_cons, List.length_nil]; omega)]
  have g0 := get 0 (by omega)
  have g1 := get 1 (by omega)
  rw [encS_append, List.map_append, List.getD_eq_getElem?_getD (l := List.map AV.p (encS st) ++ _), List.getElem?_append_right (by simp [encS_length])] at g0 g1
  simp only [List.length_map, encS_length] at g0 g1
  rw [show st.length * 2 + 0 - st.length * 2 = 0 by omega] at g0
  rw [show st.length * 2 + 1 - st.length * 2 = 1 by omega] at g1
  exact ⟨by simpa [encS] using g0, by simpa [encS] using g1⟩

theorem StkAt.pop {st : InsS} {e : List Ins × Nat} {cells : List AV} (h : StkAt (st ++ [e]) cells) : StkAt st cells := by
  unfold StkAt at h ⊢
  have := congrArg (List.take (st.length * 2)) h
  rw [List.take_take, encS_append, List.map_append, List.take_left' (by simp [encS_length])] at this
  rw [← this]; congr 1
  simp only [List.length_append, List.length_cons, List.length_nil]; omega

theorem StkAt.keep {st : InsS} {cells : List AV} (h : StkAt st cells) : StkAt st (cells.map keepP) := by
  unfold StkAt at h ⊢
  rw [← List.map_take, h, List.map_map]; rfl

theorem StkAt.push {st : InsS} {cells : List AV} (h : StkAt st cells) (x : List Ins) (d : Nat) : StkAt (st ++ [(x, d)]) (cells.take (st.length * 2) ++ [.p (.ps x.length 8 (encL x)), .p (.sc (.int .i64 d))]) := by
  have hl := h.len
  unfold StkAt at h ⊢
  rw [List.take_of_length_le (by simp; omega), h, encS_append, List.map_append]; rfl

end Go.Am
end

section
namespace Go.Am

/-- By what stands in the lists. -/
theorem ins_rec {Q : List Ins → Prop} (h : ∀ l, (∀ x ∈ l, Q x.l ∧ Q x.e) → Q l) : ∀ l, Q l := by
  have key : ∀ (N : Nat) (l : List Ins), numL l ≤ N → Q l := by
    intro N
    induction N with
    | zero =>
      intro l hl
      cases l with
      | nil => exact h [] (fun _ hx => by cases hx)
      | cons x r => cases x; simp only [numL, numI] at hl; omega
    | succ N ih =>
      intro l hl
      refine h l fun x hx => ?_
      have hn : numI x ≤ numL l := by
        clear hl
        induction l with
        | nil => cases hx
        | cons y r ih2 =>
          simp only [numL]
          cases hx with
          | head => omega
          | tail _ hx => have := ih2 hx; omega
      obtain ⟨op, rs, a, b, nn, tg, ll, le⟩ := x
      simp only [numI] at hn
      exact ⟨ih ll (by omega), ih le (by omega)⟩
  exact fun l => key _ l (Nat.le_refl _)

theorem numL_mem {l : List Ins} {x : Ins} (hx : x ∈ l) : numI x ≤ numL l := by
  induction l with
  | nil => cases hx
  | cons y r ih =>
    simp only [numL]
    cases hx with
    | head => omega
    | tail _ hx => have := ih hx; omega

open Classical in
/-- What a function of lists tells of the list of these cells. -/
noncomputable def ofCells {α : Type} (d : α) (F : List Ins → α) (cs : List PV) : α := if h : ∃ l, cs = encL l then F h.choose else d

theorem ofCells_eq {α : Type} (d : α) (F : List Ins → α) (l : List Ins) : ofCells d F (encL l) = F l := by
  have h : ∃ l', encL l = encL l' := ⟨l, rfl⟩
  unfold ofCells
  rw [dif_pos h, ← encL_inj h.choose_spec]

end Go.Am
end

section
namespace Go.Am
open Go.RowKit

section
variable {H : Type} {enc : TypeId × Value → H} {P : Program} {w : World} {base : Nat} {spare : Nat → Bool} {held : Bool} {tL tI ti tu tn tt : TypeId} {fs : Array Field}

theorem insOne_of_trod (T : InsT P tL tI ti tu tn tt fs) {fuel : Nat} {cs : List Value} {x : DataW H × List MemPlace} (h : DataW.trod enc P w base spare held fuel tI cs = some x) :
    ∃ y : Ins, wfI y ∧ CellsOk w (encI y) cs := by
  obtain ⟨m, rfl, hlen, hg⟩ := cells_of_struct T.hI h
  rw [T.hz] at hlen
  have get : ∀ (i : Nat) (o t : Nat), [(0, ti), (1, ti), (2, tu), (3, tu), (4, tn), (5, tt), (6, tL), (7, tL)][i]? = some (o, t) → P.cellsOf t = 1 → ∃ y, DataW.trod enc P w base spare held m t ((cs.drop o).take 1) = some y := by
    intro i o t hi hc
    obtain ⟨f, q1, q2, q3⟩ := fld (fs := fs) (i := i) (by rw [T.hf]; exact hi)
    obtain ⟨y, hy⟩ := hg i f q1
    rw [q2, q3, hc] at hy
    exact ⟨y, hy⟩
  obtain ⟨c1, c2, c3, c4, c5⟩ := T.h1
  obtain ⟨y0, e0⟩ := get 0 0 ti rfl c1
  obtain ⟨y1, e1⟩ := get 1 1 ti rfl c1
  obtain ⟨y2, e2⟩ := get 2 2 tu rfl c2
  obtain ⟨y3, e3⟩ := get 3 3 tu rfl c2
  obtain ⟨y4, e4⟩ := get 4 4 tn rfl c3
  obtain ⟨y5, e5⟩ := get 5 5 tt rfl c4
  obtain ⟨y6, e6⟩ := get 6 6 tL rfl c5
  obtain ⟨y7, e7⟩ := get 7 7 tL rfl c5
  match cs, hlen with
  | [u0, u1, u2, u3, u4, u5, u6, u7], _ =>
    simp only [List.drop_zero, List.drop_succ_cons, List.take_succ_cons, List.take_zero] at e0 e1 e2 e3 e4 e5 e6 e7
    obtain ⟨n0, w0, k0⟩ := cells_of_int T.ki e0
    obtain ⟨n1, w1, k1⟩ := cells_of_int T.ki e1
    obtain ⟨n2, w2, k2⟩ := cells_of_int T.ku e2
    obtain ⟨n3, w3, k3⟩ := cells_of_int T.ku e3
    obtain ⟨n4, w4, k4⟩ := cells_of_int T.kn e4
    obtain ⟨n5, w5, w5', k5⟩ := cells_of_ints T.kt T.ku c2 e5
    obtain ⟨n6, w6, k6⟩ := ins_of_trod T m _ _ e6
    obtain ⟨n7, w7, k7⟩ := ins_of_trod T m _ _ e7
    exact ⟨.mk n0 n1 n2 n3 n4 n5 n6 n7, ⟨w0, w1, w2, w3, w4, ⟨w5, w5'⟩, w6, w7⟩, k0.cat (k1.cat (k2.cat (k3.cat (k4.cat (k5.cat (k6.cat k7))))))⟩

theorem vas_of_vps {g : Gh} {w : World} : ∀ {l : List PV} {cs : List Value}, VPs g w l cs → VAs g w (l.map .p) cs
  | [], [], _ => trivial
  | _ :: _, _ :: _, h => ⟨.p _ _ h.1, vas_of_vps h.2⟩
  | [], _ :: _, h => h.elim
  | _ :: _, [], h => h.elim

/-- An instruction that is handed in. -/
theorem va_ins {g : Gh} {w : World} {y : Ins} {cs : Array Value} (h : VPs g w (encI y) cs.toList) : VA g w (aggX y) (.agg cs) := by
  obtain ⟨op, r, a, b, n, tg, l, e⟩ := y
  rw [show aggX (.mk op r a b n tg l e) = .agg ((encI (.mk op r a b n tg l e)).map .p) from rfl, VA.aggs]
  exact vas_of_vps h

end
end Go.Am
end

section
namespace Go.Proofs.YtgbphddecpjlhaaGreatDoor.N
open Go Go.Am

def spaceZ : List Int := [0, 0, 0, 0, 0, 0, 0, 0, 0, 1, 1, 1, 1, 1, 0, 0, 0, 0, 0, 0, 0, 0, 0, 0, 0, 0, 0, 0, 0, 0, 0, 0, 1] ++ List.replicate 223 0

def firstZ : List Int := Pinned.utf8FirstZ.map fun (n : Nat) => (n : Int)

def powZ : List Int := [1, 10, 100, 1000, 10000, 100000, 1000000, 10000000, 100000000, 1000000000, 10000000000, 100000000000, 1000000000000, 10000000000000, 100000000000000, 1000000000000000, 10000000000000000, 100000000000000000, 1000000000000000000, 10000000000000000000]

def tabs : List (Nat × List Value) := [(2, spaceZ.map (.int .u8)), (0, firstZ.map (.int .u8))]

def keeps : List (Nat × Nat × List Nat) := [(59, 4, [0, 3, 4, 25, 26, 27]), (59, 0, [0, 3]), (127, 0, [0, 3]), (128, 0, [0, 3, 4]), (129, 0, [0, 3, 4]), (130, 0, [0, 3]), (33, 0, [0, 6, 7, 8]), (112, 4, [0, 2, 9, 32, 33, 34]), (112, 0, [0, 2, 4, 6, 13, 14, 15]), (142, 2, [1, 3, 28, 29, 30]), (39, 0, [0, 1, 3, 4, 10, 11, 12]), (122, 10, [0, 3, 5, 6, 8, 12, 13]), (122, 6, [0, 3, 5, 6, 8, 11]), (6, 0, [0, 1, 5, 6])]

def wrs (f d : Nat) : Bool := (Nat.beq f 59 && Nat.beq d 9) || (Nat.beq f 143 && Nat.beq d 5) || (Nat.beq f 32 && Nat.beq d 13)

/-- The library's tables; which lists are written later (by function and slot). -/
def env : Env where
  glob := tabAt tabs
  wr := wrs
  keep := keepAt keeps

/-- A comparison that decides what else is done in an open region, told ahead. -/
def envT (b : Bool) : Env where
  glob := tabAt tabs
  wr := wrs
  keep := keepAt keeps
  told f d := cond (Nat.beq f 119 && Nat.beq d 18) (some (sB b)) none

def envF : Env := envT false
def envU : Env := envT true

theorem Does.fromT {b : Bool} {f : FuncId} {args : List AV} {m m' : Mem} {v : AV} (h : Does Tryz.prog (envT b) f args m v m') : Does Tryz.prog env f args m v m' := h.env fun _ _ q => q

theorem names : NamesOk Tryz.prog := namesOk_of (by kernel_rfl)

end Go.Proofs.YtgbphddecpjlhaaGreatDoor.N
end
