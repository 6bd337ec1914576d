/-
  Lists of instructions: what a row's data says of them, as pure values. (For any program with such a type.)
  Lists of numbers and of instructions in cells: what stands at a place; how many parts there are.
  The door: the environment (the library's tables), the names.
  Lists of instructions: how many there are, how deep they stand, what holds of all of them; the same of stacks of such lists.
  instr.Check: the going through of instructions, by its trees (printed by a program of mine): the outer loop, its end, the inner loop.
  instr.Deep: the going through of instructions, by its trees (printed by a program of mine): the outer loop, its end, the inner loop.
  instr.Check, instr.Count, instr.Deep: what they tell, of any instructions.
  One instruction's data, as a pure value.
  A struct of two cells that is handed in, as pure values.
  Lists of instructions: induction by what stands in the lists; functions of a list's cells.
-/
import Derived.Test.YtdmmllcjgjmbbaaDoorMG
import Derived.Test.YtdmmllcjgjmbbaaDoorChecked
import Derived.Test.YtdmmllcjgjmbbaaDoorMF
import GoSem.PinnedTables

section
namespace Go.Am
open Go.RowKit

inductive Ins where
  | mk (op results a b n : Int) (tags : List Int) (l e : List Ins)

namespace Ins
def op : Ins → Int | .mk op _ _ _ _ _ _ _ => op
def results : Ins → Int | .mk _ r _ _ _ _ _ _ => r
def a : Ins → Int | .mk _ _ a _ _ _ _ _ => a
def b : Ins → Int | .mk _ _ _ b _ _ _ _ => b
def n : Ins → Int | .mk _ _ _ _ n _ _ _ => n
def tags : Ins → List Int | .mk _ _ _ _ _ t _ _ => t
def l : Ins → List Ins | .mk _ _ _ _ _ _ l _ => l
def e : Ins → List Ins | .mk _ _ _ _ _ _ _ e => e
end Ins

def encT (k : IntKind) (l : List Int) : List PV := l.map fun t => .sc (.int k t)

mutual
def encI : Ins → List PV
  | .mk op r a b n tags l e => [.sc (.int .i64 op), .sc (.int .i64 r), .sc (.int .u32 a), .sc (.int .u32 b), .sc (.int .i32 n), .ps tags.length 1 (encT .u32 tags), .ps l.length 8 (encL l), .ps e.length 8 (encL e)]
def encL : List Ins → List PV
  | [] => []
  | x :: r => encI x ++ encL r
end

mutual
def wfI : Ins → Prop
  | .mk op r a b n tags l e => (Lit.int .i64 op).wf = true ∧ (Lit.int .i64 r).wf = true ∧ (Lit.int .u32 a).wf = true ∧ (Lit.int .u32 b).wf = true ∧ (Lit.int .i32 n).wf = true ∧ (tags.length ≤ maxLen ∧ ∀ t ∈ tags, (Lit.int .u32 t).wf = true) ∧ (l.length ≤ maxLen ∧ wfL l) ∧ e.length ≤ maxLen ∧ wfL e
def wfL : List Ins → Prop
  | [] => True
  | x :: r => wfI x ∧ wfL r
end

theorem encL_flat : ∀ l : List Ins, encL l = l.flatMap encI
  | [] => rfl
  | x :: r => by rw [encL, encL_flat r]; rfl

theorem wfL_all : ∀ {l : List Ins}, (∀ x ∈ l, wfI x) → wfL l
  | [], _ => trivial
  | x :: _, h => ⟨h x (.head _), wfL_all fun y hy => h y (.tail _ hy)⟩

theorem encI_length : ∀ x : Ins, (encI x).length = 8
  | .mk .. => rfl

structure InsT (P : Program) (tL tI ti tu tn tt : TypeId) (fs : Array Field) : Prop where
  hL : P.underlying tL = some (.slice tI)
  hI : P.underlying tI = some (.struct fs)
  hz : P.cellsOf tI = 8
  hf : fs.toList.map (fun f => (f.offset, f.type)) = [(0, ti), (1, ti), (2, tu), (3, tu), (4, tn), (5, tt), (6, tL), (7, tL)]
  h1 : P.cellsOf ti = 1 ∧ P.cellsOf tu = 1 ∧ P.cellsOf tn = 1 ∧ P.cellsOf tt = 1 ∧ P.cellsOf tL = 1
  ki : P.underlying ti = some (.int .i64)
  ku : P.underlying tu = some (.int .u32)
  kn : P.underlying tn = some (.int .i32)
  kt : P.underlying tt = some (.slice tu)

section
variable {H : Type} {enc : TypeId × Value → H} {P : Program} {w : World} {base : Nat} {spare : Nat → Bool} {held : Bool} {tL tI ti tu tn tt : TypeId} {fs : Array Field}

theorem fld {i : Nat} {o t : Nat} (hf : (fs.toList.map fun f => (f.offset, f.type))[i]? = some (o, t)) : ∃ f, fs[i]? = some f ∧ f.offset = o ∧ f.type = t := by
  rw [List.getElem?_map] at hf
  cases h : fs.toList[i]? with
  | none => rw [h] at hf; cases hf
  | some f =>
    rw [h] at hf
    simp only [Option.map_some, Option.some.injEq, Prod.mk.injEq] at hf
    exact ⟨f, by simpa using h, hf.1, hf.2⟩

theorem CellsOk.cat {w : World} {x : PV} {l : List PV} {v : Value} {cs : List Value} (h : CellsOk w [x] [v]) (k : CellsOk w l cs) : CellsOk w (x :: l) (v :: cs) := h.append k

theorem ins_of_trod (T : InsT P tL tI ti tu tn tt fs) : ∀ (fuel : Nat) (cs : List Value) (x : DataW H × List MemPlace), DataW.trod enc P w base spare held fuel tL cs = some x →
    ∃ l : List Ins, (l.length ≤ maxLen ∧ wfL l) ∧ CellsOk w [.ps l.length 8 (encL l)] cs := by
  intro fuel
  induction fuel using Nat.strongRecOn with
  | ind fuel ih =>
    intro cs x h
    obtain ⟨xs, h0, h1, h2⟩ := cells_of_slice (encE := encI) (wf := wfI) T.hL (by rw [T.hz]; omega) h fun n hn us y hy => by
      obtain ⟨m, rfl, hlen, hg⟩ := cells_of_struct T.hI hy
      rw [T.hz] at hlen
      have get : ∀ (i : Nat) (o t : Nat), [(0, ti), (1, ti), (2, tu), (3, tu), (4, tn), (5, tt), (6, tL), (7, tL)][i]? = some (o, t) → P.cellsOf t = 1 → ∃ y, DataW.trod enc P w base spare held m t ((us.drop o).take 1) = some y := by
        intro i o t hi hc
        obtain ⟨f, q1, q2, q3⟩ := fld (fs := fs) (i := i) (by rw [T.hf]; exact hi)
        obtain ⟨y, hy⟩ := hg i f q1
        rw [q2, q3, hc] at hy
        exact ⟨y, hy⟩
      obtain ⟨c1, c2, c3, c4, c5⟩ := T.h1
      obtain ⟨y0, e0⟩ := get 0 0 ti rfl c1
      obtain ⟨y1, e1⟩ := get 1 1 ti rfl c1
      obtain ⟨y2, e2⟩ := get 2 2 tu rfl c2
      obtain ⟨y3, e3⟩ := get 3 3 tu rfl c2
      obtain ⟨y4, e4⟩ := get 4 4 tn rfl c3
      obtain ⟨y5, e5⟩ := get 5 5 tt rfl c4
      obtain ⟨y6, e6⟩ := get 6 6 tL rfl c5
      obtain ⟨y7, e7⟩ := get 7 7 tL rfl c5
      match us, hlen with
      | [u0, u1, u2, u3, u4, u5, u6, u7], _ =>
        simp only [List.drop_zero, List.drop_succ_cons, List.take_succ_cons, List.take_zero] at e0 e1 e2 e3 e4 e5 e6 e7
        obtain ⟨n0, w0, k0⟩ := cells_of_int T.ki e0
        obtain ⟨n1, w1, k1⟩ := cells_of_int T.ki e1
        obtain ⟨n2, w2, k2⟩ := cells_of_int T.ku e2
        obtain ⟨n3, w3, k3⟩ := cells_of_int T.ku e3
        obtain ⟨n4, w4, k4⟩ := cells_of_int T.kn e4
        obtain ⟨n5, w5, w5', k5⟩ := cells_of_ints T.kt T.ku c2 e5
        obtain ⟨n6, w6, k6⟩ := ih m (by omega) _ _ e6
        obtain ⟨n7, w7, k7⟩ := ih m (by omega) _ _ e7
        exact ⟨.mk n0 n1 n2 n3 n4 n5 n6 n7, ⟨w0, w1, w2, w3, w4, ⟨w5, w5'⟩, w6, w7⟩, k0.cat (k1.cat (k2.cat (k3.cat (k4.cat (k5.cat (k6.cat k7))))))⟩
    refine ⟨xs, ⟨h0, wfL_all h1⟩, ?_⟩
    rw [T.hz, ← encL_flat] at h2
    exact h2

end
end Go.Am
end

section
namespace Go.Am

theorem encT_getD (k : IntKind) (l : List Int) (n : Nat) (h : n < l.length) : (encT k l).getD n .bad = .sc (.int k (l.getD n 0)) := by
  simp [encT, List.getD_eq_getElem?_getD, List.getElem?_eq_getElem h]

theorem encT_bad (k : IntKind) (l : List Int) (n : Nat) (h : l.length ≤ n) : (encT k l).getD n .bad = .bad := by
  simp [encT, List.getD_eq_getElem?_getD, List.getElem?_eq_none h]

@[simp] theorem pvInt_encT (k : IntKind) (l : List Int) (n : Nat) : pvInt ((encT k l).getD n .bad) = l.getD n 0 := by
  rcases Nat.lt_or_ge n l.length with h | h
  · rw [encT_getD k l n h]; rfl
  · rw [encT_bad k l n h]
    simp [List.getD_eq_getElem?_getD, List.getElem?_eq_none h]
    rfl

@[simp] theorem isInt_encT (k : IntKind) (l : List Int) (n : Nat) : isInt k ((encT k l).getD n .bad) = decide (n < l.length) := by
  rcases Nat.lt_or_ge n l.length with h | h
  · rw [encT_getD k l n h]; simp [isInt, h]
  · rw [encT_bad k l n h]; simp [isInt]; omega

theorem encT_inj {k : IntKind} : ∀ {l m : List Int}, encT k l = encT k m → l = m
  | [], [], _ => rfl
  | [], _ :: _, h => by simp [encT] at h
  | _ :: _, [], h => by simp [encT] at h
  | a :: l, b :: m, h => by
    simp only [encT, List.map_cons, List.cons.injEq, PV.sc.injEq, Value.int.injEq, true_and] at h
    rw [h.1, encT_inj (l := l) (m := m) h.2]

mutual
theorem encI_inj : ∀ {x y : Ins}, encI x = encI y → x = y
  | .mk op r a b n tags l e, .mk op' r' a' b' n' tags' l' e', h => by
    simp only [encI, List.cons.injEq, PV.sc.injEq, Value.int.injEq, PV.ps.injEq, true_and, and_true] at h
    obtain ⟨rfl, rfl, rfl, rfl, rfl, ⟨_, h5⟩, ⟨_, h6⟩, _, h7⟩ := h
    rw [encT_inj h5, encL_inj h6, encL_inj h7]
theorem encL_inj : ∀ {l m : List Ins}, encL l = encL m → l = m
  | [], [], _ => rfl
  | [], .mk .. :: _, h => by simp [encL, encI] at h
  | .mk .. :: _, [], h => by simp [encL, encI] at h
  | x :: l, y :: m, h => by
    simp only [encL] at h
    obtain ⟨h1, h2⟩ := List.append_inj h (by rw [encI_length, encI_length])
    rw [encI_inj h1, encL_inj h2]
end

theorem encL_getD : ∀ {l : List Ins} {k : Nat} {x : Ins}, l[k]? = some x → ∀ c, c < 8 → (encL l).getD (k * 8 + c) .bad = (encI x).getD c .bad
  | [], _, _, h, _, _ => by simp at h
  | y :: l, 0, x, h, c, hc => by
    simp only [List.getElem?_cons_zero, Option.some.injEq] at h; subst h
    rw [encL, Nat.zero_mul, Nat.zero_add, List.getD_eq_getElem?_getD, List.getD_eq_getElem?_getD, List.getElem?_append_left (by rw [encI_length]; exact hc)]
  | y :: l, k + 1, x, h, c, hc => by
    have ih := encL_getD (l := l) (k := k) (x := x) (by simpa using h) c hc
    rw [List.getD_eq_getElem?_getD] at ih
    rw [encL, List.getD_eq_getElem?_getD, List.getElem?_append_right (by rw [encI_length]; omega), encI_length, show (k + 1) * 8 + c - 8 = k * 8 + c by omega]
    exact ih

theorem wfL_mem : ∀ {l : List Ins} {x : Ins}, wfL l → x ∈ l → wfI x
  | _ :: _, _, h, .head _ => h.1
  | _ :: _, _, h, .tail _ hx => wfL_mem h.2 hx

mutual
def cntI : Ins → Nat
  | .mk _ _ _ _ _ tags l e => 1 + tags.length + cntL l + cntL e
def cntL : List Ins → Nat
  | [] => 0
  | x :: r => cntI x + cntL r
end

theorem cntL_mem : ∀ {l : List Ins} {x : Ins}, x ∈ l → cntI x ≤ cntL l
  | y :: l, x, h => by
    simp only [cntL]
    cases h with
    | head => omega
    | tail _ h => have := cntL_mem h; omega

mutual
def insF : List Ins → Int → Int → Int
  | [], _, n => n
  | x :: r, most, n => if n ≤ most then insF r most (insX x most n) else n
def insX : Ins → Int → Int → Int
  | .mk _ _ _ _ _ tags l e, most, n =>
    let n1 := n + 1 + min (tags.length : Int) most
    let n2 := if n1 ≤ most then n1 + insF l (most - n1) 0 else n1
    if n2 ≤ most then n2 + insF e (most - n2) 0 else n2
end

mutual
theorem insX_range : ∀ (x : Ins) (most n : Int), 0 ≤ n → n ≤ most → n ≤ insX x most n ∧ insX x most n ≤ 2 * most + 1
  | .mk _ _ _ _ _ tags l e, most, n, h0, h => by
    simp only [insX]
    generalize hn1 : n + 1 + min (tags.length : Int) most = n1
    have h1 : n + 1 ≤ n1 ∧ n1 ≤ 2 * most + 1 := by omega
    generalize hn2 : (if n1 ≤ most then n1 + insF l (most - n1) 0 else n1) = n2
    have h2 : n1 ≤ n2 ∧ n2 ≤ 2 * most + 1 := by
      rw [← hn2]
      split
      · have := insF_range l (most - n1) 0 (by omega) (by omega) (by omega); omega
      · omega
    split
    · have := insF_range e (most - n2) 0 (by omega) (by omega) (by omega); omega
    · omega
theorem insF_range : ∀ (l : List Ins) (most n : Int), 0 ≤ most → 0 ≤ n → n ≤ 2 * most + 1 → n ≤ insF l most n ∧ insF l most n ≤ 2 * most + 1
  | [], most, n, _, _, h => by simp only [insF]; omega
  | x :: r, most, n, hm, h0, h => by
    simp only [insF]
    split
    · have h1 := insX_range x most n h0 (by omega)
      have h2 := insF_range r most (insX x most n) hm (by omega) (by omega)
      omega
    · omega
end

mutual
theorem insX_cnt : ∀ (x : Ins) (most n : Int), 0 ≤ n → n ≤ most → insX x most n ≤ most → insX x most n = n + cntI x
  | .mk _ _ _ _ _ tags l e, most, n, h0, h => by
    simp only [insX, cntI]
    generalize hn1 : n + 1 + min (tags.length : Int) most = n1
    generalize hn2 : (if n1 ≤ most then n1 + insF l (most - n1) 0 else n1) = n2
    intro h3
    have hle : n2 ≤ most := by
      split at h3
      · rename_i q; exact q
      · exact h3
    rw [if_pos hle] at h3 ⊢
    have hr2 := insF_range e (most - n2) 0 (by omega) (by omega) (by omega)
    have hle1 : n1 ≤ most := by
      rw [← hn2] at hle
      split at hle
      · rename_i q; exact q
      · exact hle
    rw [if_pos hle1] at hn2
    have hr1 := insF_range l (most - n1) 0 (by omega) (by omega) (by omega)
    have e1 := insF_cnt l (most - n1) 0 (by omega) (by omega) (by omega)
    have e2 := insF_cnt e (most - n2) 0 (by omega) (by omega) (by omega)
    have : min (tags.length : Int) most = tags.length := by omega
    push_cast
    omega
theorem insF_cnt : ∀ (l : List Ins) (most n : Int), 0 ≤ most → 0 ≤ n → insF l most n ≤ most → insF l most n = n + cntL l
  | [], most, n, _, _, h => by simp [insF, cntL]
  | x :: r, most, n, hm, h0, h => by
    simp only [insF, cntL] at h ⊢
    split at h
    · rename_i hn
      rw [if_pos hn]
      have hr := insX_range x most n h0 hn
      have hr2 := insF_range r most (insX x most n) hm (by omega) (by omega)
      have e1 := insX_cnt x most n h0 hn (by omega)
      have e2 := insF_cnt r most (insX x most n) hm (by omega) h
      push_cast
      omega
    · omega
end

end Go.Am
end

section
namespace Go.Proofs.YtdmmllcjgjmbbaaDoor.N
open Go Go.Am

def spaceZ : List Int := [0, 0, 0, 0, 0, 0, 0, 0, 0, 1, 1, 1, 1, 1, 0, 0, 0, 0, 0, 0, 0, 0, 0, 0, 0, 0, 0, 0, 0, 0, 0, 0, 1] ++ List.replicate 223 0

def firstZ : List Int := Pinned.utf8FirstZ.map fun (n : Nat) => (n : Int)

def accZ : List Int := [128, 191, 160, 191, 128, 159, 144, 191, 128, 143, 0, 0, 0, 0, 0, 0, 0, 0, 0, 0, 0, 0, 0, 0, 0, 0, 0, 0, 0, 0, 0, 0]

def tabs : List (Nat × List Value) := [(2, spaceZ.map (.int .u8)), (0, firstZ.map (.int .u8)), (1, accZ.map (.int .u8))]

def keeps : List (Nat × Nat × List Nat) := [(5, 2, [1, 2, 5, 6]), (5, 6, [1, 2, 5, 7]), (5, 10, [1, 2, 5, 8]), (5, 14, [1, 2, 5, 9]), (5, 18, [1, 2, 5, 10]), (5, 22, [1, 2, 5, 11]), (6, 0, [1, 6, 7, 8]), (12, 0, [3, 7, 8, 9]), (13, 0, [0, 1, 5, 6]), (17, 0, [0, 1, 7, 8]), (15, 0, [1, 3, 7, 8, 9]), (19, 0, [1, 3, 13, 14, 15]), (19, 4, [1, 3, 27, 28, 29]), (19, 8, [1, 3, 40, 41, 42]), (19, 12, [3, 53, 54, 55]), (21, 2, [0, 3, 4]), (24, 0, [1, 8, 9, 10]), (26, 0, [1, 3, 9, 10, 11]), (26, 4, [3, 24, 25, 26]), (37, 0, [3, 11]), (45, 0, [0, 1, 7, 8]), (47, 0, [0, 1, 7, 8]), (48, 0, [0, 1, 7, 8]), (49, 0, [0, 1, 7, 8]), (50, 0, [0, 1, 7, 8]), (52, 0, [0, 1, 7, 8]), (53, 0, [0, 3]), (53, 4, [0, 3, 4, 25, 26, 27]), (59, 0, [0, 1, 10, 11, 12]), (59, 4, [0, 1, 24, 25, 26])]

def wrs (f d : Nat) : Bool := (Nat.beq f 53 && Nat.beq d 9)

def env : Env where
  glob := tabAt tabs
  wr := wrs
  keep := keepAt keeps

theorem names : NamesOk Tryd.prog := namesOk_of (by kernel_rfl)

end Go.Proofs.YtdmmllcjgjmbbaaDoor.N
end

section
namespace Go.Am

mutual
def okI (p : Ins → Bool) : Ins → Bool
  | .mk op r a b n tags l e => p (.mk op r a b n tags l e) && (okL p l && okL p e)
def okL (p : Ins → Bool) : List Ins → Bool
  | [] => true
  | x :: r => okI p x && okL p r
end

mutual
def numI : Ins → Nat
  | .mk _ _ _ _ _ _ l e => 1 + numL l + numL e
def numL : List Ins → Nat
  | [] => 0
  | x :: r => numI x + numL r
end

mutual
def depI : Nat → Ins → Nat
  | d, .mk _ _ _ _ _ _ l e => max d (max (depL (d + 1) l) (depL (d + 1) e))
def depL : Nat → List Ins → Nat
  | _, [] => 0
  | d, x :: r => max (depI d x) (depL d r)
end

mutual
def tagI : Ins → Nat
  | .mk _ _ _ _ _ tags l e => max tags.length (max (tagL l) (tagL e))
def tagL : List Ins → Nat
  | [] => 0
  | x :: r => max (tagI x) (tagL r)
end

theorem numL_length : ∀ l : List Ins, l.length ≤ numL l
  | [] => Nat.zero_le _
  | .mk _ _ _ _ _ t l e :: r => by have := numL_length r; simp only [numL, numI, List.length_cons]; omega

mutual
theorem numI_cnt : ∀ x : Ins, numI x ≤ cntI x
  | .mk _ _ _ _ _ t l e => by have := numL_cnt l; have := numL_cnt e; simp only [numI, cntI]; omega
theorem numL_cnt : ∀ l : List Ins, numL l ≤ cntL l
  | [] => Nat.zero_le _
  | x :: r => by have := numI_cnt x; have := numL_cnt r; simp only [numL, cntL]; omega
end

mutual
theorem tagI_cnt : ∀ x : Ins, tagI x ≤ cntI x
  | .mk _ _ _ _ _ t l e => by have := tagL_cnt l; have := tagL_cnt e; simp only [tagI, cntI]; omega
theorem tagL_cnt : ∀ l : List Ins, tagL l ≤ cntL l
  | [] => Nat.zero_le _
  | x :: r => by have := tagI_cnt x; have := tagL_cnt r; simp only [tagL, cntL]; omega
end

mutual
theorem depI_num : ∀ (d : Nat) (x : Ins), depI d x ≤ d + numI x
  | d, .mk _ _ _ _ _ t l e => by have := depL_num (d + 1) l; have := depL_num (d + 1) e; simp only [depI, numI]; omega
theorem depL_num : ∀ (d : Nat) (l : List Ins), depL d l ≤ d + numL l
  | _, [] => Nat.zero_le _
  | d, x :: r => by have := depI_num d x; have := depL_num d r; simp only [depL, numL]; omega
end

mutual
theorem depI_shift : ∀ (d : Nat) (x : Ins), depI (d + 1) x = depI d x + 1
  | d, .mk _ _ _ _ _ t l e => by
    have h1 := depL_shift (d + 1) l
    have h2 := depL_shift (d + 1) e
    simp only [depI]
    cases l with
    | nil => cases e with
      | nil => simp [depL]
      | cons y e => rw [h2 (by simp)]; simp only [depL]; omega
    | cons x l => cases e with
      | nil => rw [h1 (by simp)]; simp only [depL]; omega
      | cons y e => rw [h1 (by simp), h2 (by simp)]; omega
theorem depL_shift : ∀ (d : Nat) (l : List Ins), l ≠ [] → depL (d + 1) l = depL d l + 1
  | _, [], h => absurd rfl h
  | d, x :: r, _ => by
    have h1 := depI_shift d x
    cases r with
    | nil => simp only [depL, h1]; omega
    | cons y r => rw [depL, depL_shift d (y :: r) (by simp), h1, depL.eq_2 d x]; omega
end

abbrev aL (l : List Ins) : AV := .p (.ps l.length 8 (encL l))
def aggI (op r a b nn : Int) (tg : List Int) (ll le : List Ins) : AV := .agg [sI .i64 op, sI .i64 r, sI .u32 a, sI .u32 b, sI .i32 nn, .p (.ps tg.length 1 (encT .u32 tg)), aL ll, aL le]
def aggX : Ins → AV
  | .mk op r a b nn tg ll le => aggI op r a b nn tg ll le

theorem aL_inj {l m : List Ins} (h : aL l = aL m) : l = m := by
  simp only [AV.p.injEq, PV.ps.injEq] at h
  exact encL_inj h.2.2

theorem cells_at {l : List Ins} {k : Nat} {op rs a b nn : Int} {tags : List Int} {ll le : List Ins} (h : l[k]? = some (.mk op rs a b nn tags ll le)) :
    (encL l).getD (k * 8) .bad = .sc (.int .i64 op) ∧ (encL l).getD (k * 8 + 1) .bad = .sc (.int .i64 rs) ∧ (encL l).getD (k * 8 + 2) .bad = .sc (.int .u32 a) ∧ (encL l).getD (k * 8 + 3) .bad = .sc (.int .u32 b) ∧
      (encL l).getD (k * 8 + 4) .bad = .sc (.int .i32 nn) ∧ (encL l).getD (k * 8 + 5) .bad = .ps tags.length 1 (encT .u32 tags) ∧ (encL l).getD (k * 8 + 6) .bad = .ps ll.length 8 (encL ll) ∧ (encL l).getD (k * 8 + 7) .bad = .ps le.length 8 (encL le) :=
  have hc := encL_getD h
  ⟨hc 0 (by omega), hc 1 (by omega), hc 2 (by omega), hc 3 (by omega), hc 4 (by omega), hc 5 (by omega), hc 6 (by omega), hc 7 (by omega)⟩

abbrev InsS := List (List Ins × Nat)

def encS (st : InsS) : List PV := st.flatMap fun e => [.ps e.1.length 8 (encL e.1), .sc (.int .i64 e.2)]
def okS (p : Ins → Bool) (st : InsS) : Bool := st.all fun e => okL p e.1
def numS (st : InsS) : Nat := (st.map fun e => numL e.1).sum
def depS (st : InsS) : Nat := (st.map fun e => depL e.2 e.1).foldr max 0
def tagS (st : InsS) : Nat := (st.map fun e => tagL e.1).foldr max 0
def wS (st : InsS) : Nat := (st.map fun e => 2 * numL e.1 + 1).sum

theorem encS_length : ∀ st : InsS, (encS st).length = st.length * 2
  | [] => rfl
  | e :: st => by rw [encS, List.flatMap_cons, List.length_append, List.length_cons]; have := encS_length st; rw [encS] at this; rw [this]; simp; omega

theorem encS_append (s t : InsS) : encS (s ++ t) = encS s ++ encS t := by simp [encS]

theorem foldr_max (s : List Nat) (b : Nat) : s.foldr max b = max (s.foldr max 0) b := by
  induction s with
  | nil => simp
  | cons a s ih => simp only [List.foldr_cons, ih]; omega

theorem okS_append (p : Ins → Bool) (s t : InsS) : okS p (s ++ t) = (okS p s && okS p t) := by simp [okS]
theorem numS_append (s t : InsS) : numS (s ++ t) = numS s + numS t := by simp [numS]
theorem wS_append (s t : InsS) : wS (s ++ t) = wS s + wS t := by simp [wS]
theorem depS_append (s t : InsS) : depS (s ++ t) = max (depS s) (depS t) := by simp only [depS, List.map_append, List.foldr_append]; rw [foldr_max]
theorem tagS_append (s t : InsS) : tagS (s ++ t) = max (tagS s) (tagS t) := by simp only [tagS, List.map_append, List.foldr_append]; rw [foldr_max]

@[simp] theorem okS_one (p : Ins → Bool) (l : List Ins) (d : Nat) : okS p [(l, d)] = okL p l := by simp [okS]
@[simp] theorem numS_one (l : List Ins) (d : Nat) : numS [(l, d)] = numL l := by simp [numS]
@[simp] theorem wS_one (l : List Ins) (d : Nat) : wS [(l, d)] = 2 * numL l + 1 := by simp [wS]
@[simp] theorem depS_one (l : List Ins) (d : Nat) : depS [(l, d)] = depL d l := by simp [depS]
@[simp] theorem tagS_one (l : List Ins) (d : Nat) : tagS [(l, d)] = tagL l := by simp [tagS]

theorem wS_length : ∀ st : InsS, st.length ≤ wS st
  | [] => Nat.zero_le _
  | e :: st => by have := wS_length st; simp only [wS, List.map_cons, List.sum_cons, List.length_cons] at this ⊢; omega

def StkAt (st : InsS) (cells : List AV) : Prop := cells.take (st.length * 2) = (encS st).map .p

theorem StkAt.len {st : InsS} {cells : List AV} (h : StkAt st cells) : st.length * 2 ≤ cells.length := by
  have := congrArg List.length h
  rw [List.length_take, List.length_map, encS_length] at this
  omega

theorem StkAt.top {st : InsS} {x : List Ins} {d : Nat} {cells : List AV} (h : StkAt (st ++ [(x, d)]) cells) : cells.getD (st.length * 2) .junk = .p (.ps x.length 8 (encL x)) ∧ cells.getD (st.length * 2 + 1) .junk = .p (.sc (.int .i64 d)) := by
  have hl := h.len
  simp only [List.length_append, List.length_cons, List.length_nil] at hl
  have get : ∀ j, j < 2 → cells.getD (st.length * 2 + j) .junk = ((encS (st ++ [(x, d)])).map AV.p).getD (st.length * 2 + j) .junk := by
    intro j hj
    rw [← show cells.take ((st ++ [(x, d)]).length * 2) = _ from h, List.getD_eq_getElem?_getD, List.getD_eq_getElem?_getD, List.getElem?_take_of_lt (by simp only [List.length_append, List.length_cons, List.length_nil]; omega)]
  have g0 := get 0 (by omega)
  have g1 := get 1 (by omega)
  rw [encS_append, List.map_append, List.getD_eq_getElem?_getD (l := List.map AV.p (encS st) ++ _), List.getElem?_append_right (by simp [encS_length])] at g0 g1
  simp only [List.length_map, encS_length] at g0 g1
  rw [show st.length * 2 + 0 - st.length * 2 = 0 by omega] at g0
  rw [show st.length * 2 + 1 - st.length * 2 = 1 by omega] at g1
  exact ⟨by simpa [encS] using g0, by simpa [encS] using g1⟩

theorem StkAt.pop {st : InsS} {e : List Ins × Nat} {cells : List AV} (h : StkAt (st ++ [e]) cells) : StkAt st cells := by
  unfold StkAt at h ⊢
  have := congrArg (List.take (st.length * 2)) h
  rw [List.take_take, encS_append, List.map_append, List.take_left' (by simp [encS_length])] at this
  rw [← this]; congr 1
  simp only [List.length_append, List.length_cons, List.length_nil]; omega

theorem StkAt.keep {st : InsS} {cells : List AV} (h : StkAt st cells) : StkAt st (cells.map keepP) := by
  unfold StkAt at h ⊢
  rw [← List.map_take, h, List.map_map]; rfl

theorem StkAt.push {st : InsS} {cells : List AV} (h : StkAt st cells) (x : List Ins) (d : Nat) : StkAt (st ++ [(x, d)]) (cells.take (st.length * 2) ++ [.p (.ps x.length 8 (encL x)), .p (.sc (.int .i64 d))]) := by
  have hl := h.len
  unfold StkAt at h ⊢
  rw [List.take_of_length_le (by simp; omega), h, encS_append, List.map_append]; rfl

end Go.Am
end

section
namespace Go.Proofs.YtdmmllcjgjmbbaaDoor.N
open Go Go.Am

def noCall (_ : FuncId) (_ : List AV) (_ : Mem) : Option (AV × Mem) := none
abbrev sP (n : Int) : PV := .sc (.int .i64 n)
noncomputable def recC (l : List Ins) (st : LoopState) (pd : Option Code) : Blk := .ob (loopK Tryd.prog 46 0 st pd) [aL l, .junk, .mp 2 0, .p (.sc (.bool false)), .mp 3 0, .mp 4 0, .mp 5 0, .junk, .junk, aL l, .fn (.func 53) [] [.mp 1 0], .junk, .junk, .junk, .junk, .junk, .junk, .junk, .junk, .junk, .junk, .junk, .junk, .junk, .junk, .junk, .junk, .junk, .junk, .junk, .junk, .junk, .junk, .junk, .junk, .junk, .junk]
noncomputable def memC (l : List Ins) (tags n most : Int) (cells : List AV) : Mem := [recC l .ready none, .pc [.ps l.length 8 (encL l)], .pc [sP 0], .pc [sP tags], .pc [sP n], .pc [sP most], .ob (.gr 111 true) cells]
def outS (_l : List Ins) (_tags _n _most : Int) (_cells : List AV) (k : Nat) (x : List Ins) (d : Int) : FuncId → Nat → Nat → Option (AV → AV) := shapeAt [(53, 3, 3, sI .i64 k), (53, 3, 5, .agg [aL x, sI .i64 d]), (53, 4, 3, sI .i64 k)]
def innS (_l : List Ins) (_tags n _most : Int) (_cells : List AV) (_k : Nat) (_xs : List Ins) (d : Int) (i : Nat) (op r a b nn : Int) (tg : List Int) (ll le : List Ins) (_ok : Bool) : FuncId → Nat → Nat → Option (AV → AV) := shapeAt [(53, 7, 1, aggI op r a b nn tg ll le), (53, 13, 0, sI .i64 ((i + 1 : Nat) : Int)), (53, 10, 5, sI .i64 (d + 1)), (53, 12, 5, sI .i64 (d + 1)), (46, 8, 1, sI .i64 (n + 1))]
def innC (_l : List Ins) (_tags _n _most : Int) (_cells : List AV) (_k : Nat) (_xs : List Ins) (_d : Int) (_i : Nat) (_op _r _a _b _nn : Int) (_tg : List Int) (_ll _le : List Ins) (ok : Bool) (f : FuncId) (_ : List AV) (m : Mem) : Option (AV × Mem) := cond (Nat.beq f 54) (some (sB ok, m)) none
noncomputable def outOrc (l : List Ins) (tags n most : Int) (cells : List AV) (k : Nat) (x : List Ins) (d : Int) : Orc := orcS noCall noLed [(53, 0), (53, 2)] [(53, 0, 1)] [(53, 3, 4), (53, 3, 5), (53, 4, 4)] (outS l tags n most cells k x d)
def outSc : Sc := .fin
noncomputable def outTree (l : List Ins) (tags n most : Int) (cells : List AV) (k : Nat) (x : List Ins) (d : Int) : Tree :=
 (.test (decide ((↑(k + 1) : Int) > 0))
 (.need (sI .i64 (IntKind.i64.wrap ((↑(k + 1) : Int) - 1)) = sI IntKind.i64 (↑k : Int))
 (.must (inB (↑k : Int) (k + 1) && true && true)
 (.must ((0 + (↑k : Int).toNat * 2 + 2).ble cells.length && ((normA (some (TypeInfo.mk (TypeDesc.slice 67) "[]api.Instr" 1 24 true 8 8 (some (Value.slice none 0 0)) false #[]).desc) (cells.getD (0 + (↑k : Int).toNat * 2) .junk)).snd && ((normA (some (TypeInfo.mk (TypeDesc.int IntKind.i64) "int" 1 8 false 8 8 (some (.int .i64 0)) true #[]).desc) (cells.getD (0 + (↑k : Int).toNat * 2 + 1) .junk)).snd && true)) && true)
 (.need (AV.agg [(normA (Option.some (TypeInfo.mk (TypeDesc.slice 67) "[]api.Instr" 1 24 true 8 8 (Option.some (Value.slice Option.none 0 0)) false #[]).desc) (cells.getD (0 + (↑k : Int).toNat * 2) AV.junk)).fst, (normA (Option.some (TypeInfo.mk (TypeDesc.int IntKind.i64) "int" 1 8 false 8 8 (Option.some (Value.int IntKind.i64 0)) true #[]).desc) (cells.getD (0 + (↑k : Int).toNat * 2 + 1) AV.junk)).fst] = AV.agg [aL x, sI IntKind.i64 d])
 (.need (sI .i64 (IntKind.i64.wrap ((↑(k + 1) : Int) - 1)) = sI IntKind.i64 (↑k : Int))
 (.must ((↑k : Int).toNat.ble (k + 1) && true && true && true)
 (.at (bodyCfg Tryd.prog env 53 2 [.vy 0, .ms 6 0 ((↑k : Int).toNat - 0) 2 none, .mp 7 0, .p (.ps x.length 8 (encL x)), sI .i64 (↑x.length : Int), sI .i64 0] ([.ob (loopK Tryd.prog 46 0 LoopState.ready none) [.p (.ps l.length 8 (encL l)), .junk, .mp 2 0, sB false, .mp 3 0, .mp 4 0, .mp 5 0, .junk, .junk, .p (.ps l.length 8 (encL l)), .fn (Fn.func 53) [] [.mp 1 0], .junk, .junk, .junk, .junk, .junk, .junk, .junk, .junk, .junk, .junk, .junk, .junk, .junk, .junk, .junk, .junk, .junk, .junk, .junk, .junk, .junk, .junk, .junk, .junk, .junk, .junk], .pc [.ps l.length 8 (encL l)], .pc [sP 0], .pc [sP tags], .pc [sP n], .pc [sP most], .ob (ObK.gr 111 true) (List.map keepP cells), .ac [.p (.ps x.length 8 (encL x)), sI .i64 d]]) 6 64))))))))
 (.out (.ret (.tup []) [.ob (loopK Tryd.prog 46 0 LoopState.ready none) [.p (.ps l.length 8 (encL l)), .junk, .mp 2 0, sB false, .mp 3 0, .mp 4 0, .mp 5 0, .junk, .junk, .p (.ps l.length 8 (encL l)), .fn (Fn.func 53) [] [.mp 1 0], .junk, .junk, .junk, .junk, .junk, .junk, .junk, .junk, .junk, .junk, .junk, .junk, .junk, .junk, .junk, .junk, .junk, .junk, .junk, .junk, .junk, .junk, .junk, .junk, .junk, .junk], .pc [.ps l.length 8 (encL l)], .pc [sP 0], .pc [sP tags], .pc [sP n], .pc [sP most]])))
theorem out_tree (l : List Ins) (tags n most : Int) (cells : List AV) (k : Nat) (x : List Ins) (d : Int) : grow Tryd.prog env (outOrc l tags n most cells k x d) 1000000 true (bodyCfg Tryd.prog env 53 0 ([AV.vy 0, AV.ms 6 0 (k + 1) 2 Option.none]) (memC l tags n most cells) 6 64) outSc atEnd = outTree l tags n most cells k x d := by kernel_rfl

noncomputable def oueOrc : Orc := orcL noCall noLed [(53, 0), (53, 2)] [] []
def oueSc : Sc := .fin
noncomputable def oueTree (l : List Ins) (tags n most : Int) (_cells : List AV) : Tree :=
 (.out (.ret (.tup []) [.ob (loopK Tryd.prog 46 0 LoopState.ready none) [.p (.ps l.length 8 (encL l)), .junk, .mp 2 0, sB false, .mp 3 0, .mp 4 0, .mp 5 0, .junk, .junk, .p (.ps l.length 8 (encL l)), .fn (Fn.func 53) [] [.mp 1 0], .junk, .junk, .junk, .junk, .junk, .junk, .junk, .junk, .junk, .junk, .junk, .junk, .junk, .junk, .junk, .junk, .junk, .junk, .junk, .junk, .junk, .junk, .junk, .junk, .junk, .junk], .pc [.ps l.length 8 (encL l)], .pc [sP 0], .pc [sP tags], .pc [sP n], .pc [sP most]]))
theorem oue_tree (l : List Ins) (tags n most : Int) (cells : List AV) : grow Tryd.prog env oueOrc 1000000 true (bodyCfg Tryd.prog env 53 0 ([AV.vy 0, AV.ms 6 0 0 2 Option.none]) ([recC l LoopState.ready Option.none, Blk.pc [PV.ps l.length 8 (encL l)], Blk.pc [sP 0], Blk.pc [sP tags], Blk.pc [sP n], Blk.pc [sP most], Blk.ob (ObK.gr 111 true) cells]) 6 64) oueSc atEnd = oueTree l tags n most cells := by kernel_rfl

noncomputable def innOrc (l : List Ins) (tags n most : Int) (cells : List AV) (k : Nat) (xs : List Ins) (d : Int) (i : Nat) (op r a b nn : Int) (tg : List Int) (ll : List Ins) (le : List Ins) (ok : Bool) : Orc := orcS (innC l tags n most cells k xs d i op r a b nn tg ll le ok) noLed [(53, 0), (53, 2)] [(53, 0, 3), (46, 0, 0), (53, 0, 5), (53, 0, 6)] [(53, 7, 0), (53, 7, 1), (53, 10, 8), (53, 12, 8)] (innS l tags n most cells k xs d i op r a b nn tg ll le ok)
def innSc : Sc := .fin
noncomputable def innTree (l : List Ins) (tags n most : Int) (cells : List AV) (k : Nat) (xs : List Ins) (d : Int) (i : Nat) (op r a b nn : Int) (tg : List Int) (ll : List Ins) (le : List Ins) (ok : Bool) : Tree :=
 (.test (decide ((↑i : Int) < (↑xs.length : Int)))
 (.must (inB (↑i : Int) xs.length && true && true)
 (.must (isInt IntKind.i64 ((encL xs).getD ((↑i : Int).toNat * 8) PV.bad) && (isInt IntKind.i64 ((encL xs).getD ((↑i : Int).toNat * 8 + 1) PV.bad) && (isInt IntKind.u32 ((encL xs).getD ((↑i : Int).toNat * 8 + 1 + 1) PV.bad) && (isInt IntKind.u32 ((encL xs).getD ((↑i : Int).toNat * 8 + 1 + 1 + 1) PV.bad) && (isInt IntKind.i32 ((encL xs).getD ((↑i : Int).toNat * 8 + 1 + 1 + 1 + 1) PV.bad) && (isPs ((encL xs).getD ((↑i : Int).toNat * 8 + 1 + 1 + 1 + 1 + 1) PV.bad) && (isPs ((encL xs).getD ((↑i : Int).toNat * 8 + 1 + 1 + 1 + 1 + 1 + 1) PV.bad) && (isPs ((encL xs).getD ((↑i : Int).toNat * 8 + 1 + 1 + 1 + 1 + 1 + 1 + 1) PV.bad) && true))))))) && true)
 (.need (AV.agg [sI .i64 (pvInt ((encL xs).getD ((↑i : Int).toNat * 8) PV.bad)), sI .i64 (pvInt ((encL xs).getD ((↑i : Int).toNat * 8 + 1) PV.bad)), sI .u32 (pvInt ((encL xs).getD ((↑i : Int).toNat * 8 + 1 + 1) PV.bad)), sI .u32 (pvInt ((encL xs).getD ((↑i : Int).toNat * 8 + 1 + 1 + 1) PV.bad)), sI .i32 (pvInt ((encL xs).getD ((↑i : Int).toNat * 8 + 1 + 1 + 1 + 1) PV.bad)), AV.p (PV.ps (psLen ((encL xs).getD ((↑i : Int).toNat * 8 + 1 + 1 + 1 + 1 + 1) PV.bad)) (psSz ((encL xs).getD ((↑i : Int).toNat * 8 + 1 + 1 + 1 + 1 + 1) PV.bad)) (psCells ((encL xs).getD ((↑i : Int).toNat * 8 + 1 + 1 + 1 + 1 + 1) PV.bad))), AV.p (PV.ps (psLen ((encL xs).getD ((↑i : Int).toNat * 8 + 1 + 1 + 1 + 1 + 1 + 1) PV.bad)) (psSz ((encL xs).getD ((↑i : Int).toNat * 8 + 1 + 1 + 1 + 1 + 1 + 1) PV.bad)) (psCells ((encL xs).getD ((↑i : Int).toNat * 8 + 1 + 1 + 1 + 1 + 1 + 1) PV.bad))), AV.p (PV.ps (psLen ((encL xs).getD ((↑i : Int).toNat * 8 + 1 + 1 + 1 + 1 + 1 + 1 + 1) PV.bad)) (psSz ((encL xs).getD ((↑i : Int).toNat * 8 + 1 + 1 + 1 + 1 + 1 + 1 + 1) PV.bad)) (psCells ((encL xs).getD ((↑i : Int).toNat * 8 + 1 + 1 + 1 + 1 + 1 + 1 + 1) PV.bad)))] = aggI op r a b nn tg ll le)
 (.call ⟨54, [.agg [sI .i64 op, sI .i64 r, sI .u32 a, sI .u32 b, sI .i32 nn, .p (.ps tg.length 1 (encT IntKind.u32 tg)), .p (.ps ll.length 8 (encL ll)), .p (.ps le.length 8 (encL le))]], [], .p (.sc (.bool ok)), []⟩
 (.test (!ok)
 (.out (.ret (.tup []) [.ob (loopK Tryd.prog 46 0 (endState (some Code.ret)) (some Code.ret)) [.p (.ps l.length 8 (encL l)), .junk, .mp 2 0, sB false, .mp 3 0, .mp 4 0, .mp 5 0, .junk, .junk, .p (.ps l.length 8 (encL l)), .fn (Fn.func 53) [] [.mp 1 0], .junk, .junk, .junk, .junk, .junk, .junk, .junk, .junk, .junk, .junk, .junk, .junk, .junk, .junk, .junk, .junk, .junk, .junk, .junk, .junk, .junk, .junk, .junk, .junk, .junk, .junk], .pc [.ps l.length 8 (encL l)], .pc [sP 2], .pc [sP tags], .pc [sP n], .pc [sP most]]))
 (.need (sI .i64 (IntKind.i64.wrap (n + 1)) = sI IntKind.i64 (n + 1))
 (.test (decide ((↑ll.length : Int) > 0))
 (.need (sI .i64 (IntKind.i64.wrap (d + 1)) = sI IntKind.i64 (d + 1))
 (.must (((k + 1) * 32).ble lim && (k + 1).ble lim && ((k * 2).ble cells.length && true) && true)
 (.test (decide ((↑le.length : Int) > 0))
 (.need (sI .i64 (IntKind.i64.wrap (d + 1)) = sI IntKind.i64 (d + 1))
 (.must (((k + 1 + 1) * 32).ble lim && (k + 1 + 1).ble lim && (((k + 1) * 2).ble (List.take (k * 2) cells ++ [.p (.ps ll.length 8 (encL ll)), sI .i64 (d + 1)]).length && true) && true)
 (.need (sI .i64 (IntKind.i64.wrap ((↑i : Int) + 1)) = sI IntKind.i64 (↑(i + 1) : Int))
 (.at (bodyCfg Tryd.prog env 53 2 [.vy 0, .ms 6 0 (k + 1 + 1) 2 none, .mp 7 0, .p (.ps xs.length 8 (encL xs)), sI .i64 (↑xs.length : Int), sI .i64 (↑(i + 1) : Int)] ([.ob (loopK Tryd.prog 46 0 (endState none) none) [.p (.ps l.length 8 (encL l)), .junk, .mp 2 0, sB false, .mp 3 0, .mp 4 0, .mp 5 0, .junk, .junk, .p (.ps l.length 8 (encL l)), .fn (Fn.func 53) [] [.mp 1 0], .junk, .junk, .junk, .junk, .junk, .junk, .junk, .junk, .junk, .junk, .junk, .junk, .junk, .junk, .junk, .junk, .junk, .junk, .junk, .junk, .junk, .junk, .junk, .junk, .junk, .junk], .pc [.ps l.length 8 (encL l)], .pc [sP 0], .pc [sP (bif false then Min.min tags (↑tg.length : Int) else Max.max tags (↑tg.length : Int))], .pc [sP (n + 1)], .pc [sP (bif false then Min.min most d else Max.max most d)], .ob (ObK.gr 111 true) (List.map keepP (List.take ((k + 1) * 2) (List.take (k * 2) cells ++ [.p (.ps ll.length 8 (encL ll)), sI .i64 (d + 1)]) ++ [.p (.ps le.length 8 (encL le)), sI .i64 (d + 1)])), .ac [.p (.ps xs.length 8 (encL xs)), sI .i64 d]]) 6 64)))))
 (.need (sI .i64 (IntKind.i64.wrap ((↑i : Int) + 1)) = sI IntKind.i64 (↑(i + 1) : Int))
 (.at (bodyCfg Tryd.prog env 53 2 [.vy 0, .ms 6 0 (k + 1) 2 none, .mp 7 0, .p (.ps xs.length 8 (encL xs)), sI .i64 (↑xs.length : Int), sI .i64 (↑(i + 1) : Int)] ([.ob (loopK Tryd.prog 46 0 (endState none) none) [.p (.ps l.length 8 (encL l)), .junk, .mp 2 0, sB false, .mp 3 0, .mp 4 0, .mp 5 0, .junk, .junk, .p (.ps l.length 8 (encL l)), .fn (Fn.func 53) [] [.mp 1 0], .junk, .junk, .junk, .junk, .junk, .junk, .junk, .junk, .junk, .junk, .junk, .junk, .junk, .junk, .junk, .junk, .junk, .junk, .junk, .junk, .junk, .junk, .junk, .junk, .junk, .junk], .pc [.ps l.length 8 (encL l)], .pc [sP 0], .pc [sP (bif false then Min.min tags (↑tg.length : Int) else Max.max tags (↑tg.length : Int))], .pc [sP (n + 1)], .pc [sP (bif false then Min.min most d else Max.max most d)], .ob (ObK.gr 111 true) (List.map keepP (List.take (k * 2) cells ++ [.p (.ps ll.length 8 (encL ll)), sI .i64 (d + 1)])), .ac [.p (.ps xs.length 8 (encL xs)), sI .i64 d]]) 6 64))))))
 (.test (decide ((↑le.length : Int) > 0))
 (.need (sI .i64 (IntKind.i64.wrap (d + 1)) = sI IntKind.i64 (d + 1))
 (.must (((k + 1) * 32).ble lim && (k + 1).ble lim && ((k * 2).ble cells.length && true) && true)
 (.need (sI .i64 (IntKind.i64.wrap ((↑i : Int) + 1)) = sI IntKind.i64 (↑(i + 1) : Int))
 (.at (bodyCfg Tryd.prog env 53 2 [.vy 0, .ms 6 0 (k + 1) 2 none, .mp 7 0, .p (.ps xs.length 8 (encL xs)), sI .i64 (↑xs.length : Int), sI .i64 (↑(i + 1) : Int)] ([.ob (loopK Tryd.prog 46 0 (endState none) none) [.p (.ps l.length 8 (encL l)), .junk, .mp 2 0, sB false, .mp 3 0, .mp 4 0, .mp 5 0, .junk, .junk, .p (.ps l.length 8 (encL l)), .fn (Fn.func 53) [] [.mp 1 0], .junk, .junk, .junk, .junk, .junk, .junk, .junk, .junk, .junk, .junk, .junk, .junk, .junk, .junk, .junk, .junk, .junk, .junk, .junk, .junk, .junk, .junk, .junk, .junk, .junk, .junk], .pc [.ps l.length 8 (encL l)], .pc [sP 0], .pc [sP (bif false then Min.min tags (↑tg.length : Int) else Max.max tags (↑tg.length : Int))], .pc [sP (n + 1)], .pc [sP (bif false then Min.min most d else Max.max most d)], .ob (ObK.gr 111 true) (List.map keepP (List.take (k * 2) cells ++ [.p (.ps le.length 8 (encL le)), sI .i64 (d + 1)])), .ac [.p (.ps xs.length 8 (encL xs)), sI .i64 d]]) 6 64)))))
 (.need (sI .i64 (IntKind.i64.wrap ((↑i : Int) + 1)) = sI IntKind.i64 (↑(i + 1) : Int))
 (.at (bodyCfg Tryd.prog env 53 2 [.vy 0, .ms 6 0 k 2 none, .mp 7 0, .p (.ps xs.length 8 (encL xs)), sI .i64 (↑xs.length : Int), sI .i64 (↑(i + 1) : Int)] ([.ob (loopK Tryd.prog 46 0 (endState none) none) [.p (.ps l.length 8 (encL l)), .junk, .mp 2 0, sB false, .mp 3 0, .mp 4 0, .mp 5 0, .junk, .junk, .p (.ps l.length 8 (encL l)), .fn (Fn.func 53) [] [.mp 1 0], .junk, .junk, .junk, .junk, .junk, .junk, .junk, .junk, .junk, .junk, .junk, .junk, .junk, .junk, .junk, .junk, .junk, .junk, .junk, .junk, .junk, .junk, .junk, .junk, .junk, .junk], .pc [.ps l.length 8 (encL l)], .pc [sP 0], .pc [sP (bif false then Min.min tags (↑tg.length : Int) else Max.max tags (↑tg.length : Int))], .pc [sP (n + 1)], .pc [sP (bif false then Min.min most d else Max.max most d)], .ob (ObK.gr 111 true) (List.map keepP cells), .ac [.p (.ps xs.length 8 (encL xs)), sI .i64 d]]) 6 64)))))))))))
 (.at (bodyCfg Tryd.prog env 53 0 [.vy 0, .ms 6 0 k 2 none] ([.ob (loopK Tryd.prog 46 0 LoopState.ready none) [.p (.ps l.length 8 (encL l)), .junk, .mp 2 0, sB false, .mp 3 0, .mp 4 0, .mp 5 0, .junk, .junk, .p (.ps l.length 8 (encL l)), .fn (Fn.func 53) [] [.mp 1 0], .junk, .junk, .junk, .junk, .junk, .junk, .junk, .junk, .junk, .junk, .junk, .junk, .junk, .junk, .junk, .junk, .junk, .junk, .junk, .junk, .junk, .junk, .junk, .junk, .junk, .junk], .pc [.ps l.length 8 (encL l)], .pc [sP 0], .pc [sP tags], .pc [sP n], .pc [sP most], .ob (ObK.gr 111 true) (List.map keepP cells)]) 6 64)))
theorem inn_tree (l : List Ins) (tags n most : Int) (cells : List AV) (k : Nat) (xs : List Ins) (d : Int) (i : Nat) (op r a b nn : Int) (tg : List Int) (ll : List Ins) (le : List Ins) (ok : Bool) : grow Tryd.prog env (innOrc l tags n most cells k xs d i op r a b nn tg ll le ok) 1000000 true (bodyCfg Tryd.prog env 53 2 ([AV.vy 0, AV.ms 6 0 k 2 Option.none, AV.mp 7 0, aL xs, sI IntKind.i64 (↑xs.length : Int), sI IntKind.i64 (↑i : Int)]) (memC l tags n most cells ++ [Blk.ac [aL xs, sI IntKind.i64 d]]) 6 64) innSc atEnd = innTree l tags n most cells k xs d i op r a b nn tg ll le ok := by kernel_rfl

noncomputable def finC (l : List Ins) (tags n most : Int) : Out := .ret (.tup []) [recC l .ready none, .pc [.ps l.length 8 (encL l)], .pc [sP 0], .pc [sP tags], .pc [sP n], .pc [sP most]]
noncomputable def badC (l : List Ins) (tags n most : Int) : Out := .ret (.tup []) [recC l .done (some .ret), .pc [.ps l.length 8 (encL l)], .pc [sP 2], .pc [sP tags], .pc [sP n], .pc [sP most]]

def bigN : Nat := 1000000000000

def ToldC (p : Ins → Bool) (l : List Ins) (st : InsS) (tags n most : Nat) (o : Out) : Prop :=
  (okS p st = true ∧ o = finC l (max tags (tagS st) : Nat) (n + numS st : Nat) (max most (depS st) : Nat)) ∨ (okS p st = false ∧ ∃ t k m, o = badC l t k m)

section
variable (p : Ins → Bool) (hp : ∀ x : Ins, Does Tryd.prog env 54 [aggX x] [] (sB (p x)) []) (l : List Ins)

include hp in
theorem chk_inner (N : Nat) (ih : ∀ (st : InsS) (cells : List AV) (tags n most : Nat), wS st < N → StkAt st cells → n + numS st ≤ bigN → wS st ≤ bigN → (∀ e ∈ st, e.2 + numL e.1 ≤ bigN) →
      ∃ o, Am.Good Tryd.prog env (bodyCfg Tryd.prog env 53 0 [.vy 0, .ms 6 0 st.length 2 none] (memC l tags n most cells) 6 64) o ∧ ToldC p l st tags n most o) (xs : List Ins) (hxs : xs.length ≤ bigN) (d : Nat) :
    ∀ (r i : Nat) (st : InsS) (cells : List AV) (tags n most : Nat), i + r = xs.length → wS st + 2 * numL (xs.drop i) < N → StkAt st cells → n + numS st + numL (xs.drop i) ≤ bigN → wS st + 2 * numL (xs.drop i) ≤ bigN → (∀ e ∈ st, e.2 + numL e.1 ≤ bigN) → d + numL (xs.drop i) ≤ bigN →
      ∃ o, Am.Good Tryd.prog env (bodyCfg Tryd.prog env 53 2 [.vy 0, .ms 6 0 st.length 2 none, .mp 7 0, aL xs, sI .i64 xs.length, sI .i64 i] (memC l tags n most cells ++ [.ac [aL xs, sI .i64 d]]) 6 64) o ∧ ToldC p l (st ++ [(xs.drop i, d)]) tags n most o := by
  intro r
  induction r with
  | zero =>
    intro i st cells tags n most hi hN ht hn hw he hd
    have h1 : xs.drop i = [] := List.drop_eq_nil_of_le (by omega)
    rw [h1] at hN hn hw ⊢
    simp only [numL] at hN hn hw
    obtain ⟨o, ho, hq⟩ := ih st (cells.map keepP) tags n most (by omega) ht.keep (by omega) (by omega) he
    refine ⟨o, good_of_tree names (inn_tree l tags n most cells st.length xs d i 0 0 0 0 0 [] [] [] true) ?_, ?_⟩
    · have h2 : ¬ ((i : Int) < xs.length) := by omega
      simp only [innTree, Tree.ok]
      exact ⟨fun h => absurd (by simpa using h) h2, fun _ => ho⟩
    · unfold ToldC at hq ⊢
      rw [okS_append, numS_append, tagS_append, depS_append]
      simpa [okL, numL, tagL, depL] using hq
  | succ r ihr =>
    intro i st cells tags n most hi hN ht hn hw he hd
    have hkl : i < xs.length := by omega
    have hgx : xs[i]? = some xs[i] := List.getElem?_eq_getElem hkl
    have hdr : xs.drop i = xs[i] :: xs.drop (i + 1) := List.drop_eq_getElem_cons hkl
    rw [hdr] at hN hn hw hd ⊢
    generalize xs[i] = x at *
    generalize hys : xs.drop (i + 1) = ys at *
    obtain ⟨op, rs, a, b, nn, tg, ll, le⟩ := x
    obtain ⟨c0, c1, c2, c3, c4, c5, c6, c7⟩ := cells_at hgx
    have hpx := hp (.mk op rs a b nn tg ll le)
    have hbig : bigN = 1000000000000 := rfl
    have hlim : lim = 70368744177664 := rfl
    simp only [numL, numI] at hN hn hw hd
    have hsl := wS_length st
    have hcl := ht.len
    have w1 : IntKind.i64.wrap ((i : Int) + 1) = ((i + 1 : Nat) : Int) := by rw [i64In (by omega) (by omega)]; rfl
    have w2 : IntKind.i64.wrap ((d : Int) + 1) = ((d + 1 : Nat) : Int) := by rw [i64In (by omega) (by omega)]; rfl
    have w3 : IntKind.i64.wrap ((n : Int) + 1) = ((n + 1 : Nat) : Int) := by rw [i64In (by omega) (by omega)]; rfl
    have hiI : (i : Int) < (xs.length : Int) := by omega
    cases hok : p (.mk op rs a b nn tg ll le) with
    | false =>
      refine ⟨badC l tags n most, good_of_tree names (inn_tree l tags n most cells st.length xs d i op rs a b nn tg ll le false) ?_, .inr ⟨?_, _, _, _, rfl⟩⟩
      · simp only [innTree, Tree.ok, Int.toNat_natCast, Nat.add_assoc, Nat.reduceAdd, c0, c1, c2, c3, c4, c5, c6, c7, isInt, isPs, pvInt, psLen, psSz, psCells, inB]
        refine ⟨fun _ => ⟨by simp [hiI], by simp, rfl, ?_, fun _ => rfl, fun h => by cases h⟩, fun h => absurd hiI (by simpa using h)⟩
        rw [hok] at hpx; exact hpx
      · rw [okS_append, okS_one, okL, okI, hok]; simp
    | true =>
      -- what is pushed
      have next : ∀ (s : InsS) (cs : List AV), StkAt (st ++ s) cs → wS s ≤ 2 * (numL ll + numL le) + 2 → numS s = numL ll + numL le → okS p s = (okL p ll && okL p le) → tagS s = max (tagL ll) (tagL le) → depS s = max (depL (d + 1) ll) (depL (d + 1) le) → (∀ e ∈ s, e.2 + numL e.1 ≤ bigN) →
          ∃ o, Am.Good Tryd.prog env (bodyCfg Tryd.prog env 53 2 [.vy 0, .ms 6 0 (st ++ s).length 2 none, .mp 7 0, aL xs, sI .i64 xs.length, sI .i64 (i + 1 : Nat)] (memC l (max tags tg.length : Nat) (n + 1 : Nat) (max most d : Nat) cs ++ [.ac [aL xs, sI .i64 d]]) 6 64) o ∧ ToldC p l (st ++ [(.mk op rs a b nn tg ll le :: ys, d)]) tags n most o := by
        intro s cs hts hws hns hos htg hds hes
        obtain ⟨o, ho, hq⟩ := ihr (i + 1) (st ++ s) cs (max tags tg.length) (n + 1) (max most d) (by omega) (by rw [wS_append, hys]; omega) hts (by rw [numS_append, hys]; omega) (by rw [wS_append, hys]; omega)
          (fun e hm => (List.mem_append.1 hm).elim (he e) (hes e)) (by rw [hys]; omega)
        refine ⟨o, ho, ?_⟩
        rw [hys] at hq
        unfold ToldC at hq ⊢
        simp only [okS_append, numS_append, tagS_append, depS_append, okS_one, numS_one, tagS_one, depS_one, hos, hns, htg, hds] at hq ⊢
        simp only [okL, okI, numL, numI, tagL, tagI, depL, depI, hok, Bool.true_and]
        rcases hq with ⟨q1, q2⟩ | ⟨q1, q2⟩
        · refine .inl ⟨by rw [Bool.and_assoc] at q1; exact q1, ?_⟩
          rw [q2]
          congr 1 <;> congr 1 <;> omega
        · exact .inr ⟨by rw [Bool.and_assoc] at q1; exact q1, q2⟩
      have tree := inn_tree l tags n most cells st.length xs d i op rs a b nn tg ll le true
      have hpx' : Does Tryd.prog env 54 [aggI op rs a b nn tg ll le] [] (sB true) [] := by rw [hok] at hpx; exact hpx
      have mx1 : max (tags : Int) (tg.length : Int) = ((max tags tg.length : Nat) : Int) := by omega
      have mx2 : max (most : Int) (d : Int) = ((max most d : Nat) : Int) := by omega
      have nl : ∀ z : List Ins, z ≠ [] → 0 < (z.length : Int) := fun z hz => by have := List.length_pos_iff.2 hz; omega
      by_cases hll : ll = []
      · by_cases hle : le = []
        · subst hll; subst hle
          obtain ⟨o, ho, hq⟩ := next [] (cells.map keepP) (by rw [List.append_nil]; exact ht.keep) (by simp [wS, numL]) (by simp [numS, numL]) (by simp [okS, okL]) (by simp [tagS, tagL]) (by simp [depS, depL]) (fun _ h => by cases h)
          refine ⟨o, good_of_tree names tree ?_, hq⟩
          simp only [innTree, Tree.ok, Int.toNat_natCast, Nat.add_assoc, Nat.reduceAdd, c0, c1, c2, c3, c4, c5, c6, c7, isInt, isPs, pvInt, psLen, psSz, psCells, inB, w1, w2, w3, cond_false, mx1, mx2]
          rw [List.append_nil] at ho
          exact ⟨fun _ => ⟨by simp [hiI], by simp, rfl, hpx', fun h => (by cases h), fun _ => ⟨rfl, fun h => (by simp at h), fun _ => ⟨fun h => (by simp at h), fun _ => ⟨(by trivial), ho⟩⟩⟩⟩, fun h => absurd hiI (by simpa using h)⟩
        · subst hll
          have nle := nl le hle
          obtain ⟨o, ho, hq⟩ := next [(le, d + 1)] _ (ht.push le (d + 1)).keep (by simp [numL]) (by simp [numL]) (by simp [okL]) (by simp [tagL]) (by simp [depL]) (fun e h => by simp only [List.mem_singleton] at h; subst h; simp only; omega)
          refine ⟨o, good_of_tree names tree ?_, hq⟩
          simp only [innTree, Tree.ok, Int.toNat_natCast, Nat.add_assoc, Nat.reduceAdd, c0, c1, c2, c3, c4, c5, c6, c7, isInt, isPs, pvInt, psLen, psSz, psCells, inB, w1, w2, w3, cond_false, mx1, mx2]
          rw [List.length_append] at ho
          exact ⟨fun _ => ⟨by simp [hiI], by simp, rfl, hpx', fun h => (by cases h), fun _ => ⟨rfl, fun h => (by simp at h), fun _ => ⟨fun _ => ⟨rfl, (by simp; omega), (by trivial), ho⟩, fun h => absurd nle (by simpa using h)⟩⟩⟩, fun h => absurd hiI (by simpa using h)⟩
      · have nll := nl ll hll
        by_cases hle : le = []
        · subst hle
          obtain ⟨o, ho, hq⟩ := next [(ll, d + 1)] _ (ht.push ll (d + 1)).keep (by simp [numL]) (by simp [numL]) (by simp [okL]) (by simp [tagL]) (by simp [depL]) (fun e h => by simp only [List.mem_singleton] at h; subst h; simp only; omega)
          refine ⟨o, good_of_tree names tree ?_, hq⟩
          simp only [innTree, Tree.ok, Int.toNat_natCast, Nat.add_assoc, Nat.reduceAdd, c0, c1, c2, c3, c4, c5, c6, c7, isInt, isPs, pvInt, psLen, psSz, psCells, inB, w1, w2, w3, cond_false, mx1, mx2]
          rw [List.length_append] at ho
          exact ⟨fun _ => ⟨by simp [hiI], by simp, rfl, hpx', fun h => (by cases h), fun _ => ⟨rfl, fun _ => ⟨rfl, (by simp; omega), fun h => (by simp at h), fun _ => ⟨(by trivial), ho⟩⟩, fun h => absurd nll (by simpa using h)⟩⟩, fun h => absurd hiI (by simpa using h)⟩
        · have nle := nl le hle
          have hp2 := (ht.push ll (d + 1)).push le (d + 1)
          rw [List.append_assoc] at hp2
          obtain ⟨o, ho, hq⟩ := next [(ll, d + 1), (le, d + 1)] _ hp2.keep (by simp [wS]; omega) (by simp [numS]) (by simp [okS]) (by simp [tagS]) (by simp [depS]) (fun e h => by simp only [List.mem_cons, List.not_mem_nil, or_false] at h; rcases h with rfl | rfl <;> simp only <;> omega)
          refine ⟨o, good_of_tree names tree ?_, hq⟩
          simp only [innTree, Tree.ok, Int.toNat_natCast, Nat.add_assoc, Nat.reduceAdd, c0, c1, c2, c3, c4, c5, c6, c7, isInt, isPs, pvInt, psLen, psSz, psCells, inB, w1, w2, w3, cond_false, mx1, mx2]
          simp only [List.length_append, List.length_cons, List.length_nil, Nat.reduceAdd] at ho
          exact ⟨fun _ => ⟨by simp [hiI], by simp, rfl, hpx', fun h => (by cases h), fun _ => ⟨rfl, fun _ => ⟨rfl, (by simp; omega), fun _ => ⟨rfl, (by simp; omega), (by trivial), ho⟩, fun h => absurd nle (by simpa using h)⟩, fun h => absurd nll (by simpa using h)⟩⟩, fun h => absurd hiI (by simpa using h)⟩

include hp in
theorem chk_outer : ∀ (N : Nat) (st : InsS) (cells : List AV) (tags n most : Nat), wS st < N → StkAt st cells → n + numS st ≤ bigN → wS st ≤ bigN → (∀ e ∈ st, e.2 + numL e.1 ≤ bigN) →
      ∃ o, Am.Good Tryd.prog env (bodyCfg Tryd.prog env 53 0 [.vy 0, .ms 6 0 st.length 2 none] (memC l tags n most cells) 6 64) o ∧ ToldC p l st tags n most o
  | 0, _, _, _, _, _, h, _, _, _, _ => by omega
  | N + 1, st, cells, tags, n, most, hN, ht, hn, hw, he => by
    rcases List.eq_nil_or_concat st with rfl | ⟨s, ⟨x, d⟩, rfl⟩
    · exact ⟨_, good_of_tree names (oue_tree l tags n most cells) rfl, .inl ⟨rfl, (by simp [tagS, numS, depS]; rfl)⟩⟩
    · rw [List.concat_eq_append] at *
      have hx := he (x, d) (by simp)
      rw [wS_append, wS_one] at hN hw
      rw [numS_append, numS_one] at hn
      obtain ⟨t0, t1⟩ := ht.top
      have hcl := ht.len
      have hsl := wS_length s
      have hbig : bigN = 1000000000000 := rfl
      have hnx := numL_length x
      simp only [List.length_append, List.length_cons, List.length_nil] at hcl hx
      obtain ⟨o, ho, hq⟩ := chk_inner p hp l N (fun st cells tags n most => chk_outer N st cells tags n most) x (by omega) d x.length 0 s (cells.map keepP) tags n most (by omega) (by rw [List.drop_zero]; omega) ht.pop.keep (by rw [List.drop_zero]; omega) (by rw [List.drop_zero]; omega)
        (fun e hm => he e (List.mem_append_left _ hm)) (by rw [List.drop_zero]; omega)
      rw [List.drop_zero] at hq
      refine ⟨o, ?_, hq⟩
      have w1 : IntKind.i64.wrap (((s.length + 1 : Nat) : Int) - 1) = (s.length : Int) := by rw [i64In (by omega) (by omega)]; omega
      rw [List.length_append, List.length_singleton]
      refine good_of_tree names (out_tree l tags n most cells s.length x d) ?_
      simp only [outTree, Tree.ok, Int.toNat_natCast, Nat.zero_add, t0, t1, normA, normP, w1, isInt, isPs, pvInt, psLen, psSz, psCells, inB, Nat.sub_zero]
      exact ⟨fun _ => ⟨(by trivial), (by simp; omega), (by simp; omega), (by trivial), (by trivial), (by simp), ho⟩, fun h => absurd h (by simp)⟩

end
end Go.Proofs.YtdmmllcjgjmbbaaDoor.N
end

section
namespace Go.Proofs.YtdmmllcjgjmbbaaDoor.N
open Go Go.Am

section
variable (l : List Ins)

end
end Go.Proofs.YtdmmllcjgjmbbaaDoor.N
end

section
namespace Go.Proofs.YtdmmllcjgjmbbaaDoor.N
open Go Go.Am

noncomputable def chkG (l : List Ins) (tags n most : Int) (f : FuncId) (_ : List AV) (_ : Mem) : Option (AV × Mem) := cond (Nat.beq f 53) (some (.tup [], [recC l .ready none, .pc [.ps l.length 8 (encL l)], .pc [sP 0], .pc [sP tags], .pc [sP n], .pc [sP most]])) none
noncomputable def chkB (l : List Ins) (tags n most : Int) (f : FuncId) (_ : List AV) (_ : Mem) : Option (AV × Mem) := cond (Nat.beq f 53) (some (.tup [], [recC l .done (some .ret), .pc [.ps l.length 8 (encL l)], .pc [sP 2], .pc [sP tags], .pc [sP n], .pc [sP most]])) none
noncomputable def alCOrc : Orc := orcL noCall noLed [(53, 0)] [] []
def alCSc : Sc := .fin
noncomputable def alCTree (l : List Ins) : Tree :=
 (.at (bodyCfg Tryd.prog env 53 0 [.vy 0, .ms 6 0 1 2 none] ([.ob (loopK Tryd.prog 46 0 LoopState.ready none) [.p (.ps l.length 8 (encL l)), .junk, .mp 2 0, sB false, .mp 3 0, .mp 4 0, .mp 5 0, .junk, .junk, .p (.ps l.length 8 (encL l)), .fn (Fn.func 53) [] [.mp 1 0], .junk, .junk, .junk, .junk, .junk, .junk, .junk, .junk, .junk, .junk, .junk, .junk, .junk, .junk, .junk, .junk, .junk, .junk, .junk, .junk, .junk, .junk, .junk, .junk, .junk, .junk], .pc [.ps l.length 8 (encL l)], .pc [sP 0], .pc [sP 0], .pc [sP 0], .pc [sP 0], .ob (ObK.gr 111 true) [.p (.ps l.length 8 (encL l)), sI .i64 1]]) 6 64))
theorem alC_tree (l : List Ins) : growF Tryd.prog env alCOrc 1000000 53 ([AV.vy 0, AV.mp 1 0]) ([recC l LoopState.ready Option.none, Blk.pc [PV.ps l.length 8 (encL l)], Blk.pc [sP 0], Blk.pc [sP 0], Blk.pc [sP 0], Blk.pc [sP 0]]) alCSc = alCTree l := by kernel_rfl

noncomputable def chkGOrc (l : List Ins) (tags n most : Int) : Orc := orcL (chkG l tags n most) noLed [] [(46, 10, 3), (46, 10, 7), (46, 0, 0)] []
def chkGSc : Sc := (.fork (.lit (.lit .fin)) (.fork (.lit .fin) .fin))
noncomputable def chkGTree (l : List Ins) (tags n most : Int) : Tree :=
 (.call ⟨53, [.vy 0, .mp 1 0], [.ob (loopK Tryd.prog 46 0 LoopState.ready none) [.p (.ps l.length 8 (encL l)), .junk, .mp 2 0, sB false, .mp 3 0, .mp 4 0, .mp 5 0, .junk, .junk, .p (.ps l.length 8 (encL l)), .fn (Fn.func 53) [] [.mp 1 0], .junk, .junk, .junk, .junk, .junk, .junk, .junk, .junk, .junk, .junk, .junk, .junk, .junk, .junk, .junk, .junk, .junk, .junk, .junk, .junk, .junk, .junk, .junk, .junk, .junk, .junk], .pc [.ps l.length 8 (encL l)], .pc [sP 0], .pc [sP 0], .pc [sP 0], .pc [sP 0]], .tup [], [.ob (loopK Tryd.prog 46 0 LoopState.ready none) [.p (.ps l.length 8 (encL l)), .junk, .mp 2 0, sB false, .mp 3 0, .mp 4 0, .mp 5 0, .junk, .junk, .p (.ps l.length 8 (encL l)), .fn (Fn.func 53) [] [.mp 1 0], .junk, .junk, .junk, .junk, .junk, .junk, .junk, .junk, .junk, .junk, .junk, .junk, .junk, .junk, .junk, .junk, .junk, .junk, .junk, .junk, .junk, .junk, .junk, .junk, .junk, .junk], .pc [.ps l.length 8 (encL l)], .pc [sP 0], .pc [sP tags], .pc [sP n], .pc [sP most]]⟩
 (.test (decide (n > 262144))
 (.out (.ret (sI .i64 141) []))
 (.test (decide (tags > 16384))
 (.out (.ret (sI .i64 141) []))
 (.test (decide (most > 900))
 (.out (.ret (sI .i64 141) []))
 (.out (.ret (sI .i64 0) []))))))
theorem chkG_tree (l : List Ins) (tags n most : Int) : growF Tryd.prog env (chkGOrc l tags n most) 1000000 46 ([aL l]) ([]) chkGSc = chkGTree l tags n most := by kernel_rfl

noncomputable def chkBOrc (l : List Ins) (tags n most : Int) : Orc := orcL (chkB l tags n most) noLed [] [] []
def chkBSc : Sc := .fin
noncomputable def chkBTree (l : List Ins) (tags n most : Int) : Tree :=
 (.call ⟨53, [.vy 0, .mp 1 0], [.ob (loopK Tryd.prog 46 0 LoopState.ready none) [.p (.ps l.length 8 (encL l)), .junk, .mp 2 0, sB false, .mp 3 0, .mp 4 0, .mp 5 0, .junk, .junk, .p (.ps l.length 8 (encL l)), .fn (Fn.func 53) [] [.mp 1 0], .junk, .junk, .junk, .junk, .junk, .junk, .junk, .junk, .junk, .junk, .junk, .junk, .junk, .junk, .junk, .junk, .junk, .junk, .junk, .junk, .junk, .junk, .junk, .junk, .junk, .junk], .pc [.ps l.length 8 (encL l)], .pc [sP 0], .pc [sP 0], .pc [sP 0], .pc [sP 0]], .tup [], [.ob (loopK Tryd.prog 46 0 LoopState.done (some Code.ret)) [.p (.ps l.length 8 (encL l)), .junk, .mp 2 0, sB false, .mp 3 0, .mp 4 0, .mp 5 0, .junk, .junk, .p (.ps l.length 8 (encL l)), .fn (Fn.func 53) [] [.mp 1 0], .junk, .junk, .junk, .junk, .junk, .junk, .junk, .junk, .junk, .junk, .junk, .junk, .junk, .junk, .junk, .junk, .junk, .junk, .junk, .junk, .junk, .junk, .junk, .junk, .junk, .junk], .pc [.ps l.length 8 (encL l)], .pc [sP 2], .pc [sP tags], .pc [sP n], .pc [sP most]]⟩
 (.out (.ret (sI .i64 2) [])))
theorem chkB_tree (l : List Ins) (tags n most : Int) : growF Tryd.prog env (chkBOrc l tags n most) 1000000 46 ([aL l]) ([]) chkBSc = chkBTree l tags n most := by kernel_rfl

theorem stk_one (l : List Ins) : StkAt [(l, 1)] [.p (.ps l.length 8 (encL l)), .p (.sc (.int .i64 1))] := rfl

def checkF (p : Ins → Bool) (l : List Ins) : Int := if okL p l = false then 2 else if 262144 < numL l ∨ 16384 < tagL l ∨ 900 < depL 1 l then 141 else 0

theorem check_does {p : Ins → Bool} (hp : ∀ x : Ins, Does Tryd.prog env 54 [aggX x] [] (sB (p x)) []) (l : List Ins) (h : numL l ≤ 100000000000) : Does Tryd.prog env 46 [aL l] [] (sI .i64 (checkF p l)) [] := by
  have hbig : bigN = 1000000000000 := rfl
  obtain ⟨o, ho, hq⟩ := chk_outer p hp l (2 * numL l + 2) [(l, 1)] _ 0 0 0 (by simp) (stk_one l) (by simp; omega) (by simp; omega) (fun e he => by simp only [List.mem_singleton] at he; subst he; simp only; omega)
  rcases hq with ⟨q1, rfl⟩ | ⟨q1, t, k, m, rfl⟩
  · have hd : Does Tryd.prog env 53 [.vy 0, .mp 1 0] _ (.tup []) _ := does_of_tree names (alC_tree l) ho
    refine does_of_tree names (chkG_tree l _ _ _) ⟨hd, ?_⟩
    rw [okS_one] at q1
    simp only [tagS_one, numS_one, depS_one, Nat.zero_add, Nat.zero_max]
    have z : ∀ a b : Nat, decide ((a : Int) > (b : Int)) = decide (b < a) := fun a b => by congr 1; exact propext (by omega)
    unfold checkF
    rw [if_neg (by rw [q1]; simp)]
    refine ⟨fun h1 => ?_, fun h1 => ⟨fun h2 => ?_, fun h2 => ⟨fun h3 => ?_, fun h3 => ?_⟩⟩⟩ <;> simp only [decide_eq_true_eq, decide_eq_false_iff_not] at *
    · rw [if_pos (by omega)]; rfl
    · rw [if_pos (by omega)]; rfl
    · rw [if_pos (by omega)]; rfl
    · rw [if_neg (by omega)]; rfl
  · have hd : Does Tryd.prog env 53 [.vy 0, .mp 1 0] _ (.tup []) _ := does_of_tree names (alC_tree l) ho
    refine does_of_tree names (chkB_tree l t k m) ⟨hd, ?_⟩
    rw [okS_one] at q1
    unfold checkF
    rw [if_pos q1]; rfl

end Go.Proofs.YtdmmllcjgjmbbaaDoor.N
end

section
namespace Go.Am
open Go.RowKit

section
variable {H : Type} {enc : TypeId × Value → H} {P : Program} {w : World} {base : Nat} {spare : Nat → Bool} {held : Bool} {tL tI ti tu tn tt : TypeId} {fs : Array Field}

theorem vas_of_vps {g : Gh} {w : World} : ∀ {l : List PV} {cs : List Value}, VPs g w l cs → VAs g w (l.map .p) cs
  | [], [], _ => trivial
  | _ :: _, _ :: _, h => ⟨.p _ _ h.1, vas_of_vps h.2⟩
  | [], _ :: _, h => h.elim
  | _ :: _, [], h => h.elim

end
end Go.Am
end

section
namespace Go.Am
open Go.RowKit

section
variable {H : Type} {enc : TypeId × Value → H} {P : Program} {w : World} {base : Nat} {spare : Nat → Bool} {held : Bool}

theorem va_agg {g : Gh} {w : World} {l : List PV} {cs : Array Value} (h : VPs g w l cs.toList) : VA g w (.agg (l.map .p)) (.agg cs) := by
  rw [VA.aggs]
  exact vas_of_vps h

end
end Go.Am
end

section
namespace Go.Am

open Classical in
noncomputable def ofCells {α : Type} (d : α) (F : List Ins → α) (cs : List PV) : α := if h : ∃ l, cs = encL l then F h.choose else d

end Go.Am
end
