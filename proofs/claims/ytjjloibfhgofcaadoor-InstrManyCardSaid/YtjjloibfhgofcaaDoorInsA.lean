/-
  Lists of instructions: what a row's data says of them, as pure values. (For any program with such a type.)
-/
import Derived.Test.YtjjloibfhgofcaaDoorAm24
namespace Go.Am
open Go.RowKit

/-- An instruction: its operation, results, words, number, labels, lists. -/
inductive Ins where
  | mk (op results a b n : Int) (tags : List Int) (l e : List Ins)

namespace Ins
def op : Ins → Int | .mk op _ _ _ _ _ _ _ => op
def results : Ins → Int | .mk _ r _ _ _ _ _ _ => r
def a : Ins → Int | .mk _ _ a _ _ _ _ _ => a
def b : Ins → Int | .mk _ _ _ b _ _ _ _ => b
def n : Ins → Int | .mk _ _ _ _ n _ _ _ => n
def tags : Ins → List Int | .mk _ _ _ _ _ t _ _ => t
def l : Ins → List Ins | .mk _ _ _ _ _ _ l _ => l
def e : Ins → List Ins | .mk _ _ _ _ _ _ _ e => e
end Ins

def encT (k : IntKind) (l : List Int) : List PV := l.map fun t => .sc (.int k t)

mutual
def encI : Ins → List PV
  | .mk op r a b n tags l e => [.sc (.int .i64 op), .sc (.int .i64 r), .sc (.int .u32 a), .sc (.int .u32 b), .sc (.int .i32 n), .ps tags.length 1 (encT .u32 tags), .ps l.length 8 (encL l), .ps e.length 8 (encL e)]
def encL : List Ins → List PV
  | [] => []
  | x :: r => encI x ++ encL r
end

mutual
def wfI : Ins → Prop
  | .mk op r a b n tags l e => (Lit.int .i64 op).wf = true ∧ (Lit.int .i64 r).wf = true ∧ (Lit.int .u32 a).wf = true ∧ (Lit.int .u32 b).wf = true ∧ (Lit.int .i32 n).wf = true ∧ (tags.length ≤ maxLen ∧ ∀ t ∈ tags, (Lit.int .u32 t).wf = true) ∧ (l.length ≤ maxLen ∧ wfL l) ∧ e.length ≤ maxLen ∧ wfL e
def wfL : List Ins → Prop
  | [] => True
  | x :: r => wfI x ∧ wfL r
end

theorem encL_flat : ∀ l : List Ins, encL l = l.flatMap encI
  | [] => rfl
  | x :: r => by rw [encL, encL_flat r]; rfl

theorem wfL_all : ∀ {l : List Ins}, (∀ x ∈ l, wfI x) → wfL l
  | [], _ => trivial
  | x :: _, h => ⟨h x (.head _), wfL_all fun y hy => h y (.tail _ hy)⟩

theorem encI_length : ∀ x : Ins, (encI x).length = 8
  | .mk .. => rfl

theorem encL_length : ∀ l : List Ins, (encL l).length = l.length * 8
  | [] => rfl
  | x :: r => by rw [encL, List.length_append, encI_length, encL_length r, List.length_cons]; omega

/-- The types of instructions in a program. -/
structure InsT (P : Program) (tL tI ti tu tn tt : TypeId) (fs : Array Field) : Prop where
  hL : P.underlying tL = some (.slice tI)
  hI : P.underlying tI = some (.struct fs)
  hz : P.cellsOf tI = 8
  hf : fs.toList.map (fun f => (f.offset, f.type)) = [(0, ti), (1, ti), (2, tu), (3, tu), (4, tn), (5, tt), (6, tL), (7, tL)]
  h1 : P.cellsOf ti = 1 ∧ P.cellsOf tu = 1 ∧ P.cellsOf tn = 1 ∧ P.cellsOf tt = 1 ∧ P.cellsOf tL = 1
  ki : P.underlying ti = some (.int .i64)
  ku : P.underlying tu = some (.int .u32)
  kn : P.underlying tn = some (.int .i32)
  kt : P.underlying tt = some (.slice tu)

section
variable {H : Type} {enc : TypeId × Value → H} {P : Program} {w : World} {base : Nat} {spare : Nat → Bool} {held : Bool} {tL tI ti tu tn tt : TypeId} {fs : Array Field}

theorem fld {i : Nat} {o t : Nat} (hf : (fs.toList.map fun f => (f.offset, f.type))[i]? = some (o, t)) : ∃ f, fs[i]? = some f ∧ f.offset = o ∧ f.type = t := by
  rw [List.getElem?_map] at hf
  cases h : fs.toList[i]? with
  | none => rw [h] at hf; cases hf
  | some f =>
    rw [h] at hf
    simp only [Option.map_some, Option.some.injEq, Prod.mk.injEq] at hf
    exact ⟨f, by simpa using h, hf.1, hf.2⟩

theorem CellsOk.cat {w : World} {x : PV} {l : List PV} {v : Value} {cs : List Value} (h : CellsOk w [x] [v]) (k : CellsOk w l cs) : CellsOk w (x :: l) (v :: cs) := h.append k

theorem ins_of_trod (T : InsT P tL tI ti tu tn tt fs) : ∀ (fuel : Nat) (cs : List Value) (x : DataW H × List MemPlace), DataW.trod enc P w base spare held fuel tL cs = some x →
    ∃ l : List Ins, (l.length ≤ maxLen ∧ wfL l) ∧ CellsOk w [.ps l.length 8 (encL l)] cs := by
  intro fuel
  induction fuel using Nat.strongRecOn with
  | ind fuel ih =>
    intro cs x h
    obtain ⟨xs, h0, h1, h2⟩ := cells_of_slice (encE := encI) (wf := wfI) T.hL (by rw [T.hz]; omega) h fun n hn us y hy => by
      obtain ⟨m, rfl, hlen, hg⟩ := cells_of_struct T.hI hy
      rw [T.hz] at hlen
      have get : ∀ (i : Nat) (o t : Nat), [(0, ti), (1, ti), (2, tu), (3, tu), (4, tn), (5, tt), (6, tL), (7, tL)][i]? = some (o, t) → P.cellsOf t = 1 → ∃ y, DataW.trod enc P w base spare held m t ((us.drop o).take 1) = some y := by
        intro i o t hi hc
        obtain ⟨f, q1, q2, q3⟩ := fld (fs := fs) (i := i) (by rw [T.hf]; exact hi)
        obtain ⟨y, hy⟩ := hg i f q1
        rw [q2, q3, hc] at hy
        exact ⟨y, hy⟩
      obtain ⟨c1, c2, c3, c4, c5⟩ := T.h1
      obtain ⟨y0, e0⟩ := get 0 0 ti rfl c1
      obtain ⟨y1, e1⟩ := get 1 1 ti rfl c1
      obtain ⟨y2, e2⟩ := get 2 2 tu rfl c2
      obtain ⟨y3, e3⟩ := get 3 3 tu rfl c2
      obtain ⟨y4, e4⟩ := get 4 4 tn rfl c3
      obtain ⟨y5, e5⟩ := get 5 5 tt rfl c4
      obtain ⟨y6, e6⟩ := get 6 6 tL rfl c5
      obtain ⟨y7, e7⟩ := get 7 7 tL rfl c5
      match us, hlen with
      | [u0, u1, u2, u3, u4, u5, u6, u7], _ =>
        simp only [List.drop_zero, List.drop_succ_cons, List.take_succ_cons, List.take_zero] at e0 e1 e2 e3 e4 e5 e6 e7
        obtain ⟨n0, w0, k0⟩ := cells_of_int T.ki e0
        obtain ⟨n1, w1, k1⟩ := cells_of_int T.ki e1
        obtain ⟨n2, w2, k2⟩ := cells_of_int T.ku e2
        obtain ⟨n3, w3, k3⟩ := cells_of_int T.ku e3
        obtain ⟨n4, w4, k4⟩ := cells_of_int T.kn e4
        obtain ⟨n5, w5, w5', k5⟩ := cells_of_ints T.kt T.ku c2 e5
        obtain ⟨n6, w6, k6⟩ := ih m (by omega) _ _ e6
        obtain ⟨n7, w7, k7⟩ := ih m (by omega) _ _ e7
        exact ⟨.mk n0 n1 n2 n3 n4 n5 n6 n7, ⟨w0, w1, w2, w3, w4, ⟨w5, w5'⟩, w6, w7⟩, k0.cat (k1.cat (k2.cat (k3.cat (k4.cat (k5.cat (k6.cat k7))))))⟩
    refine ⟨xs, ⟨h0, wfL_all h1⟩, ?_⟩
    rw [T.hz, ← encL_flat] at h2
    exact h2

end
end Go.Am
