/-
  Lists of instructions: induction by what stands in the lists; functions of a list's cells.
-/
import Derived.Test.YtjjloibfhgofcaaDoorInsC
namespace Go.Am

/-- By what stands in the lists. -/
theorem ins_rec {Q : List Ins → Prop} (h : ∀ l, (∀ x ∈ l, Q x.l ∧ Q x.e) → Q l) : ∀ l, Q l := by
  have key : ∀ (N : Nat) (l : List Ins), numL l ≤ N → Q l := by
    intro N
    induction N with
    | zero =>
      intro l hl
      cases l with
      | nil => exact h [] (fun _ hx => by cases hx)
      | cons x r => cases x; simp only [numL, numI] at hl; omega
    | succ N ih =>
      intro l hl
      refine h l fun x hx => ?_
      have hn : numI x ≤ numL l := by
        clear hl
        induction l with
        | nil => cases hx
        | cons y r ih2 =>
          simp only [numL]
          cases hx with
          | head => omega
          | tail _ hx => have := ih2 hx; omega
      obtain ⟨op, rs, a, b, nn, tg, ll, le⟩ := x
      simp only [numI] at hn
      exact ⟨ih ll (by omega), ih le (by omega)⟩
  exact fun l => key _ l (Nat.le_refl _)

theorem numL_mem {l : List Ins} {x : Ins} (hx : x ∈ l) : numI x ≤ numL l := by
  induction l with
  | nil => cases hx
  | cons y r ih =>
    simp only [numL]
    cases hx with
    | head => omega
    | tail _ hx => have := ih hx; omega

open Classical in
/-- What a function of lists tells of the list of these cells. -/
noncomputable def ofCells {α : Type} (d : α) (F : List Ins → α) (cs : List PV) : α := if h : ∃ l, cs = encL l then F h.choose else d

theorem ofCells_eq {α : Type} (d : α) (F : List Ins → α) (l : List Ins) : ofCells d F (encL l) = F l := by
  have h : ∃ l', encL l = encL l' := ⟨l, rfl⟩
  unfold ofCells
  rw [dif_pos h, ← encL_inj h.choose_spec]

end Go.Am
