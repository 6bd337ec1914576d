/-
  A row's arguments, told as pure values: lists, of what their elements are told.
-/
import Derived.Test.YtiphaojaolcidaaDoorAm23
import Derived.ChangeArms
namespace Go.Am
open Go.RowKit

/-- All cells are leaned on; nothing is owned. -/
def allPure (w : World) : Gh := bare fun c o => ∃ v, w.cell? ⟨c, o, none⟩ = some v

/-- Cells of pure values. -/
def CellsOk (w : World) (l : List PV) (cs : List Value) : Prop := VPs (allPure w) w l cs ∧ ∀ v ∈ cs, v.oneCell' = true

theorem CellsOk.one {w : World} {x : PV} {v : Value} (h : VP (allPure w) w x v) (ho : v.oneCell' = true) : CellsOk w [x] [v] := ⟨⟨h, trivial⟩, fun u hu => by simp at hu; subst hu; exact ho⟩

theorem CellsOk.append {w : World} {l m : List PV} {cs ds : List Value} (h : CellsOk w l cs) (k : CellsOk w m ds) : CellsOk w (l ++ m) (cs ++ ds) :=
  ⟨h.1.append k.1, fun v hv => (List.mem_append.1 hv).elim (h.2 v) (k.2 v)⟩

section
variable {H : Type} {enc : TypeId × Value → H} {P : Program} {w : World} {base : Nat} {spare : Nat → Bool} {held : Bool} {fuel : Nat} {t : TypeId} {cs : List Value} {x : DataW H × List MemPlace}

theorem cells_of_bool (ht : P.underlying t = some .bool) (h : DataW.trod enc P w base spare held fuel t cs = some x) : ∃ b : Bool, CellsOk w [.sc (.bool b)] cs := by
  obtain ⟨b, rfl, _⟩ := DataW.trod_bool ht h
  exact ⟨b, .one (.sc _) rfl⟩

theorem cells_of_int {k : IntKind} (ht : P.underlying t = some (.int k)) (h : DataW.trod enc P w base spare held fuel t cs = some x) : ∃ n : Int, (Lit.int k n).wf = true ∧ CellsOk w [.sc (.int k n)] cs := by
  obtain ⟨n, rfl, _, hw⟩ := DataW.trod_int ht h
  exact ⟨n, hw, .one (.sc _) rfl⟩

theorem cells_of_string (ht : P.underlying t = some .string) (h : DataW.trod enc P w base spare held fuel t cs = some x) : ∃ s : ByteArray, s.size ≤ maxLen ∧ CellsOk w [.sc (.string s)] cs := by
  obtain ⟨s, rfl, _, hw⟩ := DataW.trod_string ht h
  exact ⟨s, hw, .one (.sc _) rfl⟩

theorem mapM_get {α β : Type} {f : α → Option β} : ∀ {l : List α} {m : List β}, l.mapM f = some m → m.length = l.length ∧ ∀ (i : Nat) (a : α), l[i]? = some a → f a = m[i]?
  | [], m, h => by
    simp at h; subst h
    exact ⟨rfl, fun i a h => by simp at h⟩
  | a :: l, m, h => by
    rw [List.mapM_cons] at h
    cases ha : f a with
    | none => rw [ha] at h; cases h
    | some b =>
      rw [ha] at h
      cases hl : l.mapM f with
      | none => rw [hl] at h; cases h
      | some bs =>
        rw [hl] at h
        cases h
        obtain ⟨h1, h2⟩ := mapM_get hl
        refine ⟨by simp [h1], fun i c hc => ?_⟩
        cases i with
        | zero => simp at hc; subst hc; simpa using ha
        | succ i => simpa using h2 i c (by simpa using hc)

theorem cells?_get {a : Addr} {n : Nat} {us : List Value} (h : w.cells? base a n = some us) : us.length = n ∧ ∀ (i : Nat) (v : Value), us[i]? = some v → w.cell? (a.add i) = some v := by
  unfold World.cells? at h
  split at h
  · obtain ⟨h1, h2⟩ := mapM_get h
    simp only [List.length_range] at h1
    refine ⟨h1, fun i v hv => ?_⟩
    have hi : i < n := by
      rcases Nat.lt_or_ge i n with q | q
      · exact q
      · rw [List.getElem?_eq_none (by omega)] at hv; cases hv
    rw [h2 i i (by rw [List.getElem?_range hi])]
    exact hv
  · cases h

theorem addr_add_add (a : Addr) (m n : Nat) : (a.add m).add n = a.add (m + n) := by
  obtain ⟨b, o, s⟩ := a
  unfold Addr.add
  by_cases hm : m = 0 <;> by_cases hn : n = 0 <;> simp [hm, hn, Nat.add_assoc]

/-- A list, of what its elements' cells are told. -/
theorem cells_of_slice {α : Type} {e : TypeId} {encE : α → List PV} {wf : α → Prop} (ht : P.underlying t = some (.slice e)) (hz : 1 ≤ P.cellsOf e) (h : DataW.trod enc P w base spare held fuel t cs = some x)
    (hE : ∀ n, n < fuel → ∀ us y, DataW.trod enc P w base spare held n e us = some y → ∃ a : α, wf a ∧ CellsOk w (encE a) us) :
    ∃ xs : List α, xs.length ≤ maxLen ∧ (∀ a ∈ xs, wf a) ∧ CellsOk w [.ps xs.length (P.cellsOf e) (xs.flatMap encE)] cs := by
  rcases DataW.trod_slice ht h with ⟨rfl, _⟩ | ⟨a, len, cap, elems, rest, n, rfl, rfl, _, hb, hl, hmx, hel, hget, _⟩
  · exact ⟨[], Nat.zero_le _, (fun _ h => by cases h), .one (.psE _ _ _ (.inl hz)) rfl⟩
  · have build : ∀ k, k ≤ len → ∃ (xs : List α) (us : List Value), xs.length = k ∧ (∀ y ∈ xs, wf y) ∧ us.length = k * P.cellsOf e ∧ CellsOk w (xs.flatMap encE) us ∧ ∀ (j : Nat) (v : Value), us[j]? = some v → w.cell? (a.add j) = some v := by
      intro k
      induction k with
      | zero => exact fun _ => ⟨[], [], rfl, (fun _ h => by cases h), by simp, ⟨trivial, (fun _ h => by cases h)⟩, fun j v h => by simp at h⟩
      | succ k ih =>
        intro hk
        obtain ⟨xs, us, h1, h2, h3, h4, h5⟩ := ih (by omega)
        have hg := hget k (by omega)
        rw [List.getElem?_eq_getElem (by omega : k < elems.length)] at hg
        cases hc : w.cells? base (a.add (k * P.cellsOf e)) (P.cellsOf e) with
        | none => rw [hc] at hg; cases hg
        | some ci =>
          rw [hc] at hg
          obtain ⟨y, hy, hyc⟩ := hE n (by omega) ci _ hg
          obtain ⟨c1, c2⟩ := cells?_get hc
          refine ⟨xs ++ [y], us ++ ci, by simp [h1], (fun z hz => (List.mem_append.1 hz).elim (h2 z) fun q => by simp at q; subst q; exact hy), ?_, ?_, fun j v hj => ?_⟩
          · rw [List.length_append, h3, c1, Nat.succ_mul]
          · rw [List.flatMap_append]
            simpa using h4.append hyc
          · rcases Nat.lt_or_ge j us.length with q | q
            · rw [List.getElem?_append_left q] at hj; exact h5 j v hj
            · rw [List.getElem?_append_right q] at hj
              have h := c2 _ v hj
              rw [addr_add_add] at h
              rw [← h]
              congr 2
              omega
    obtain ⟨xs, us, h1, h2, h3, h4, h5⟩ := build len (Nat.le_refl _)
    refine ⟨xs, by omega, h2, .one ?_ rfl⟩
    rw [h1]
    rcases Nat.eq_zero_or_pos len with e0 | e0
    · subst e0
      have : xs = [] := List.eq_nil_of_length_eq_zero h1
      subst this
      exact .psE _ _ _ (.inl hz)
    · have hp : 0 < us.length := by rw [h3]; exact Nat.mul_pos e0 hz
      have h0 := h5 0 us[0] (List.getElem?_eq_getElem hp)
      obtain ⟨ab, ao, asp⟩ := a
      have hsp : asp = none := by
        unfold World.cell? at h0
        split at h0
        · cases asp with
          | none => rfl
          | some q => simp [Addr.add] at h0
        · cases h0
      subst hsp
      exact VP.mk (us := us) h4.1 h3 hl hz fun k v hk => by
        have h := h5 k v hk
        rw [addr_add] at h
        exact ⟨h, ⟨v, h⟩, h4.2 v (List.mem_of_getElem? hk)⟩

theorem cells_of_ints {e : TypeId} {k : IntKind} (ht : P.underlying t = some (.slice e)) (he : P.underlying e = some (.int k)) (hz : P.cellsOf e = 1) (h : DataW.trod enc P w base spare held fuel t cs = some x) :
    ∃ ns : List Int, ns.length ≤ maxLen ∧ (∀ n ∈ ns, (Lit.int k n).wf = true) ∧ CellsOk w [.ps ns.length 1 (ns.map fun n => .sc (.int k n))] cs := by
  obtain ⟨xs, h0, h1, h2⟩ := cells_of_slice (encE := fun n => [PV.sc (.int k n)]) (wf := fun n => (Lit.int k n).wf = true) ht (by omega) h fun n _ us y hy => cells_of_int he hy
  refine ⟨xs, h0, h1, ?_⟩
  rw [hz] at h2
  have : xs.flatMap (fun n => [PV.sc (.int k n)]) = xs.map fun n => .sc (.int k n) := (List.map_eq_flatMap ..).symm
  rw [this] at h2
  exact h2

/-- The fields of a struct. -/
theorem cells_of_struct {fs : Array Field} (ht : P.underlying t = some (.struct fs)) (h : DataW.trod enc P w base spare held fuel t cs = some x) :
    ∃ n, fuel = n + 1 ∧ cs.length = P.cellsOf t ∧ ∀ (i : Nat) (f : Field), fs[i]? = some f → ∃ y, DataW.trod enc P w base spare held n f.type ((cs.drop f.offset).take (P.cellsOf f.type)) = some y := by
  obtain ⟨xs, n, h1, _, h3, h4, h5⟩ := DataW.trod_struct ht h
  refine ⟨n, h1, h3, fun i f hf => ?_⟩
  have hi : i < xs.length := by
    rw [h4]
    rcases Nat.lt_or_ge i fs.size with q | q
    · exact q
    · rw [Array.getElem?_eq_none q] at hf; cases hf
  exact ⟨xs[i], by rw [h5 i f hf, List.getElem?_eq_getElem hi]⟩

end

section
variable {P : Program} {E : Env}

/-- What a call tells, told by less; its own memory is let go. -/
theorem Does.weak {f : FuncId} {args : List AV} {v v' : AV} {m' : Mem} (h : Does P E f args [] v m') (hv : ∀ (g : Gh) (w : World) (cv : Value), VA g w v cv → VA { g with blk := fun _ => none } w v' cv) : Does P E f args [] v' [] := by
  obtain ⟨hf, h⟩ := h
  refine ⟨hf, fun g w cargs cs hr ha hg => ?_⟩
  obtain ⟨w', g', cv, fr, h1, h2, h3, h4, h5, h6, _, _⟩ := h g w cargs cs hr ha hg
  have no : ∀ c, ¬ Owned ({ g' with blk := fun _ => none } : Gh) [] c := fun c ⟨i, b, hi, _⟩ => by simp at hi
  refine ⟨w', { g' with blk := fun _ => none }, cv, fr, h1, h2, h3, hv _ _ _ h4, ?_, ⟨h6.size, h6.keep, h6.pure, h6.fresh, fun c hc => absurd hc (no c), h6.os, h6.tape, h6.output⟩, fun k c hk => by simp at hk, Nat.le_refl _⟩
  exact ⟨fun _ _ => rfl, fun _ _ => rfl, fun i b l hi => by simp at hi, fun i c hi => by simp at hi, fun i j b b' c hi => by simp at hi, h5.there, fun i k l hi => by simp at hi⟩

theorem Does.pure {f : FuncId} {args : List AV} {tok : Option Nat} {len sz : Nat} {cells : List PV} {m' : Mem} (h : Does P E f args [] (.os tok len sz cells) m') : Does P E f args [] (.p (.ps len sz cells)) [] :=
  h.weak fun g w cv hv => by
    cases hv with
    | os _ _ _ _ a cap h _ => exact .p _ _ (VP.mono (g := g) (g' := { g with blk := fun _ => none }) (w := w) (w' := w) (fun _ _ q => ⟨q, rfl⟩) h)

/-- An empty list, of elements of any size. -/
theorem Does.nil {f : FuncId} {args : List AV} {tok : Option Nat} {sz : Nat} {m' : Mem} (h : Does P E f args [] (.os tok 0 sz []) m') {k : Nat} (hk : 1 ≤ k) : Does P E f args [] (.p (.ps 0 k [])) [] :=
  h.weak fun g w cv hv => by
    cases hv with
    | os _ _ _ _ a cap h _ => exact .p _ _ (.psE _ _ _ (.inl hk))

end
end Go.Am
