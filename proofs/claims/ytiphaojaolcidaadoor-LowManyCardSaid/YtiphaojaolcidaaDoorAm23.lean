/-
  Tables: package-level variables that a row lists, as the environment has them.
-/
import Derived.Test.YtiphaojaolcidaaDoorAm21
import Derived.Lib.LaidU8
namespace Go.Am
open Go.Lib

/-- The cells of some package-level variables. -/
def tabAt : List (Nat × List Value) → Nat → Option (List PV)
  | [], _ => none
  | (g, vs) :: r, i => cond (Nat.beq g i) (some (vs.map .sc)) (tabAt r i)

def tabsEnv (T : List (Nat × List Value)) : Env := { glob := tabAt T, wr := fun _ _ => false, keep := fun _ _ => none }

def TabsHold (T : List (Nat × List Value)) (W : World) : Prop := ∀ q ∈ T, ∀ k v, q.2[k]? = some v → W.cell? ⟨q.1, k, none⟩ = some v ∧ v.oneCell' = true

def tabsPure (T : List (Nat × List Value)) (c o : Nat) : Prop := ∃ q ∈ T, c = q.1 ∧ o < q.2.length

theorem tabAt_some : ∀ {T : List (Nat × List Value)} {i : Nat} {cs : List PV}, tabAt T i = some cs → ∃ vs, (i, vs) ∈ T ∧ cs = vs.map .sc
  | [], _, _, h => by cases h
  | (g, vs) :: r, i, cs, h => by
    simp only [tabAt] at h
    cases hb : Nat.beq g i with
    | true =>
      have := Nat.eq_of_beq_eq_true hb
      subst this
      simp only [hb, cond_true, Option.some.injEq] at h
      exact ⟨vs, .head _, h.symm⟩
    | false =>
      simp only [hb, cond_false] at h
      obtain ⟨us, h1, h2⟩ := tabAt_some h
      exact ⟨us, .tail _ h1, h2⟩

theorem tabs_glob {T : List (Nat × List Value)} {W : World} (h : TabsHold T W) : GlobOk (tabsEnv T) (bare (tabsPure T)) W := by
  intro i cs hi
  obtain ⟨vs, hm, rfl⟩ := tabAt_some hi
  refine .pp 0 _ i 0 (fun k => vs.getD k undef) (fun k hk => ?_) (fun k hk => ?_)
  · rw [List.length_map] at hk
    have hv : vs[k]? = some (vs.getD k undef) := by rw [List.getD_eq_getElem?_getD, List.getElem?_eq_getElem hk]; rfl
    obtain ⟨h1, h2⟩ := h _ hm k _ hv
    rw [Nat.zero_add]
    exact ⟨⟨_, hm, rfl, hk⟩, h1, h2⟩
  · have hk' : k < vs.length := by simpa using hk
    have : (vs.map PV.sc)[k] = .sc (vs.getD k undef) := by
      rw [List.getElem_map, List.getD_eq_getElem?_getD, List.getElem?_eq_getElem hk']; rfl
    rw [this]
    exact .sc _

theorem tabs_globE {E : Env} {T : List (Nat × List Value)} {W : World} (h : TabsHold T W) (he : E.glob = tabAt T) : GlobOk E (bare (tabsPure T)) W := fun i cs hi => tabs_glob h i cs (by rw [he] at hi; exact hi)

theorem tabs_there {T : List (Nat × List Value)} {W : World} (h : TabsHold T W) : ∀ c o, tabsPure T c o → ∃ v, W.cell? ⟨c, o, none⟩ = some v := by
  rintro c o ⟨q, hm, rfl, ho⟩
  exact ⟨_, (h q hm o _ (List.getElem?_eq_getElem ho)).1⟩

/-- An array of integers that a row lists. -/
theorem table_holds {P : Program} {W : World} {name : String} {d : DataW Unit} {k : IntKind} {zs : List Int} {g t e n : Nat} (h : VarReads P W name d) (hd : d = .agg (zs.map fun z => .lit (.int k z))) (hg : P.globalNamed name = some g) (ht : (P.globals[g]?).map (·.type) = some t)
    (hu : P.underlying t = some (.array n e)) (he : P.underlying e = some (.int k)) (hc : P.cellsOf e = 1) (hn : zs.length ≤ n) : ∀ (i : Nat) (v : Value), (zs.map (Value.int k))[i]? = some v → W.cell? ⟨g, i, none⟩ = some v ∧ v.oneCell' = true := by
  intro i v hv
  subst hd
  obtain ⟨g', t', cs, fuel, p, h1, h2, h3, h4⟩ := h
  rw [hg] at h1; cases h1
  rw [ht] at h2; cases h2
  rw [List.getElem?_map, Option.map_eq_some_iff] at hv
  obtain ⟨z, hz, rfl⟩ := hv
  have hi : i < zs.length := (List.getElem?_eq_some_iff.1 hz).1
  obtain ⟨fuel', d, q, hd, htr⟩ := array_elem hu h4 i (by omega)
  rw [List.getElem?_map, hz] at hd
  simp only [Option.map_some, Option.some.injEq] at hd
  subst hd
  obtain ⟨z', hcz, hx, _⟩ := DataW.trod_int he htr
  simp only [Prod.mk.injEq, DataW.lit.injEq, Lit.int.injEq, true_and] at hx
  obtain ⟨rfl, _⟩ := hx
  refine ⟨?_, rfl⟩
  rw [World.var?_cell hg h3 i, ← Array.getElem?_toList]
  have := congrArg (·[0]?) hcz
  simpa [List.getElem?_take, List.getElem?_drop, hc] using this

theorem tabsHold_nil {W : World} : TabsHold [] W := fun _ h => by cases h

theorem tabsHold_cons {W : World} {g : Nat} {vs : List Value} {T : List (Nat × List Value)} (h : ∀ (i : Nat) (v : Value), vs[i]? = some v → W.cell? ⟨g, i, none⟩ = some v ∧ v.oneCell' = true) (hT : TabsHold T W) : TabsHold ((g, vs) :: T) W := by
  intro q hq
  cases hq with
  | head => exact h
  | tail _ hq => exact hT q hq

end Go.Am
