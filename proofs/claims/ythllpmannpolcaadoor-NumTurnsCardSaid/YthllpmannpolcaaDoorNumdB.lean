/-
  What the row's condition tells: the library's table, cell by cell.
-/
import Derived.Test.YthllpmannpolcaaDoorNumdA
import Derived.Test.YthllpmannpolcaaDoorRows
import Derived.LaidMore
import Derived.Stop.Joined
namespace Go.Proofs.YthllpmannpolcaaDoor.N
open Go Go.Am Go.ChangeShapes Go.WideShapes Go.ChangeAt Go.RowKit

theorem gTab : Tryd.prog.globalNamed (Rows.numKnownRow.named.headD default) = some 0 := by kernel_rfl
theorem tTab : (Tryd.prog.globals[0]?).map (·.type) = some 41 := by kernel_rfl

def laidTab : List (String × DataW Unit) := Rows.numKnownRow.laid

theorem door_met (os : Os) (args : Array Value) : laidMetH Tryd.prog laidTab ((World.doorLaid Tryd.prog 400 os).forCall (fun _ _ => 0) ⟨#[], args, []⟩).memory :=
  laidMetH_of_parts3 (fuel := 8) (laidMet_of_run' 8 (by kernel_rfl) (by kernel_rfl)) (by kernel_rfl) (by kernel_rfl)

theorem laid_eq : (Rows.laid_math_bits_deBruijn32tab : DataW Unit) = .agg (tab.map fun n => .lit (.int .u8 n)) := rfl

theorem of_laid {W : World} (h : laidMetH Tryd.prog laidTab W) : ∀ k, k < 32 → W.cell? ⟨0, k, none⟩ = some (.int .u8 (tab.getD k 0)) := by
  rw [MakeChecks.laidMetH_plain _ _ _ (by kernel_rfl)] at h
  obtain ⟨ps, ⟨g0, t0, cs0, f0, p0, q0, hg0, ht0, hv0, hd0, _, _⟩, _, _⟩ := h
  obtain rfl := Option.some.inj (gTab.symm.trans hg0)
  obtain rfl := Option.some.inj (tTab.symm.trans ht0)
  intro k hk
  obtain ⟨xs, m1, rfl, hx, hlen, hn, hel⟩ := DataW.trod_array Tryd.underlying41 hd0
  have c5 : Tryd.prog.cellsOf 5 = 1 := by kernel_rfl
  have hk' := hel k hk
  simp only [Prod.mk.injEq, laid_eq, DataW.agg.injEq] at hx
  have hxk : xs[k]? = some xs[k] := List.getElem?_eq_getElem (by omega)
  rw [hxk] at hk'
  obtain ⟨n, e1, e2, _⟩ := DataW.trod_int Tryd.underlying5 hk'
  have e3 : (tab.map fun n => (DataW.lit (.int .u8 n) : DataW Unit))[k]? = (xs.map (·.1))[k]? := by rw [hx.1]
  have htk : tab[k]? = some (tab.getD k 0) := by rw [List.getD_eq_getElem?_getD, List.getElem?_eq_getElem (show k < tab.length from hk)]; rfl
  rw [List.getElem?_map, htk, List.getElem?_map, hxk, e2] at e3
  simp only [Option.map_some, Option.some.injEq, DataW.lit.injEq, Lit.int.injEq, true_and] at e3
  rw [World.var?_cell hg0 hv0 k, ← Array.getElem?_toList]
  rw [c5, Nat.mul_one] at e1
  have e4 : ((cs0.toList.drop k).take 1)[0]? = some (.int .u8 n) := by rw [e1]; rfl
  rw [List.getElem?_take, if_pos (by omega), List.getElem?_drop] at e4
  rw [e3]; simpa using e4

theorem globOk {W : World} (h : laidMetH Tryd.prog laidTab W) : GlobOk tabEnv (Am.bare fun c o => c = 0 ∧ o < 32) W := by
  have hc := of_laid h
  intro i cs hi
  cases i with
  | succ i => simp [tabEnv] at hi
  | zero =>
    obtain rfl : (tab.map fun n => PV.sc (.int .u8 n)) = cs := by simpa [tabEnv] using hi
    have hl : (tab.map fun n => PV.sc (.int .u8 n)).length = 32 := rfl
    refine .pp 0 _ 0 0 (fun k => .int .u8 (tab.getD k 0)) (fun k hk => ?_) (fun k hk => ?_)
    · rw [hl] at hk
      rw [Nat.zero_add]
      exact ⟨⟨rfl, hk⟩, hc k hk, rfl⟩
    · have : (tab.map fun n => PV.sc (.int .u8 n))[k] = .sc (.int .u8 (tab.getD k 0)) := by
        rw [List.getElem_map]
        congr 2
        rw [List.getD_eq_getElem?_getD, List.getElem?_eq_getElem (show k < tab.length from hk)]; rfl
      rw [this]
      exact .sc _

theorem pureThere {W : World} (h : laidMetH Tryd.prog laidTab W) : ∀ c o, (c = 0 ∧ o < 32) → ∃ v, W.cell? ⟨c, o, none⟩ = some v := by
  rintro c o ⟨rfl, ho⟩
  exact ⟨_, of_laid h o ho⟩

end Go.Proofs.YthllpmannpolcaaDoor.N
