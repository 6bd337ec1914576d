/-
  What the row's condition tells: the library's tables, cell by cell.
-/
import Derived.Test.YtiphaojaolcidaaDoorLsA
import Derived.Test.YtiphaojaolcidaaDoorRows
import Derived.MakeChecks
namespace Go.Proofs.YtiphaojaolcidaaDoor.N
open Go Go.Am

def laidTab : List (String × DataW Unit) := Rows.lowManyRow.laid

theorem tabs_hold {W : World} (_ : laidMetH Tryd.prog laidTab W) : TabsHold tabs W := by

  exact tabsHold_nil

end Go.Proofs.YtiphaojaolcidaaDoor.N
