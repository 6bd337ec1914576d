/-
  What the row's condition tells: the library's tables, cell by cell.
-/
import Derived.Test.YtnjchjoadgknhaaDoorLowA
import Derived.Test.YtnjchjoadgknhaaDoorRows
import Derived.MakeChecks
namespace Go.Proofs.YtnjchjoadgknhaaDoor.N
open Go Go.Am

def laidTab : List (String × DataW Unit) := Rows.lowKnownRow.laid

theorem tabs_hold {W : World} (_ : laidMetH Tryd.prog laidTab W) : TabsHold tabs W := by

  exact tabsHold_nil

end Go.Proofs.YtnjchjoadgknhaaDoor.N
