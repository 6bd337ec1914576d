/-
  What the row's condition tells: the library's tables, cell by cell.
-/
import Derived.Test.YtjjloibfhgofcaaDoorICA
import Derived.Test.YtjjloibfhgofcaaDoorRows
import Derived.MakeChecks
namespace Go.Proofs.YtjjloibfhgofcaaDoor.N
open Go Go.Am

def laidTab : List (String × DataW Unit) := Rows.instrManyRow.laid

theorem tabs_hold {W : World} (h : laidMetH Tryd.prog laidTab W) : TabsHold tabs W := by
  rw [MakeChecks.laidMetH_plain _ _ _ (by kernel_rfl)] at h
  exact tabsHold_cons (table_holds (n := 256) (t := 143) (e := 5) (k := .u8) (zs := spaceZ) (Lib.laidMet.reads h (n := "strings.asciiSpace") (d := Rows.laid_strings_asciiSpace) (.tail _ (.tail _ (.tail _ (.tail _ (.head _)))))) (by kernel_rfl) (by kernel_rfl) (by kernel_rfl) (by kernel_rfl) (by kernel_rfl) (by kernel_rfl) (Nat.le_of_ble_eq_true (by kernel_rfl)))
    (tabsHold_nil)

end Go.Proofs.YtjjloibfhgofcaaDoor.N

