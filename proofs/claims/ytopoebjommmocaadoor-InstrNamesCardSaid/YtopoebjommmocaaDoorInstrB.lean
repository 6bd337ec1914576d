/-
  What the row's condition tells: the library's tables, cell by cell.
-/
import Derived.Test.YtopoebjommmocaaDoorInstrA
import Derived.Test.YtopoebjommmocaaDoorRows
import Derived.MakeChecks
namespace Go.Proofs.YtopoebjommmocaaDoor.N
open Go Go.Am

def laidTab : List (String × DataW Unit) := Rows.instrKnownRow.laid

theorem tabs_hold {W : World} (h : laidMetH Tryd.prog laidTab W) : TabsHold tabs W := by
  rw [MakeChecks.laidMetH_plain _ _ _ (by kernel_rfl)] at h
  exact tabsHold_cons (table_holds (n := 256) (t := 74) (e := 5) (k := .u8) (zs := spaceZ) (Lib.laidMet.reads h (n := "strings.asciiSpace") (d := Rows.laid_strings_asciiSpace) (.tail _ (.tail _ (.tail _ (.tail _ (.head _)))))) (by kernel_rfl) (by kernel_rfl) (by kernel_rfl) (by kernel_rfl) (by kernel_rfl) (by kernel_rfl) (Nat.le_of_ble_eq_true (by kernel_rfl)))
    (tabsHold_cons (table_holds (n := 20) (t := 102) (e := 85) (k := .u64) (zs := powZ) (Lib.laidMet.reads h (n := "internal/strconv.uint64pow10") (d := Rows.laid_internal_strconv_uint64pow10) (.tail _ (.tail _ (.head _)))) (by kernel_rfl) (by kernel_rfl) (by kernel_rfl) (by kernel_rfl) (by kernel_rfl) (by kernel_rfl) (Nat.le_of_ble_eq_true (by kernel_rfl)))
    (tabsHold_nil))

end Go.Proofs.YtopoebjommmocaaDoor.N
