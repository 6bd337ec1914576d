/-
  The door: the environment (the library's tables), the names.
-/
import Derived.Test.YtiphaojaolcidaaDoorChecked
import Derived.Test.YtiphaojaolcidaaDoorAm23
import Derived.Test.YtiphaojaolcidaaDoorAm19b
import GoSem.PinnedTables
namespace Go.Proofs.YtiphaojaolcidaaDoor.N
open Go Go.Am

def spaceZ : List Int := [0, 0, 0, 0, 0, 0, 0, 0, 0, 1, 1, 1, 1, 1, 0, 0, 0, 0, 0, 0, 0, 0, 0, 0, 0, 0, 0, 0, 0, 0, 0, 0, 1] ++ List.replicate 223 0

def firstZ : List Int := Pinned.utf8FirstZ.map fun (n : Nat) => (n : Int)

def powZ : List Int := [1, 10, 100, 1000, 10000, 100000, 1000000, 10000000, 100000000, 1000000000, 10000000000, 100000000000, 1000000000000, 10000000000000, 100000000000000, 1000000000000000, 10000000000000000, 100000000000000000, 1000000000000000000, 10000000000000000000]

def tabs : List (Nat × List Value) := []

/-- The library's tables; which lists are written later (by function and slot). -/
def env : Env where
  glob := tabAt tabs
  wr f d := (Nat.beq f 8 && Nat.beq d 9) || (Nat.beq f 8 && Nat.beq d 15)
  keep := keepAt [(55, 0, [0, 1, 2])]

theorem names : NamesOk Tryd.prog := namesOk_of (by kernel_rfl)

end Go.Proofs.YtiphaojaolcidaaDoor.N
