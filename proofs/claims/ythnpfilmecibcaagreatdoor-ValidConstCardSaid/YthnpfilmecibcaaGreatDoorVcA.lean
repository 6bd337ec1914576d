/-
  The door: the environment (the library's tables), the names.
-/
import Derived.Test.YthnpfilmecibcaaGreatDoorChecked
import Derived.Test.YthnpfilmecibcaaGreatDoorAm23
import Derived.Test.YthnpfilmecibcaaGreatDoorAm19b
import Derived.Test.YthnpfilmecibcaaGreatDoorInsB
import GoSem.PinnedTables
namespace Go.Proofs.YthnpfilmecibcaaGreatDoor.N
open Go Go.Am

def spaceZ : List Int := [0, 0, 0, 0, 0, 0, 0, 0, 0, 1, 1, 1, 1, 1, 0, 0, 0, 0, 0, 0, 0, 0, 0, 0, 0, 0, 0, 0, 0, 0, 0, 0, 1] ++ List.replicate 223 0

def firstZ : List Int := Pinned.utf8FirstZ.map fun (n : Nat) => (n : Int)

def powZ : List Int := [1, 10, 100, 1000, 10000, 100000, 1000000, 10000000, 100000000, 1000000000, 10000000000, 100000000000, 1000000000000, 10000000000000, 100000000000000, 1000000000000000, 10000000000000000, 100000000000000000, 1000000000000000000, 10000000000000000000]

def tabs : List (Nat × List Value) := [(0, spaceZ.map (.int .u8)), (2, firstZ.map (.int .u8))]

/-- The library's tables; which lists are written later (by function and slot). -/
def env : Env := ⟨tabAt tabs, fun _ _ => false, keepAt [(4, 0, [0, 1, 5, 6]), (6, 0, [0, 3, 4])]⟩

theorem names : NamesOk Tryz.prog := namesOk_of (by kernel_rfl)

end Go.Proofs.YthnpfilmecibcaaGreatDoor.N
