/-
  The door: the environment (the library's tables), the names.
-/
import Derived.Test.YtljekfaoabigkaaDoorChecked
import Derived.Test.YtljekfaoabigkaaDoorAm23
import GoSem.PinnedTables
namespace Go.Proofs.YtljekfaoabigkaaDoor.N
open Go Go.Am

def spaceZ : List Int := [0, 0, 0, 0, 0, 0, 0, 0, 0, 1, 1, 1, 1, 1, 0, 0, 0, 0, 0, 0, 0, 0, 0, 0, 0, 0, 0, 0, 0, 0, 0, 0, 1] ++ List.replicate 223 0

def firstZ : List Int := Pinned.utf8FirstZ.map fun (n : Nat) => (n : Int)

def tabs : List (Nat × List Value) := [(2, spaceZ.map (.int .u8)), (0, firstZ.map (.int .u8))]

theorem names : NamesOk Tryd.prog := namesOk_of (by kernel_rfl)

end Go.Proofs.YtljekfaoabigkaaDoor.N
