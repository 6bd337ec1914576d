/-
  The door: the environment (the library's tables), the names.
-/
import Derived.Test.YtihdpbplbncogaaDoorChecked
import Derived.Test.YtihdpbplbncogaaDoorAm23
import GoSem.PinnedTables
namespace Go.Proofs.YtihdpbplbncogaaDoor.N
open Go Go.Am

def spaceZ : List Int := [0, 0, 0, 0, 0, 0, 0, 0, 0, 1, 1, 1, 1, 1, 0, 0, 0, 0, 0, 0, 0, 0, 0, 0, 0, 0, 0, 0, 0, 0, 0, 0, 1] ++ List.replicate 223 0

def firstZ : List Int := Pinned.utf8FirstZ.map fun (n : Nat) => (n : Int)

def tabs : List (Nat × List Value) := [(0, spaceZ.map (.int .u8))]

/-- The library's tables; which lists are written later (by function and slot). -/
def env : Env := ⟨tabAt tabs, fun f d => (Nat.beq f 73 && Nat.beq d 9) || (Nat.beq f 28 && Nat.beq d 10) || (Nat.beq f 28 && Nat.beq d 67) || (Nat.beq f 28 && Nat.beq d 84) || (Nat.beq f 28 && Nat.beq d 197) || (Nat.beq f 28 && Nat.beq d 164) || (Nat.beq f 28 && Nat.beq d 176), fun _ _ => none⟩

theorem names : NamesOk Tryd.prog := namesOk_of (by kernel_rfl)

end Go.Proofs.YtihdpbplbncogaaDoor.N
