/-
  The door: the environment (the library's tables), the names.
-/
import Derived.Test.YtlmkbfoapcopaaaGreatDoorChecked
import Derived.Test.YtlmkbfoapcopaaaGreatDoorAm23
import GoSem.PinnedTables
namespace Go.Proofs.YtlmkbfoapcopaaaGreatDoor.N
open Go Go.Am

def spaceZ : List Int := [0, 0, 0, 0, 0, 0, 0, 0, 0, 1, 1, 1, 1, 1, 0, 0, 0, 0, 0, 0, 0, 0, 0, 0, 0, 0, 0, 0, 0, 0, 0, 0, 1] ++ List.replicate 223 0

def firstZ : List Int := Pinned.utf8FirstZ.map fun (n : Nat) => (n : Int)

def tabs : List (Nat × List Value) := [(2, spaceZ.map (.int .u8)), (0, firstZ.map (.int .u8))]

/-- The library's tables; which lists are written later (by function and slot). -/
def env : Env := ⟨tabAt tabs, fun f d => (Nat.beq f 79 && Nat.beq d 9) || (Nat.beq f 164 && Nat.beq d 5), fun _ _ => none⟩

theorem names : NamesOk Tryz.prog := namesOk_of (by kernel_rfl)

end Go.Proofs.YtlmkbfoapcopaaaGreatDoor.N
