/-
  The door: the environment (the library's tables), the names.
-/
import Derived.Test.YtgocagebakgalaaGreatDoorChecked
import Derived.Test.YtgocagebakgalaaGreatDoorAm23
import Derived.Test.YtgocagebakgalaaGreatDoorAm19b
import GoSem.PinnedTables
namespace Go.Proofs.YtgocagebakgalaaGreatDoor.N
open Go Go.Am

def spaceZ : List Int := [0, 0, 0, 0, 0, 0, 0, 0, 0, 1, 1, 1, 1, 1, 0, 0, 0, 0, 0, 0, 0, 0, 0, 0, 0, 0, 0, 0, 0, 0, 0, 0, 1] ++ List.replicate 223 0

def firstZ : List Int := Pinned.utf8FirstZ.map fun (n : Nat) => (n : Int)

def powZ : List Int := [1, 10, 100, 1000, 10000, 100000, 1000000, 10000000, 100000000, 1000000000, 10000000000, 100000000000, 1000000000000, 10000000000000, 100000000000000, 1000000000000000, 10000000000000000, 100000000000000000, 1000000000000000000, 10000000000000000000]

def tabs : List (Nat × List Value) := [(3, spaceZ.map (.int .u8)), (1, firstZ.map (.int .u8))]

/-- The library's tables; which lists are written later (by function and slot). -/
def env : Env := ⟨tabAt tabs, fun f d => (Nat.beq f 7 && Nat.beq d 20) || (Nat.beq f 7 && Nat.beq d 68) || (Nat.beq f 187 && Nat.beq d 9) || (Nat.beq f 275 && Nat.beq d 5) || (Nat.beq f 11 && Nat.beq d 83) || (Nat.beq f 90 && Nat.beq d 105) || (Nat.beq f 90 && Nat.beq d 108) || (Nat.beq f 145 && Nat.beq d 28) || (Nat.beq f 149 && Nat.beq d 11) || (Nat.beq f 196 && Nat.beq d 28) || (Nat.beq f 57 && Nat.beq d 5) || (Nat.beq f 70 && Nat.beq d 19), fun _ _ => none⟩

theorem names : NamesOk Tryz.prog := namesOk_of (by kernel_rfl)

end Go.Proofs.YtgocagebakgalaaGreatDoor.N
