/-
  The door of the chapters instr and module: the environment (a table of the library's), the names.
-/
import Derived.Test.YtjjloibfhgofcaaDoorChecked
import Derived.Test.YtjjloibfhgofcaaDoorAm23
import Derived.Test.YtjjloibfhgofcaaDoorAm19b
import Derived.Test.YtjjloibfhgofcaaDoorInsB
import GoSem.PinnedTables
namespace Go.Proofs.YtjjloibfhgofcaaDoor.N
open Go Go.Am

def spaceZ : List Int := [0, 0, 0, 0, 0, 0, 0, 0, 0, 1, 1, 1, 1, 1, 0, 0, 0, 0, 0, 0, 0, 0, 0, 0, 0, 0, 0, 0, 0, 0, 0, 0, 1] ++ List.replicate 223 0

def firstZ : List Int := Pinned.utf8FirstZ.map fun (n : Nat) => (n : Int)

def powZ : List Int := [1, 10, 100, 1000, 10000, 100000, 1000000, 10000000, 100000000, 1000000000, 10000000000, 100000000000, 1000000000000, 10000000000000, 100000000000000, 1000000000000000, 10000000000000000, 100000000000000000, 1000000000000000000, 10000000000000000000]

def tabs : List (Nat × List Value) := [(0, spaceZ.map (.int .u8))]

def keeps : List (Nat × Nat × List Nat) := [(70, 0, [0, 1, 7, 8]), (36, 0, [0, 1, 7, 8]), (72, 0, [0, 1, 7, 8]), (74, 0, [0, 1, 7, 8]), (73, 0, [0, 1, 7, 8]), (76, 0, [0, 1, 7, 8]), (17, 0, [0, 1, 5, 6]), (7, 22, [1, 2, 5, 11]), (7, 18, [1, 2, 5, 10]), (7, 14, [1, 2, 5, 9]), (7, 10, [1, 2, 5, 8]), (7, 6, [1, 2, 5, 7]), (7, 2, [1, 2, 5, 6]), (4, 4, [0, 1, 7, 9]), (4, 0, [0, 1, 7, 8]), (5, 2, [0, 3, 4, 5, 6, 7]), (3, 4, [2, 5, 6]), (28, 0, [0, 3, 4]), (29, 0, [0, 3, 4]), (27, 0, [0, 3]), (30, 0, [0, 3]), (62, 4, [0, 3, 4, 25, 26, 27]), (62, 0, [0, 3]), (34, 8, [2, 4, 6, 7, 11, 12, 13, 37, 38, 39]), (34, 0, [2, 4, 11, 12, 13]), (21, 0, [3, 7, 8, 9]), (38, 12, [3, 53, 54, 55]), (38, 8, [1, 3, 40, 41, 42]), (38, 4, [1, 3, 27, 28, 29]), (38, 0, [1, 3, 13, 14, 15]), (42, 0, [1, 8, 9, 10]), (23, 0, [1, 3, 7, 8, 9]), (44, 4, [3, 24, 25, 26]), (44, 0, [1, 3, 9, 10, 11]), (71, 0, [0, 1, 7, 8]), (39, 2, [0, 3, 4])]

/-- The library's tables; which lists are written later (by function and slot). -/
def env : Env := ⟨tabAt tabs, fun f d => (Nat.beq f 62 && Nat.beq d 9) || (Nat.beq f 18 && Nat.beq d 3) || (Nat.beq f 68 && Nat.beq d 14) || (Nat.beq f 4 && Nat.beq d 17), keepAt keeps⟩

theorem names : NamesOk Tryd.prog := namesOk_of (by kernel_rfl)

end Go.Proofs.YtjjloibfhgofcaaDoor.N
