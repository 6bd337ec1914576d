/-
  Chapter num, the door: the environment (the library's table), what is called without arguments.
-/
import Derived.Test.YthllpmannpolcaaDoorChecked
import Derived.Test.YthllpmannpolcaaDoorAm22
namespace Go.Proofs.YthllpmannpolcaaDoor.N
open Go Go.Am

/-- The library's table for the lowest bit, as the row lists it. -/
def tab : List Int := [0, 1, 28, 2, 29, 14, 24, 3, 30, 22, 20, 15, 25, 17, 4, 8, 31, 27, 13, 23, 21, 19, 16, 7, 26, 12, 18, 6, 11, 5, 10, 9]

def tabEnv : Env := ⟨fun
  | 0 => some (tab.map fun n => .sc (.int .u8 n))
  | _ => none, fun _ _ => false, fun _ _ => none⟩

theorem names : NamesOk Tryd.prog := namesOk_of (by kernel_rfl)

theorem known_does : Does Tryd.prog tabEnv 5 [] [] (sB true) [] := does_of_exec names (n := 1000000) (by kernel_rfl)

end Go.Proofs.YthllpmannpolcaaDoor.N
