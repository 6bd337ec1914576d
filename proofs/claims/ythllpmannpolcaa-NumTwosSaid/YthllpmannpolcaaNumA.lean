/-
  Chapter num: the environment, what is called without arguments.
-/
import Derived.Test.YthllpmannpolcaaChecked
import Derived.Test.YthllpmannpolcaaAm22
namespace Go.Proofs.Ythllpmannpolcaa.N
open Go Go.Am

def numCall (f : FuncId) (_ : List AV) (_ : Mem) : Option (AV × Mem) := if f = 9 then some (sB true, []) else none

theorem names : NamesOk Try.prog := namesOk_of (by kernel_rfl)

theorem awake : Does Try.prog noGlob 9 [] [] (sB true) [] := does_of_exec names (n := 1000000) (by kernel_rfl)

end Go.Proofs.Ythllpmannpolcaa.N
