/-
  Chapter memory: what is called without arguments.
-/
import Derived.Test.YtmplfloknneaoaaChecked
import Derived.Test.YtmplfloknneaoaaAm22
namespace Go.Proofs.Ytmplfloknneaoaa.N
open Go Go.Am

theorem names : NamesOk Try.prog := namesOk_of (by kernel_rfl)

theorem known_does : Does Try.prog noGlob 3 [] [] (sB true) [] := does_of_exec names (n := 1000000) (by kernel_rfl)

end Go.Proofs.Ytmplfloknneaoaa.N
