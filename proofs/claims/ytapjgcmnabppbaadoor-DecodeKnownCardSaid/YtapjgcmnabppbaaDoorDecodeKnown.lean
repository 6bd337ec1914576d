/-
  DecodeKnown: its call, run, in pieces (3 of 3).
-/
import Derived.Test.YtapjgcmnabppbaaDoorDecodeKnown2
namespace Go.Proofs.YtapjgcmnabppbaaDoor.N
open Go Go.Am

theorem Dkdoes : Does Tryd.prog env 3 [] [] (.p (.sc (.bool true))) [] := does_fast names (K := DkK12) DkK12ok (n := 10000000) (by kernel_rfl)

end Go.Proofs.YtapjgcmnabppbaaDoor.N
