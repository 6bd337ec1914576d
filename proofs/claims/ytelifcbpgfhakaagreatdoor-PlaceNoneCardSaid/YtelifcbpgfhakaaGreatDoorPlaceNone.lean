/-
  PlaceNone: its call, run: the two numbers are never looked at.
-/
import Derived.Test.YtelifcbpgfhakaaGreatDoorPlaceKnown
namespace Go.Proofs.YtelifcbpgfhakaaGreatDoor.N
open Go Go.Am

theorem PlaceNonedoes (a0 a1 : Int) : Does Tryz.prog env 5 [.p (.sc (.int .u32 a0)), .p (.sc (.int .u32 a1))] [] (.p (.sc (.bool true))) [] := does_of_known names (K := PlaceKnownK38) PlaceKnownK38ok (n := 10000000) (by kernel_rfl)

end Go.Proofs.YtelifcbpgfhakaaGreatDoor.N
