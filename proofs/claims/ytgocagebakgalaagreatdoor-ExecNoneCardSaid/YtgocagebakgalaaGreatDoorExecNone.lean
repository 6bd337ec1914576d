/-
  ExecNone: its call, run: the name and the words are never looked at.
-/
import Derived.Test.YtgocagebakgalaaGreatDoorExecKnown
namespace Go.Proofs.YtgocagebakgalaaGreatDoor.N
open Go Go.Am

theorem ExecNonedoes : Does Tryz.prog env 8 [.junk, .junk] [] (.p (.sc (.bool true))) [] := does_fast names (K := ExecKnownK288) ExecKnownK288ok (n := 10000000) (by kernel_rfl)

end Go.Proofs.YtgocagebakgalaaGreatDoor.N
