/-
  EncodeLong: both encoders, run, at one length.
-/
import Derived.Test.YtljekfaoabigkaaGreatDoorEnclM
namespace Go.Proofs.YtljekfaoabigkaaGreatDoor.N
open Go Go.Am

/-- Both encoders, run at 2^20 - k noughts: both tell that it is too long (k below 18), or lists of one length. -/
noncomputable def elOk (k : Nat) : Bool := cond (Nat.blt k 18)
  (isLong (execXF Tryz.prog env [] 10000000 7 [mArg (1048576 - k)] []) && isLong (execXF Tryz.prog env [] 10000000 8 [mArg (1048576 - k)] []))
  (isFit (execXF Tryz.prog env [] 10000000 7 [mArg (1048576 - k)] []) (1048594 - k) && isFit (execXF Tryz.prog env [] 10000000 8 [mArg (1048576 - k)] []) (1048594 - k))

end Go.Proofs.YtljekfaoabigkaaGreatDoor.N
