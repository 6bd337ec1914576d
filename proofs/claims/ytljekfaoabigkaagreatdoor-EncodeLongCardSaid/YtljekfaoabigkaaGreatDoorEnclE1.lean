/-
  EncodeLong: both encoders, run, at each of twenty lengths (2 of 5).
-/
import Derived.Test.YtljekfaoabigkaaGreatDoorEnclE
namespace Go.Proofs.YtljekfaoabigkaaGreatDoor.N
open Go Go.Am

theorem el20 : elOk 20 = true := by kernel_rfl
theorem el21 : elOk 21 = true := by kernel_rfl
theorem el22 : elOk 22 = true := by kernel_rfl
theorem el23 : elOk 23 = true := by kernel_rfl
theorem el24 : elOk 24 = true := by kernel_rfl
theorem el25 : elOk 25 = true := by kernel_rfl
theorem el26 : elOk 26 = true := by kernel_rfl
theorem el27 : elOk 27 = true := by kernel_rfl
theorem el28 : elOk 28 = true := by kernel_rfl
theorem el29 : elOk 29 = true := by kernel_rfl
theorem el30 : elOk 30 = true := by kernel_rfl
theorem el31 : elOk 31 = true := by kernel_rfl
theorem el32 : elOk 32 = true := by kernel_rfl
theorem el33 : elOk 33 = true := by kernel_rfl
theorem el34 : elOk 34 = true := by kernel_rfl
theorem el35 : elOk 35 = true := by kernel_rfl
theorem el36 : elOk 36 = true := by kernel_rfl
theorem el37 : elOk 37 = true := by kernel_rfl
theorem el38 : elOk 38 = true := by kernel_rfl
theorem el39 : elOk 39 = true := by kernel_rfl

end Go.Proofs.YtljekfaoabigkaaGreatDoor.N
