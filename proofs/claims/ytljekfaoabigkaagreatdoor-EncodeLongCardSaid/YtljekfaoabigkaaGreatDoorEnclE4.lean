/-
  EncodeLong: both encoders, run, at each of twenty lengths (5 of 5).
-/
import Derived.Test.YtljekfaoabigkaaGreatDoorEnclE
namespace Go.Proofs.YtljekfaoabigkaaGreatDoor.N
open Go Go.Am

theorem el80 : elOk 80 = true := by kernel_rfl
theorem el81 : elOk 81 = true := by kernel_rfl
theorem el82 : elOk 82 = true := by kernel_rfl
theorem el83 : elOk 83 = true := by kernel_rfl
theorem el84 : elOk 84 = true := by kernel_rfl
theorem el85 : elOk 85 = true := by kernel_rfl
theorem el86 : elOk 86 = true := by kernel_rfl
theorem el87 : elOk 87 = true := by kernel_rfl
theorem el88 : elOk 88 = true := by kernel_rfl
theorem el89 : elOk 89 = true := by kernel_rfl
theorem el90 : elOk 90 = true := by kernel_rfl
theorem el91 : elOk 91 = true := by kernel_rfl
theorem el92 : elOk 92 = true := by kernel_rfl
theorem el93 : elOk 93 = true := by kernel_rfl
theorem el94 : elOk 94 = true := by kernel_rfl
theorem el95 : elOk 95 = true := by kernel_rfl
theorem el96 : elOk 96 = true := by kernel_rfl
theorem el97 : elOk 97 = true := by kernel_rfl
theorem el98 : elOk 98 = true := by kernel_rfl
theorem el99 : elOk 99 = true := by kernel_rfl

end Go.Proofs.YtljekfaoabigkaaGreatDoor.N
