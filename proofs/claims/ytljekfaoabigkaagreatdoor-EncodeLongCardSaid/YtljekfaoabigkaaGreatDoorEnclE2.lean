/-
  EncodeLong: both encoders, run, at each of twenty lengths (3 of 5).
-/
import Derived.Test.YtljekfaoabigkaaGreatDoorEnclE
namespace Go.Proofs.YtljekfaoabigkaaGreatDoor.N
open Go Go.Am

theorem el40 : elOk 40 = true := by kernel_rfl
theorem el41 : elOk 41 = true := by kernel_rfl
theorem el42 : elOk 42 = true := by kernel_rfl
theorem el43 : elOk 43 = true := by kernel_rfl
theorem el44 : elOk 44 = true := by kernel_rfl
theorem el45 : elOk 45 = true := by kernel_rfl
theorem el46 : elOk 46 = true := by kernel_rfl
theorem el47 : elOk 47 = true := by kernel_rfl
theorem el48 : elOk 48 = true := by kernel_rfl
theorem el49 : elOk 49 = true := by kernel_rfl
theorem el50 : elOk 50 = true := by kernel_rfl
theorem el51 : elOk 51 = true := by kernel_rfl
theorem el52 : elOk 52 = true := by kernel_rfl
theorem el53 : elOk 53 = true := by kernel_rfl
theorem el54 : elOk 54 = true := by kernel_rfl
theorem el55 : elOk 55 = true := by kernel_rfl
theorem el56 : elOk 56 = true := by kernel_rfl
theorem el57 : elOk 57 = true := by kernel_rfl
theorem el58 : elOk 58 = true := by kernel_rfl
theorem el59 : elOk 59 = true := by kernel_rfl

end Go.Proofs.YtljekfaoabigkaaGreatDoor.N
