/-
  EncodeLong: both encoders, run, at each of twenty lengths (4 of 5).
-/
import Derived.Test.YtljekfaoabigkaaGreatDoorEnclE
namespace Go.Proofs.YtljekfaoabigkaaGreatDoor.N
open Go Go.Am

theorem el60 : elOk 60 = true := by kernel_rfl
theorem el61 : elOk 61 = true := by kernel_rfl
theorem el62 : elOk 62 = true := by kernel_rfl
theorem el63 : elOk 63 = true := by kernel_rfl
theorem el64 : elOk 64 = true := by kernel_rfl
theorem el65 : elOk 65 = true := by kernel_rfl
theorem el66 : elOk 66 = true := by kernel_rfl
theorem el67 : elOk 67 = true := by kernel_rfl
theorem el68 : elOk 68 = true := by kernel_rfl
theorem el69 : elOk 69 = true := by kernel_rfl
theorem el70 : elOk 70 = true := by kernel_rfl
theorem el71 : elOk 71 = true := by kernel_rfl
theorem el72 : elOk 72 = true := by kernel_rfl
theorem el73 : elOk 73 = true := by kernel_rfl
theorem el74 : elOk 74 = true := by kernel_rfl
theorem el75 : elOk 75 = true := by kernel_rfl
theorem el76 : elOk 76 = true := by kernel_rfl
theorem el77 : elOk 77 = true := by kernel_rfl
theorem el78 : elOk 78 = true := by kernel_rfl
theorem el79 : elOk 79 = true := by kernel_rfl

end Go.Proofs.YtljekfaoabigkaaGreatDoor.N
