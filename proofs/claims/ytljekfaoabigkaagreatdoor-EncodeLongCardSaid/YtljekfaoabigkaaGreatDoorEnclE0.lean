/-
  EncodeLong: both encoders, run, at each of twenty lengths (1 of 5).
-/
import Derived.Test.YtljekfaoabigkaaGreatDoorEnclE
namespace Go.Proofs.YtljekfaoabigkaaGreatDoor.N
open Go Go.Am

theorem el0 : elOk 0 = true := by kernel_rfl
theorem el1 : elOk 1 = true := by kernel_rfl
theorem el2 : elOk 2 = true := by kernel_rfl
theorem el3 : elOk 3 = true := by kernel_rfl
theorem el4 : elOk 4 = true := by kernel_rfl
theorem el5 : elOk 5 = true := by kernel_rfl
theorem el6 : elOk 6 = true := by kernel_rfl
theorem el7 : elOk 7 = true := by kernel_rfl
theorem el8 : elOk 8 = true := by kernel_rfl
theorem el9 : elOk 9 = true := by kernel_rfl
theorem el10 : elOk 10 = true := by kernel_rfl
theorem el11 : elOk 11 = true := by kernel_rfl
theorem el12 : elOk 12 = true := by kernel_rfl
theorem el13 : elOk 13 = true := by kernel_rfl
theorem el14 : elOk 14 = true := by kernel_rfl
theorem el15 : elOk 15 = true := by kernel_rfl
theorem el16 : elOk 16 = true := by kernel_rfl
theorem el17 : elOk 17 = true := by kernel_rfl
theorem el18 : elOk 18 = true := by kernel_rfl
theorem el19 : elOk 19 = true := by kernel_rfl

end Go.Proofs.YtljekfaoabigkaaGreatDoor.N
