/- The law of written and read machines: runs by classes. No condition. -/
import Derived.Test.YteefpemaeecicaaGreatDoorExWhL
import Derived.KernelRfl
open Go Go.RowKit Go.Proofs
namespace Go.Proofs.YteefpemaeecicaaGreatDoor.Ev
set_option linter.unusedVariables false
set_option linter.unusedSimpArgs false
set_option linter.constructorNameAsVariable false
set_option maxRecDepth 1000000
theorem wr1_0_0_0 : whK (whTk 1 0 0 0) 1 = Ans.yes := by kernel_rfl
theorem wr4_2_1_0 : whK (whTk 4 2 1 0) 4 = Ans.yes := by kernel_rfl
theorem wr6_2_1_0 : whK (whTk 6 2 1 0) 6 = Ans.yes := by kernel_rfl
theorem wr8_1_1_1 : whK (whTk 8 1 1 1) 8 = Ans.yes := by kernel_rfl
theorem wr10_1_0_0 : whK (whTk 10 1 0 0) 10 = Ans.yes := by kernel_rfl
theorem wr12_1_0_0 : whK (whTk 12 1 0 0) 12 = Ans.yes := by kernel_rfl
theorem wr14_1_0_0 : whK (whTk 14 1 0 0) 14 = Ans.yes := by kernel_rfl
theorem wr16_2_2_0 : whK (whTk 16 2 2 0) 16 = Ans.yes := by kernel_rfl
end Go.Proofs.YteefpemaeecicaaGreatDoor.Ev
