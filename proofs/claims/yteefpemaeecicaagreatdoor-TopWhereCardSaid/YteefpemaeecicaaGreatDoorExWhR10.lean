/- The law of written and read machines: runs by classes. No condition. -/
import Derived.Test.YteefpemaeecicaaGreatDoorExWhL
import Derived.KernelRfl
open Go Go.RowKit Go.Proofs
namespace Go.Proofs.YteefpemaeecicaaGreatDoor.Ev
set_option linter.unusedVariables false
set_option linter.unusedSimpArgs false
set_option linter.constructorNameAsVariable false
set_option maxRecDepth 1000000
theorem wr4_1_0_0 : whK (whTk 4 1 0 0) 4 = Ans.yes := by kernel_rfl
theorem wr6_1_0_0 : whK (whTk 6 1 0 0) 6 = Ans.yes := by kernel_rfl
theorem wr8_0_0_1 : whK (whTk 8 0 0 1) 8 = Ans.yes := by kernel_rfl
theorem wr9_2_1_0 : whK (whTk 9 2 1 0) 9 = Ans.yes := by kernel_rfl
theorem wr11_2_1_0 : whK (whTk 11 2 1 0) 11 = Ans.yes := by kernel_rfl
theorem wr13_2_1_0 : whK (whTk 13 2 1 0) 13 = Ans.yes := by kernel_rfl
theorem wr16_0_0_0 : whK (whTk 16 0 0 0) 16 = Ans.yes := by kernel_rfl
end Go.Proofs.YteefpemaeecicaaGreatDoor.Ev
