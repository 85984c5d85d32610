/- The law of written and read machines: runs by classes. No condition. -/
import Derived.Test.YteefpemaeecicaaGreatDoorExWhL
import Derived.KernelRfl
open Go Go.RowKit Go.Proofs
namespace Go.Proofs.YteefpemaeecicaaGreatDoor.Ev
set_option linter.unusedVariables false
set_option linter.unusedSimpArgs false
set_option linter.constructorNameAsVariable false
set_option maxRecDepth 1000000
theorem wr3_2_1_0 : whK (whTk 3 2 1 0) 3 = Ans.yes := by kernel_rfl
theorem wr5_2_1_0 : whK (whTk 5 2 1 0) 5 = Ans.yes := by kernel_rfl
theorem wr7_2_1_0 : whK (whTk 7 2 1 0) 7 = Ans.yes := by kernel_rfl
theorem wr9_1_0_0 : whK (whTk 9 1 0 0) 9 = Ans.yes := by kernel_rfl
theorem wr11_1_0_0 : whK (whTk 11 1 0 0) 11 = Ans.yes := by kernel_rfl
theorem wr13_1_0_0 : whK (whTk 13 1 0 0) 13 = Ans.yes := by kernel_rfl
theorem wr15_1_1_0 : whK (whTk 15 1 1 0) 15 = Ans.yes := by kernel_rfl
theorem wr18_1_1_0 : whK (whTk 18 1 1 0) 18 = Ans.yes := by kernel_rfl
end Go.Proofs.YteefpemaeecicaaGreatDoor.Ev
