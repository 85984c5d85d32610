/- The law of written and read machines: runs by classes. No condition. -/
import Derived.Test.YteefpemaeecicaaGreatDoorExWhL
import Derived.KernelRfl
open Go Go.RowKit Go.Proofs
namespace Go.Proofs.YteefpemaeecicaaGreatDoor.Ev
set_option linter.unusedVariables false
set_option linter.unusedSimpArgs false
set_option linter.constructorNameAsVariable false
set_option maxRecDepth 1000000
theorem wr3_1_1_0 : whK (whTk 3 1 1 0) 3 = Ans.yes := by kernel_rfl
theorem wr5_1_1_0 : whK (whTk 5 1 1 0) 5 = Ans.yes := by kernel_rfl
theorem wr7_1_1_0 : whK (whTk 7 1 1 0) 7 = Ans.yes := by kernel_rfl
theorem wr8_2_2_2 : whK (whTk 8 2 2 2) 8 = Ans.yes := by kernel_rfl
theorem wr10_2_2_0 : whK (whTk 10 2 2 0) 10 = Ans.yes := by kernel_rfl
theorem wr12_2_2_0 : whK (whTk 12 2 2 0) 12 = Ans.yes := by kernel_rfl
theorem wr14_2_2_0 : whK (whTk 14 2 2 0) 14 = Ans.yes := by kernel_rfl
theorem wr17_2_2_0 : whK (whTk 17 2 2 0) 17 = Ans.yes := by kernel_rfl
end Go.Proofs.YteefpemaeecicaaGreatDoor.Ev
