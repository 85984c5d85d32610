/- The law of globals, by how many numbers. No condition. -/
import Derived.Test.YteefpemaeecicaaGreatDoorEwGlob
import Derived.KernelRfl
open Go Go.RowKit Go.Proofs
namespace Go.Proofs.YteefpemaeecicaaGreatDoor.Ev
set_option linter.unusedVariables false
set_option linter.unusedSimpArgs false
set_option linter.constructorNameAsVariable false
noncomputable section
set_option maxRecDepth 1000000 in
theorem gbR15 : gbR 15 = Ans.yes := by kernel_rfl
set_option maxRecDepth 1000000 in
theorem gbR10 : gbR 10 = Ans.yes := by kernel_rfl
set_option maxRecDepth 1000000 in
theorem gbR7 : gbR 7 = Ans.yes := by kernel_rfl
set_option maxRecDepth 1000000 in
theorem gbR2 : gbR 2 = Ans.yes := by kernel_rfl
end
end Go.Proofs.YteefpemaeecicaaGreatDoor.Ev
