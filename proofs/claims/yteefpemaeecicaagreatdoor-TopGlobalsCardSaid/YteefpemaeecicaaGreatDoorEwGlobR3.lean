/- The law of globals, by how many numbers. No condition. -/
import Derived.Test.YteefpemaeecicaaGreatDoorEwGlob
import Derived.KernelRfl
open Go Go.RowKit Go.Proofs
namespace Go.Proofs.YteefpemaeecicaaGreatDoor.Ev
set_option linter.unusedVariables false
set_option linter.unusedSimpArgs false
set_option linter.constructorNameAsVariable false
noncomputable section
set_option maxRecDepth 1000000 in
theorem gbR13 : gbR 13 = Ans.yes := by kernel_rfl
set_option maxRecDepth 1000000 in
theorem gbR12 : gbR 12 = Ans.yes := by kernel_rfl
set_option maxRecDepth 1000000 in
theorem gbR5 : gbR 5 = Ans.yes := by kernel_rfl
set_option maxRecDepth 1000000 in
theorem gbR4 : gbR 4 = Ans.yes := by kernel_rfl
end
end Go.Proofs.YteefpemaeecicaaGreatDoor.Ev
