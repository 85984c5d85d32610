/- The law of globals, by how many numbers. No condition. -/
import Derived.Test.YteefpemaeecicaaGreatDoorEwGlob
import Derived.KernelRfl
open Go Go.RowKit Go.Proofs
namespace Go.Proofs.YteefpemaeecicaaGreatDoor.Ev
set_option linter.unusedVariables false
set_option linter.unusedSimpArgs false
set_option linter.constructorNameAsVariable false
noncomputable section
set_option maxRecDepth 1000000 in
theorem gbR14 : gbR 14 = Ans.yes := by kernel_rfl
set_option maxRecDepth 1000000 in
theorem gbR11 : gbR 11 = Ans.yes := by kernel_rfl
set_option maxRecDepth 1000000 in
theorem gbR6 : gbR 6 = Ans.yes := by kernel_rfl
set_option maxRecDepth 1000000 in
theorem gbR3 : gbR 3 = Ans.yes := by kernel_rfl
end
end Go.Proofs.YteefpemaeecicaaGreatDoor.Ev
