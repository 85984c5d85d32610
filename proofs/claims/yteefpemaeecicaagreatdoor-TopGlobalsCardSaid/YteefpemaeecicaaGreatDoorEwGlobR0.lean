/- The law of globals, by how many numbers. No condition. -/
import Derived.Test.YteefpemaeecicaaGreatDoorEwGlob
import Derived.KernelRfl
open Go Go.RowKit Go.Proofs
namespace Go.Proofs.YteefpemaeecicaaGreatDoor.Ev
set_option linter.unusedVariables false
set_option linter.unusedSimpArgs false
set_option linter.constructorNameAsVariable false
noncomputable section
set_option maxRecDepth 1000000 in
theorem gbR16 : gbRX = Ans.yes := by kernel_rfl
set_option maxRecDepth 1000000 in
theorem gbR9 : gbR 9 = Ans.yes := by kernel_rfl
set_option maxRecDepth 1000000 in
theorem gbR8 : gbR 8 = Ans.yes := by kernel_rfl
set_option maxRecDepth 1000000 in
theorem gbR1 : gbR 1 = Ans.yes := by kernel_rfl
set_option maxRecDepth 1000000 in
theorem gbR0 : gbR 0 = Ans.yes := by kernel_rfl
end
end Go.Proofs.YteefpemaeecicaaGreatDoor.Ev
