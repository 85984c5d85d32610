/- The hash of bytes: runs. No condition. -/
import Derived.Test.YteefpemaeecicaaGreatDoorEvHash
import Derived.KernelRfl
open Go Go.RowKit Go.Proofs
namespace Go.Proofs.YteefpemaeecicaaGreatDoor.Ev
set_option linter.unusedVariables false
set_option linter.unusedSimpArgs false
set_option linter.constructorNameAsVariable false
noncomputable section
set_option maxRecDepth 1000000 in
theorem hsR41 : hsRX = Ans.yes := by kernel_rfl
set_option maxRecDepth 1000000 in
theorem hsR26 : hsR 26 = Ans.yes := by kernel_rfl
set_option maxRecDepth 1000000 in
theorem hsR21 : hsR 21 = Ans.yes := by kernel_rfl
set_option maxRecDepth 1000000 in
theorem hsR14 : hsR 14 = Ans.yes := by kernel_rfl
set_option maxRecDepth 1000000 in
theorem hsR6 : hsR 6 = Ans.yes := by kernel_rfl
end
end Go.Proofs.YteefpemaeecicaaGreatDoor.Ev
