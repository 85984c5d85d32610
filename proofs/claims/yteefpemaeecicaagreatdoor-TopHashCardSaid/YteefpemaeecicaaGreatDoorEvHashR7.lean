/- The hash of bytes: runs. No condition. -/
import Derived.Test.YteefpemaeecicaaGreatDoorEvHash
import Derived.KernelRfl
open Go Go.RowKit Go.Proofs
namespace Go.Proofs.YteefpemaeecicaaGreatDoor.Ev
set_option linter.unusedVariables false
set_option linter.unusedSimpArgs false
set_option linter.constructorNameAsVariable false
noncomputable section
set_option maxRecDepth 1000000 in
theorem hsR34 : hsR 34 = Ans.yes := by kernel_rfl
set_option maxRecDepth 1000000 in
theorem hsR33 : hsR 33 = Ans.yes := by kernel_rfl
set_option maxRecDepth 1000000 in
theorem hsR18 : hsR 18 = Ans.yes := by kernel_rfl
set_option maxRecDepth 1000000 in
theorem hsR17 : hsR 17 = Ans.yes := by kernel_rfl
set_option maxRecDepth 1000000 in
theorem hsR2 : hsR 2 = Ans.yes := by kernel_rfl
set_option maxRecDepth 1000000 in
theorem hsR1 : hsR 1 = Ans.yes := by kernel_rfl
end
end Go.Proofs.YteefpemaeecicaaGreatDoor.Ev
