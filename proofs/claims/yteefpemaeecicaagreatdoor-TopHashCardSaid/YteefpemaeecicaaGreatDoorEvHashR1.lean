/- The hash of bytes: runs. No condition. -/
import Derived.Test.YteefpemaeecicaaGreatDoorEvHash
import Derived.KernelRfl
open Go Go.RowKit Go.Proofs
namespace Go.Proofs.YteefpemaeecicaaGreatDoor.Ev
set_option linter.unusedVariables false
set_option linter.unusedSimpArgs false
set_option linter.constructorNameAsVariable false
noncomputable section
set_option maxRecDepth 1000000 in
theorem hsR40 : hsR 40 = Ans.yes := by kernel_rfl
set_option maxRecDepth 1000000 in
theorem hsR27 : hsR 27 = Ans.yes := by kernel_rfl
set_option maxRecDepth 1000000 in
theorem hsR25 : hsR 25 = Ans.yes := by kernel_rfl
set_option maxRecDepth 1000000 in
theorem hsR10 : hsR 10 = Ans.yes := by kernel_rfl
set_option maxRecDepth 1000000 in
theorem hsR9 : hsR 9 = Ans.yes := by kernel_rfl
end
end Go.Proofs.YteefpemaeecicaaGreatDoor.Ev
