/- The hash of bytes: runs. No condition. -/
import Derived.Test.YteefpemaeecicaaGreatDoorEvHash
import Derived.KernelRfl
open Go Go.RowKit Go.Proofs
namespace Go.Proofs.YteefpemaeecicaaGreatDoor.Ev
set_option linter.unusedVariables false
set_option linter.unusedSimpArgs false
set_option linter.constructorNameAsVariable false
noncomputable section
set_option maxRecDepth 1000000 in
theorem hsR38 : hsR 38 = Ans.yes := by kernel_rfl
set_option maxRecDepth 1000000 in
theorem hsR29 : hsR 29 = Ans.yes := by kernel_rfl
set_option maxRecDepth 1000000 in
theorem hsR20 : hsR 20 = Ans.yes := by kernel_rfl
set_option maxRecDepth 1000000 in
theorem hsR15 : hsR 15 = Ans.yes := by kernel_rfl
set_option maxRecDepth 1000000 in
theorem hsR4 : hsR 4 = Ans.yes := by kernel_rfl
end
end Go.Proofs.YteefpemaeecicaaGreatDoor.Ev
