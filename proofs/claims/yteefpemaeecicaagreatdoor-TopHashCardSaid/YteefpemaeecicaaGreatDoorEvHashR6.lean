/- The hash of bytes: runs. No condition. -/
import Derived.Test.YteefpemaeecicaaGreatDoorEvHash
import Derived.KernelRfl
open Go Go.RowKit Go.Proofs
namespace Go.Proofs.YteefpemaeecicaaGreatDoor.Ev
set_option linter.unusedVariables false
set_option linter.unusedSimpArgs false
set_option linter.constructorNameAsVariable false
noncomputable section
set_option maxRecDepth 1000000 in
theorem hsR35 : hsR 35 = Ans.yes := by kernel_rfl
set_option maxRecDepth 1000000 in
theorem hsR32 : hsR 32 = Ans.yes := by kernel_rfl
set_option maxRecDepth 1000000 in
theorem hsR22 : hsR 22 = Ans.yes := by kernel_rfl
set_option maxRecDepth 1000000 in
theorem hsR13 : hsR 13 = Ans.yes := by kernel_rfl
set_option maxRecDepth 1000000 in
theorem hsR7 : hsR 7 = Ans.yes := by kernel_rfl
end
end Go.Proofs.YteefpemaeecicaaGreatDoor.Ev
