/- The hash of bytes: runs. No condition. -/
import Derived.Test.YteefpemaeecicaaGreatDoorEvHash
import Derived.KernelRfl
open Go Go.RowKit Go.Proofs
namespace Go.Proofs.YteefpemaeecicaaGreatDoor.Ev
set_option linter.unusedVariables false
set_option linter.unusedSimpArgs false
set_option linter.constructorNameAsVariable false
noncomputable section
set_option maxRecDepth 1000000 in
theorem hsR39 : hsR 39 = Ans.yes := by kernel_rfl
set_option maxRecDepth 1000000 in
theorem hsR28 : hsR 28 = Ans.yes := by kernel_rfl
set_option maxRecDepth 1000000 in
theorem hsR24 : hsR 24 = Ans.yes := by kernel_rfl
set_option maxRecDepth 1000000 in
theorem hsR11 : hsR 11 = Ans.yes := by kernel_rfl
set_option maxRecDepth 1000000 in
theorem hsR5 : hsR 5 = Ans.yes := by kernel_rfl
end
end Go.Proofs.YteefpemaeecicaaGreatDoor.Ev
