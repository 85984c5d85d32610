/- The hash of bytes: runs. No condition. -/
import Derived.Test.YteefpemaeecicaaGreatDoorEvHash
import Derived.KernelRfl
open Go Go.RowKit Go.Proofs
namespace Go.Proofs.YteefpemaeecicaaGreatDoor.Ev
set_option linter.unusedVariables false
set_option linter.unusedSimpArgs false
set_option linter.constructorNameAsVariable false
noncomputable section
set_option maxRecDepth 1000000 in
theorem hsR37 : hsR 37 = Ans.yes := by kernel_rfl
set_option maxRecDepth 1000000 in
theorem hsR30 : hsR 30 = Ans.yes := by kernel_rfl
set_option maxRecDepth 1000000 in
theorem hsR23 : hsR 23 = Ans.yes := by kernel_rfl
set_option maxRecDepth 1000000 in
theorem hsR12 : hsR 12 = Ans.yes := by kernel_rfl
set_option maxRecDepth 1000000 in
theorem hsR8 : hsR 8 = Ans.yes := by kernel_rfl
end
end Go.Proofs.YteefpemaeecicaaGreatDoor.Ev
