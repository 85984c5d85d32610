/- The hash of bytes: runs. No condition. -/
import Derived.Test.YteefpemaeecicaaGreatDoorEvHash
import Derived.KernelRfl
open Go Go.RowKit Go.Proofs
namespace Go.Proofs.YteefpemaeecicaaGreatDoor.Ev
set_option linter.unusedVariables false
set_option linter.unusedSimpArgs false
set_option linter.constructorNameAsVariable false
noncomputable section
set_option maxRecDepth 1000000 in
theorem hsR36 : hsR 36 = Ans.yes := by kernel_rfl
set_option maxRecDepth 1000000 in
theorem hsR31 : hsR 31 = Ans.yes := by kernel_rfl
set_option maxRecDepth 1000000 in
theorem hsR19 : hsR 19 = Ans.yes := by kernel_rfl
set_option maxRecDepth 1000000 in
theorem hsR16 : hsR 16 = Ans.yes := by kernel_rfl
set_option maxRecDepth 1000000 in
theorem hsR3 : hsR 3 = Ans.yes := by kernel_rfl
set_option maxRecDepth 1000000 in
theorem hsR0 : hsRZ = Ans.yes := by kernel_rfl
end
end Go.Proofs.YteefpemaeecicaaGreatDoor.Ev
