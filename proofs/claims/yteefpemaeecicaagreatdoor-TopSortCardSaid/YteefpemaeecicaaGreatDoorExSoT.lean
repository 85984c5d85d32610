/- The law of sorted bytes: its last pieces. No condition. -/
import Derived.Test.YteefpemaeecicaaGreatDoorExSoL
import Derived.KernelRfl
open Go Go.RowKit Go.Proofs
namespace Go.Proofs.YteefpemaeecicaaGreatDoor.Ev
set_option linter.unusedVariables false
set_option linter.unusedSimpArgs false
set_option linter.constructorNameAsVariable false
noncomputable section
set_option maxRecDepth 1000000
theorem lw_h : allB FH = .yes := by kernel_rfl
theorem lw_x : allA FX 13 = .yes := by kernel_rfl
theorem lw_l : allB FL = .yes := by kernel_rfl
theorem lw_j : allB FJ = .yes := by kernel_rfl
theorem lw_18 : allA F18 13 = .yes := by kernel_rfl
theorem lw_19 : allA F19 13 = .yes := by kernel_rfl
end
end Go.Proofs.YteefpemaeecicaaGreatDoor.Ev
