/- Functions that begin: the reckoning ends in yes. No condition. -/
import Derived.Test.YteefpemaeecicaaGreatDoorExB4
import Derived.Test.YteefpemaeecicaaGreatDoorExCrc
import Derived.KernelRfl
open Go Go.Proofs
namespace Go.Proofs.YteefpemaeecicaaGreatDoor.Ev
set_option linter.unusedVariables false
set_option linter.unusedSimpArgs false
set_option linter.constructorNameAsVariable false
noncomputable section
def L26 : List (Nat × Fc) := [(220, yesF), (221, yesF), (363, sortedF 455 9), (336, cloneF), (498, crcF)]
theorem L26_ok [Rho] : LOk L26 := LOk.cons (yesF_ok begun24) (LOk.cons (yesF_ok begun25) (LOk.cons (sortedF_ok sortedAt) (LOk.cons (cloneF_ok cloneAt) (LOk.cons (crcF_ok) (LOk.nil)))))
set_option maxRecDepth 1000000 in
theorem run26 : (callsN (runL L26) 60).run 108 [] hp0 okT = Ans.yes := by kernel_rfl
theorem begun26 : Begun Tryz.prog 108 := @begun_of Tryz.prog rho0 (fun _ => rfl) (runL L26) (@runL_ok rho0 L26 (@L26_ok rho0)) 60 108 run26
end
end Go.Proofs.YteefpemaeecicaaGreatDoor.Ev
