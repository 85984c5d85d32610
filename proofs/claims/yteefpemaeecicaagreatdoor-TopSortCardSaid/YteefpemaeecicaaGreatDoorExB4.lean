/- Functions that begin: the reckoning ends in yes. No condition. -/
import Derived.Test.YteefpemaeecicaaGreatDoorExB2
import Derived.Test.YteefpemaeecicaaGreatDoorExB3
import Derived.Test.YteefpemaeecicaaGreatDoorExMaps
import Derived.KernelRfl
open Go Go.Proofs
namespace Go.Proofs.YteefpemaeecicaaGreatDoor.Ev
set_option linter.unusedVariables false
set_option linter.unusedSimpArgs false
set_option linter.constructorNameAsVariable false
noncomputable section
def L24 : List (Nat × Fc) := [(461, yesF), (462, yesF), (463, yesF), (363, sortedF 455 9), (336, cloneF)]
theorem L24_ok [Rho] : LOk L24 := LOk.cons (yesF_ok begun16) (LOk.cons (yesF_ok begun22) (LOk.cons (yesF_ok begun23) (LOk.cons (sortedF_ok sortedAt) (LOk.cons (cloneF_ok cloneAt) (LOk.nil)))))
set_option maxRecDepth 1000000 in
theorem run24 : (callsN (runL L24) 60).run 220 [] hp0 okT = Ans.yes := by kernel_rfl
theorem begun24 : Begun Tryz.prog 220 := @begun_of Tryz.prog rho0 (fun _ => rfl) (runL L24) (@runL_ok rho0 L24 (@L24_ok rho0)) 60 220 run24
end
end Go.Proofs.YteefpemaeecicaaGreatDoor.Ev
