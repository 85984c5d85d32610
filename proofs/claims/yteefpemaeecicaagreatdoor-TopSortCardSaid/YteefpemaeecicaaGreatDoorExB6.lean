/- Functions that begin: the reckoning ends in yes. No condition. -/
import Derived.Test.YteefpemaeecicaaGreatDoorExB5
import Derived.KernelRfl
open Go Go.Proofs
namespace Go.Proofs.YteefpemaeecicaaGreatDoor.Ev
set_option linter.unusedVariables false
set_option linter.unusedSimpArgs false
set_option linter.constructorNameAsVariable false
noncomputable section
def L27 : List (Nat × Fc) := [(108, yesF), (363, sortedF 455 9), (336, cloneF), (498, crcF)]
theorem L27_ok [Rho] : LOk L27 := LOk.cons (yesF_ok begun26) (LOk.cons (sortedF_ok sortedAt) (LOk.cons (cloneF_ok cloneAt) (LOk.cons (crcF_ok) (LOk.nil))))
set_option maxRecDepth 1000000 in
theorem run27 : (callsN (runL L27) 60).run 29 [] hp0 okT = Ans.yes := by kernel_rfl
theorem begun27 : Begun Tryz.prog 29 := @begun_of Tryz.prog rho0 (fun _ => rfl) (runL L27) (@runL_ok rho0 L27 (@L27_ok rho0)) 60 29 run27
end
end Go.Proofs.YteefpemaeecicaaGreatDoor.Ev
