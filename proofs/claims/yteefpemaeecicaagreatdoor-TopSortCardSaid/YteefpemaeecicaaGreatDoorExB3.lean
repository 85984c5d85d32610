/- Functions that begin: the reckoning ends in yes. No condition. -/
import Derived.Test.YteefpemaeecicaaGreatDoorExSeat
import Derived.KernelRfl
open Go Go.Proofs
namespace Go.Proofs.YteefpemaeecicaaGreatDoor.Ev
set_option linter.unusedVariables false
set_option linter.unusedSimpArgs false
set_option linter.constructorNameAsVariable false
noncomputable section
def L22 : List (Nat × Fc) := []
theorem L22_ok [Rho] : LOk L22 := LOk.nil
set_option maxRecDepth 1000000 in
theorem run22 : (callsN (runL L22) 60).run 462 [] hp0 okT = Ans.yes := by kernel_rfl
theorem begun22 : Begun Tryz.prog 462 := @begun_of Tryz.prog rho0 (fun _ => rfl) (runL L22) (@runL_ok rho0 L22 (@L22_ok rho0)) 60 462 run22
def L23 : List (Nat × Fc) := [(462, yesF)]
theorem L23_ok [Rho] : LOk L23 := LOk.cons (yesF_ok begun22) (LOk.nil)
set_option maxRecDepth 1000000 in
theorem run23 : (callsN (runL L23) 60).run 463 [] hp0 okT = Ans.yes := by kernel_rfl
theorem begun23 : Begun Tryz.prog 463 := @begun_of Tryz.prog rho0 (fun _ => rfl) (runL L23) (@runL_ok rho0 L23 (@L23_ok rho0)) 60 463 run23
def L25 : List (Nat × Fc) := [(463, yesF), (462, yesF)]
theorem L25_ok [Rho] : LOk L25 := LOk.cons (yesF_ok begun23) (LOk.cons (yesF_ok begun22) (LOk.nil))
set_option maxRecDepth 1000000 in
theorem run25 : (callsN (runL L25) 60).run 221 [] hp0 okT = Ans.yes := by kernel_rfl
theorem begun25 : Begun Tryz.prog 221 := @begun_of Tryz.prog rho0 (fun _ => rfl) (runL L25) (@runL_ok rho0 L25 (@L25_ok rho0)) 60 221 run25
end
end Go.Proofs.YteefpemaeecicaaGreatDoor.Ev
