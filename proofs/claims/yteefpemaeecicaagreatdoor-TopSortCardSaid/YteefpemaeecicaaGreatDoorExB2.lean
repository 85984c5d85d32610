/- Functions that begin: the reckoning ends in yes. No condition. -/
import Derived.Test.YteefpemaeecicaaGreatDoorExB1
import Derived.KernelRfl
open Go Go.Proofs
namespace Go.Proofs.YteefpemaeecicaaGreatDoor.Ev
set_option linter.unusedVariables false
set_option linter.unusedSimpArgs false
set_option linter.constructorNameAsVariable false
noncomputable section
def L14 : List (Nat × Fc) := [(579, yesF), (580, yesF)]
theorem L14_ok [Rho] : LOk L14 := LOk.cons (yesF_ok begun12) (LOk.cons (yesF_ok begun13) (LOk.nil))
set_option maxRecDepth 1000000 in
theorem run14 : (callsN (runL L14) 60).run 571 [] hp0 okT = Ans.yes := by kernel_rfl
theorem begun14 : Begun Tryz.prog 571 := @begun_of Tryz.prog rho0 (fun _ => rfl) (runL L14) (@runL_ok rho0 L14 (@L14_ok rho0)) 60 571 run14
def L15 : List (Nat × Fc) := [(571, yesF), (579, yesF), (580, yesF)]
theorem L15_ok [Rho] : LOk L15 := LOk.cons (yesF_ok begun14) (LOk.cons (yesF_ok begun12) (LOk.cons (yesF_ok begun13) (LOk.nil)))
set_option maxRecDepth 1000000 in
theorem run15 : (callsN (runL L15) 60).run 546 [] hp0 okT = Ans.yes := by kernel_rfl
theorem begun15 : Begun Tryz.prog 546 := @begun_of Tryz.prog rho0 (fun _ => rfl) (runL L15) (@runL_ok rho0 L15 (@L15_ok rho0)) 60 546 run15
def L16 : List (Nat × Fc) := [(546, yesF), (571, yesF), (579, yesF), (580, yesF)]
theorem L16_ok [Rho] : LOk L16 := LOk.cons (yesF_ok begun15) (LOk.cons (yesF_ok begun14) (LOk.cons (yesF_ok begun12) (LOk.cons (yesF_ok begun13) (LOk.nil))))
set_option maxRecDepth 1000000 in
theorem run16 : (callsN (runL L16) 60).run 461 [] hp0 okT = Ans.yes := by kernel_rfl
theorem begun16 : Begun Tryz.prog 461 := @begun_of Tryz.prog rho0 (fun _ => rfl) (runL L16) (@runL_ok rho0 L16 (@L16_ok rho0)) 60 461 run16
end
end Go.Proofs.YteefpemaeecicaaGreatDoor.Ev
