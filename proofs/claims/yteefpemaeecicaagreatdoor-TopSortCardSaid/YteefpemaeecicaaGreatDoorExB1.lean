/- Functions that begin: the reckoning ends in yes. No condition. -/
import Derived.Test.YteefpemaeecicaaGreatDoorExSeat
import Derived.KernelRfl
open Go Go.Proofs
namespace Go.Proofs.YteefpemaeecicaaGreatDoor.Ev
set_option linter.unusedVariables false
set_option linter.unusedSimpArgs false
set_option linter.constructorNameAsVariable false
noncomputable section
def L7 : List (Nat × Fc) := []
theorem L7_ok [Rho] : LOk L7 := LOk.nil
set_option maxRecDepth 1000000 in
theorem run7 : (callsN (runL L7) 60).run 588 [] hp0 okT = Ans.yes := by kernel_rfl
theorem begun7 : Begun Tryz.prog 588 := @begun_of Tryz.prog rho0 (fun _ => rfl) (runL L7) (@runL_ok rho0 L7 (@L7_ok rho0)) 60 588 run7
def L8 : List (Nat × Fc) := [(588, yesF)]
theorem L8_ok [Rho] : LOk L8 := LOk.cons (yesF_ok begun7) (LOk.nil)
set_option maxRecDepth 1000000 in
theorem run8 : (callsN (runL L8) 60).run 586 [] hp0 okT = Ans.yes := by kernel_rfl
theorem begun8 : Begun Tryz.prog 586 := @begun_of Tryz.prog rho0 (fun _ => rfl) (runL L8) (@runL_ok rho0 L8 (@L8_ok rho0)) 60 586 run8
def L9 : List (Nat × Fc) := [(586, yesF), (588, yesF)]
theorem L9_ok [Rho] : LOk L9 := LOk.cons (yesF_ok begun8) (LOk.cons (yesF_ok begun7) (LOk.nil))
set_option maxRecDepth 1000000 in
theorem run9 : (callsN (runL L9) 60).run 584 [] hp0 okT = Ans.yes := by kernel_rfl
theorem begun9 : Begun Tryz.prog 584 := @begun_of Tryz.prog rho0 (fun _ => rfl) (runL L9) (@runL_ok rho0 L9 (@L9_ok rho0)) 60 584 run9
def L12 : List (Nat × Fc) := [(584, yesF), (586, yesF), (588, yesF)]
theorem L12_ok [Rho] : LOk L12 := LOk.cons (yesF_ok begun9) (LOk.cons (yesF_ok begun8) (LOk.cons (yesF_ok begun7) (LOk.nil)))
set_option maxRecDepth 1000000 in
theorem run12 : (callsN (runL L12) 60).run 579 [] hp0 okT = Ans.yes := by kernel_rfl
theorem begun12 : Begun Tryz.prog 579 := @begun_of Tryz.prog rho0 (fun _ => rfl) (runL L12) (@runL_ok rho0 L12 (@L12_ok rho0)) 60 579 run12
def L13 : List (Nat × Fc) := [(579, yesF), (584, yesF), (586, yesF), (588, yesF)]
theorem L13_ok [Rho] : LOk L13 := LOk.cons (yesF_ok begun12) (LOk.cons (yesF_ok begun9) (LOk.cons (yesF_ok begun8) (LOk.cons (yesF_ok begun7) (LOk.nil))))
set_option maxRecDepth 1000000 in
theorem run13 : (callsN (runL L13) 60).run 580 [] hp0 okT = Ans.yes := by kernel_rfl
theorem begun13 : Begun Tryz.prog 580 := @begun_of Tryz.prog rho0 (fun _ => rfl) (runL L13) (@runL_ok rho0 L13 (@L13_ok rho0)) 60 580 run13
end
end Go.Proofs.YteefpemaeecicaaGreatDoor.Ev
