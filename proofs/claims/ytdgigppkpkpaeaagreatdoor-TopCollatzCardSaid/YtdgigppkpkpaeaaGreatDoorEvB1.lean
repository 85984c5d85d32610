/- Functions that begin: the reckoning ends in yes. No condition. -/
import Derived.Test.YtdgigppkpkpaeaaGreatDoorEvSeat
import Derived.KernelRfl
open Go Go.Proofs
namespace Go.Proofs.YtdgigppkpkpaeaaGreatDoor.Ev
set_option linter.unusedVariables false
set_option linter.unusedSimpArgs false
set_option linter.constructorNameAsVariable false
noncomputable section
def L7 : List (Nat × Fc) := []
theorem L7_ok : LOk L7 := LOk.nil
set_option maxRecDepth 1000000 in
theorem run7 : (callsN (runL L7) 60).run 584 [] hp0 okT = Ans.yes := by kernel_rfl
theorem begun7 : Begun Tryz.prog 584 := @begun_of Tryz.prog (runL L7) (runL_ok L7_ok) 60 584 run7
def L8 : List (Nat × Fc) := [(584, yesF)]
theorem L8_ok : LOk L8 := LOk.cons (yesF_ok begun7) (LOk.nil)
set_option maxRecDepth 1000000 in
theorem run8 : (callsN (runL L8) 60).run 582 [] hp0 okT = Ans.yes := by kernel_rfl
theorem begun8 : Begun Tryz.prog 582 := @begun_of Tryz.prog (runL L8) (runL_ok L8_ok) 60 582 run8
def L9 : List (Nat × Fc) := [(582, yesF), (584, yesF)]
theorem L9_ok : LOk L9 := LOk.cons (yesF_ok begun8) (LOk.cons (yesF_ok begun7) (LOk.nil))
set_option maxRecDepth 1000000 in
theorem run9 : (callsN (runL L9) 60).run 580 [] hp0 okT = Ans.yes := by kernel_rfl
theorem begun9 : Begun Tryz.prog 580 := @begun_of Tryz.prog (runL L9) (runL_ok L9_ok) 60 580 run9
def L12 : List (Nat × Fc) := [(580, yesF), (582, yesF), (584, yesF)]
theorem L12_ok : LOk L12 := LOk.cons (yesF_ok begun9) (LOk.cons (yesF_ok begun8) (LOk.cons (yesF_ok begun7) (LOk.nil)))
set_option maxRecDepth 1000000 in
theorem run12 : (callsN (runL L12) 60).run 575 [] hp0 okT = Ans.yes := by kernel_rfl
theorem begun12 : Begun Tryz.prog 575 := @begun_of Tryz.prog (runL L12) (runL_ok L12_ok) 60 575 run12
def L13 : List (Nat × Fc) := [(575, yesF), (580, yesF), (582, yesF), (584, yesF)]
theorem L13_ok : LOk L13 := LOk.cons (yesF_ok begun12) (LOk.cons (yesF_ok begun9) (LOk.cons (yesF_ok begun8) (LOk.cons (yesF_ok begun7) (LOk.nil))))
set_option maxRecDepth 1000000 in
theorem run13 : (callsN (runL L13) 60).run 576 [] hp0 okT = Ans.yes := by kernel_rfl
theorem begun13 : Begun Tryz.prog 576 := @begun_of Tryz.prog (runL L13) (runL_ok L13_ok) 60 576 run13
end
end Go.Proofs.YtdgigppkpkpaeaaGreatDoor.Ev
