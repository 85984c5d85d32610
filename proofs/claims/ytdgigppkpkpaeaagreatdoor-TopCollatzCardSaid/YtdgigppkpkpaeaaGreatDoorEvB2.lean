/- Functions that begin: the reckoning ends in yes. No condition. -/
import Derived.Test.YtdgigppkpkpaeaaGreatDoorEvB1
import Derived.KernelRfl
open Go Go.Proofs
namespace Go.Proofs.YtdgigppkpkpaeaaGreatDoor.Ev
set_option linter.unusedVariables false
set_option linter.unusedSimpArgs false
set_option linter.constructorNameAsVariable false
noncomputable section
def L14 : List (Nat × Fc) := [(575, yesF), (576, yesF)]
theorem L14_ok : LOk L14 := LOk.cons (yesF_ok begun12) (LOk.cons (yesF_ok begun13) (LOk.nil))
set_option maxRecDepth 1000000 in
theorem run14 : (callsN (runL L14) 60).run 567 [] hp0 okT = Ans.yes := by kernel_rfl
theorem begun14 : Begun Tryz.prog 567 := @begun_of Tryz.prog (runL L14) (runL_ok L14_ok) 60 567 run14
def L15 : List (Nat × Fc) := [(567, yesF), (575, yesF), (576, yesF)]
theorem L15_ok : LOk L15 := LOk.cons (yesF_ok begun14) (LOk.cons (yesF_ok begun12) (LOk.cons (yesF_ok begun13) (LOk.nil)))
set_option maxRecDepth 1000000 in
theorem run15 : (callsN (runL L15) 60).run 533 [] hp0 okT = Ans.yes := by kernel_rfl
theorem begun15 : Begun Tryz.prog 533 := @begun_of Tryz.prog (runL L15) (runL_ok L15_ok) 60 533 run15
def L16 : List (Nat × Fc) := [(533, yesF), (567, yesF), (575, yesF), (576, yesF)]
theorem L16_ok : LOk L16 := LOk.cons (yesF_ok begun15) (LOk.cons (yesF_ok begun14) (LOk.cons (yesF_ok begun12) (LOk.cons (yesF_ok begun13) (LOk.nil))))
set_option maxRecDepth 1000000 in
theorem run16 : (callsN (runL L16) 60).run 424 [] hp0 okT = Ans.yes := by kernel_rfl
theorem begun16 : Begun Tryz.prog 424 := @begun_of Tryz.prog (runL L16) (runL_ok L16_ok) 60 424 run16
end
end Go.Proofs.YtdgigppkpkpaeaaGreatDoor.Ev
