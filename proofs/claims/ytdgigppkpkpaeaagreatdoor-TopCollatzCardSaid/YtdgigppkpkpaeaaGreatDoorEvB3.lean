/- Functions that begin: the reckoning ends in yes. No condition. -/
import Derived.Test.YtdgigppkpkpaeaaGreatDoorEvSeat
import Derived.KernelRfl
open Go Go.Proofs
namespace Go.Proofs.YtdgigppkpkpaeaaGreatDoor.Ev
set_option linter.unusedVariables false
set_option linter.unusedSimpArgs false
set_option linter.constructorNameAsVariable false
noncomputable section
def L22 : List (Nat × Fc) := []
theorem L22_ok : LOk L22 := LOk.nil
set_option maxRecDepth 1000000 in
theorem run22 : (callsN (runL L22) 60).run 425 [] hp0 okT = Ans.yes := by kernel_rfl
theorem begun22 : Begun Tryz.prog 425 := @begun_of Tryz.prog (runL L22) (runL_ok L22_ok) 60 425 run22
def L23 : List (Nat × Fc) := [(425, yesF)]
theorem L23_ok : LOk L23 := LOk.cons (yesF_ok begun22) (LOk.nil)
set_option maxRecDepth 1000000 in
theorem run23 : (callsN (runL L23) 60).run 426 [] hp0 okT = Ans.yes := by kernel_rfl
theorem begun23 : Begun Tryz.prog 426 := @begun_of Tryz.prog (runL L23) (runL_ok L23_ok) 60 426 run23
def L25 : List (Nat × Fc) := [(426, yesF), (425, yesF)]
theorem L25_ok : LOk L25 := LOk.cons (yesF_ok begun23) (LOk.cons (yesF_ok begun22) (LOk.nil))
set_option maxRecDepth 1000000 in
theorem run25 : (callsN (runL L25) 60).run 168 [] hp0 okT = Ans.yes := by kernel_rfl
theorem begun25 : Begun Tryz.prog 168 := @begun_of Tryz.prog (runL L25) (runL_ok L25_ok) 60 168 run25
end
end Go.Proofs.YtdgigppkpkpaeaaGreatDoor.Ev
