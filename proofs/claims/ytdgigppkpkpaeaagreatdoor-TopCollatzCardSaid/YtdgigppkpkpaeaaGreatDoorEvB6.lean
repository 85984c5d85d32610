/- Functions that begin: the reckoning ends in yes. No condition. -/
import Derived.Test.YtdgigppkpkpaeaaGreatDoorEvB5
import Derived.KernelRfl
open Go Go.Proofs
namespace Go.Proofs.YtdgigppkpkpaeaaGreatDoor.Ev
set_option linter.unusedVariables false
set_option linter.unusedSimpArgs false
set_option linter.constructorNameAsVariable false
noncomputable section
def L27 : List (Nat × Fc) := [(71, yesF), (312, sortedF 418 9), (281, cloneF), (472, crcF)]
theorem L27_ok : LOk L27 := LOk.cons (yesF_ok begun26) (LOk.cons (sortedF_ok sortedAt) (LOk.cons (cloneF_ok cloneAt) (LOk.cons (crcF_ok) (LOk.nil))))
set_option maxRecDepth 1000000 in
theorem run27 : (callsN (runL L27) 60).run 23 [] hp0 okT = Ans.yes := by kernel_rfl
theorem begun27 : Begun Tryz.prog 23 := @begun_of Tryz.prog (runL L27) (runL_ok L27_ok) 60 23 run27
end
end Go.Proofs.YtdgigppkpkpaeaaGreatDoor.Ev
