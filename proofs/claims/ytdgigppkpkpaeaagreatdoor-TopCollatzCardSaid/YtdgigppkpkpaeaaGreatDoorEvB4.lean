/- Functions that begin: the reckoning ends in yes. No condition. -/
import Derived.Test.YtdgigppkpkpaeaaGreatDoorEvB2
import Derived.Test.YtdgigppkpkpaeaaGreatDoorEvB3
import Derived.Test.YtdgigppkpkpaeaaGreatDoorEvMaps
import Derived.KernelRfl
open Go Go.Proofs
namespace Go.Proofs.YtdgigppkpkpaeaaGreatDoor.Ev
set_option linter.unusedVariables false
set_option linter.unusedSimpArgs false
set_option linter.constructorNameAsVariable false
noncomputable section
def L24 : List (Nat × Fc) := [(424, yesF), (425, yesF), (426, yesF), (312, sortedF 418 9), (281, cloneF)]
theorem L24_ok : LOk L24 := LOk.cons (yesF_ok begun16) (LOk.cons (yesF_ok begun22) (LOk.cons (yesF_ok begun23) (LOk.cons (sortedF_ok sortedAt) (LOk.cons (cloneF_ok cloneAt) (LOk.nil)))))
set_option maxRecDepth 1000000 in
theorem run24 : (callsN (runL L24) 60).run 167 [] hp0 okT = Ans.yes := by kernel_rfl
theorem begun24 : Begun Tryz.prog 167 := @begun_of Tryz.prog (runL L24) (runL_ok L24_ok) 60 167 run24
end
end Go.Proofs.YtdgigppkpkpaeaaGreatDoor.Ev
