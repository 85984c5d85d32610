/- Functions that begin: the reckoning ends in yes. No condition. -/
import Derived.Test.YtdgigppkpkpaeaaGreatDoorEvB4
import Derived.Test.YtdgigppkpkpaeaaGreatDoorEvCrc
import Derived.KernelRfl
open Go Go.Proofs
namespace Go.Proofs.YtdgigppkpkpaeaaGreatDoor.Ev
set_option linter.unusedVariables false
set_option linter.unusedSimpArgs false
set_option linter.constructorNameAsVariable false
noncomputable section
def L26 : List (Nat × Fc) := [(167, yesF), (168, yesF), (312, sortedF 418 9), (281, cloneF), (472, crcF)]
theorem L26_ok : LOk L26 := LOk.cons (yesF_ok begun24) (LOk.cons (yesF_ok begun25) (LOk.cons (sortedF_ok sortedAt) (LOk.cons (cloneF_ok cloneAt) (LOk.cons (crcF_ok) (LOk.nil)))))
set_option maxRecDepth 1000000 in
theorem run26 : (callsN (runL L26) 60).run 71 [] hp0 okT = Ans.yes := by kernel_rfl
theorem begun26 : Begun Tryz.prog 71 := @begun_of Tryz.prog (runL L26) (runL_ok L26_ok) 60 71 run26
end
end Go.Proofs.YtdgigppkpkpaeaaGreatDoor.Ev
