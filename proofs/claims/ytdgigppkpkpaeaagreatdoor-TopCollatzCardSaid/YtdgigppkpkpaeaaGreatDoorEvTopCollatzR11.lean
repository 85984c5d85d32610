/- Runs of TopCollatz. No condition. -/
import Derived.Test.YtdgigppkpkpaeaaGreatDoorEvLaw
import Derived.KernelRfl
open Go Go.Proofs
namespace Go.Proofs.YtdgigppkpkpaeaaGreatDoor.Ev
set_option linter.unusedVariables false
set_option linter.unusedSimpArgs false
set_option linter.constructorNameAsVariable false
noncomputable section
def lsTopCollatz11 : List (List AV) := [[.x 60 3], [.x 60 18], [.x 60 29], [.x 60 44], [.x 60 49], [.x 60 50], [.x 60 51]]
set_option maxRecDepth 1000000 in
theorem runTopCollatz11 : runsK LT 3 lsTopCollatz11 = Ans.yes := by kernel_rfl
end
end Go.Proofs.YtdgigppkpkpaeaaGreatDoor.Ev
