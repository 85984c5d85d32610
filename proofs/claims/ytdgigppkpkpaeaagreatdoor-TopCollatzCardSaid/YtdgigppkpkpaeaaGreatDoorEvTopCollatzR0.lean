/- Runs of TopCollatz. No condition. -/
import Derived.Test.YtdgigppkpkpaeaaGreatDoorEvLaw
import Derived.KernelRfl
open Go Go.Proofs
namespace Go.Proofs.YtdgigppkpkpaeaaGreatDoor.Ev
set_option linter.unusedVariables false
set_option linter.unusedSimpArgs false
set_option linter.constructorNameAsVariable false
noncomputable section
def lsTopCollatz0 : List (List AV) := [[.x 60 1], [.x 60 47], [.x 60 54]]
set_option maxRecDepth 1000000 in
theorem runTopCollatz0 : runsK LT 3 lsTopCollatz0 = Ans.yes := by kernel_rfl
end
end Go.Proofs.YtdgigppkpkpaeaaGreatDoor.Ev
