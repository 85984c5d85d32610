/- Runs of TopCollatz. No condition. -/
import Derived.Test.YtdgigppkpkpaeaaGreatDoorEvLaw
import Derived.KernelRfl
open Go Go.Proofs
namespace Go.Proofs.YtdgigppkpkpaeaaGreatDoor.Ev
set_option linter.unusedVariables false
set_option linter.unusedSimpArgs false
set_option linter.constructorNameAsVariable false
noncomputable section
def lsTopCollatz1 : List (List AV) := [[.x 60 9], [.x 60 25], [.x 60 53]]
set_option maxRecDepth 1000000 in
theorem runTopCollatz1 : runsK LT 3 lsTopCollatz1 = Ans.yes := by kernel_rfl
end
end Go.Proofs.YtdgigppkpkpaeaaGreatDoor.Ev
