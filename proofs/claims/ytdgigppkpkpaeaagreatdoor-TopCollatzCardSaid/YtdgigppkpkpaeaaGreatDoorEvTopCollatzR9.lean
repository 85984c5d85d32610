/- Runs of TopCollatz. No condition. -/
import Derived.Test.YtdgigppkpkpaeaaGreatDoorEvLaw
import Derived.KernelRfl
open Go Go.Proofs
namespace Go.Proofs.YtdgigppkpkpaeaaGreatDoor.Ev
set_option linter.unusedVariables false
set_option linter.unusedSimpArgs false
set_option linter.constructorNameAsVariable false
noncomputable section
def lsTopCollatz9 : List (List AV) := [[.x 60 7], [.x 60 11], [.x 60 21], [.x 60 24], [.x 60 27], [.x 60 42], [.x 60 59]]
set_option maxRecDepth 1000000 in
theorem runTopCollatz9 : runsK LT 3 lsTopCollatz9 = Ans.yes := by kernel_rfl
end
end Go.Proofs.YtdgigppkpkpaeaaGreatDoor.Ev
