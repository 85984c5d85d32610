/- Runs of TopCollatz. No condition. -/
import Derived.Test.YtdgigppkpkpaeaaGreatDoorEvLaw
import Derived.KernelRfl
open Go Go.Proofs
namespace Go.Proofs.YtdgigppkpkpaeaaGreatDoor.Ev
set_option linter.unusedVariables false
set_option linter.unusedSimpArgs false
set_option linter.constructorNameAsVariable false
noncomputable section
def lsTopCollatz6 : List (List AV) := [[.x 60 0], [.x 60 8], [.x 60 10], [.x 60 23], [.x 60 35], [.x 60 38], [.x 60 45]]
set_option maxRecDepth 1000000 in
theorem runTopCollatz6 : runsK LT 3 lsTopCollatz6 = Ans.yes := by kernel_rfl
end
end Go.Proofs.YtdgigppkpkpaeaaGreatDoor.Ev
