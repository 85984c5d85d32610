/- Runs of TopCollatz. No condition. -/
import Derived.Test.YtdgigppkpkpaeaaGreatDoorEvLaw
import Derived.KernelRfl
open Go Go.Proofs
namespace Go.Proofs.YtdgigppkpkpaeaaGreatDoor.Ev
set_option linter.unusedVariables false
set_option linter.unusedSimpArgs false
set_option linter.constructorNameAsVariable false
noncomputable section
def lsTopCollatz7 : List (List AV) := [[.x 60 4], [.x 60 6], [.x 60 14], [.x 60 37], [.x 60 39], [.x 60 57], [.x 60 58]]
set_option maxRecDepth 1000000 in
theorem runTopCollatz7 : runsK LT 3 lsTopCollatz7 = Ans.yes := by kernel_rfl
end
end Go.Proofs.YtdgigppkpkpaeaaGreatDoor.Ev
