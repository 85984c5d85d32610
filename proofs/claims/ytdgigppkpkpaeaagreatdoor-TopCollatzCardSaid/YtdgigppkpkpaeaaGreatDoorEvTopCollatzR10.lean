/- Runs of TopCollatz. No condition. -/
import Derived.Test.YtdgigppkpkpaeaaGreatDoorEvLaw
import Derived.KernelRfl
open Go Go.Proofs
namespace Go.Proofs.YtdgigppkpkpaeaaGreatDoor.Ev
set_option linter.unusedVariables false
set_option linter.unusedSimpArgs false
set_option linter.constructorNameAsVariable false
noncomputable section
def lsTopCollatz10 : List (List AV) := [[.x 60 2], [.x 60 17], [.x 60 28], [.x 60 32], [.x 60 41], [.x 60 43], [.x 60 48]]
set_option maxRecDepth 1000000 in
theorem runTopCollatz10 : runsK LT 3 lsTopCollatz10 = Ans.yes := by kernel_rfl
end
end Go.Proofs.YtdgigppkpkpaeaaGreatDoor.Ev
