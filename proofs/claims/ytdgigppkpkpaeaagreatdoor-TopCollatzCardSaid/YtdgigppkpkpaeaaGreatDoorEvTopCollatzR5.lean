/- Runs of TopCollatz. No condition. -/
import Derived.Test.YtdgigppkpkpaeaaGreatDoorEvLaw
import Derived.KernelRfl
open Go Go.Proofs
namespace Go.Proofs.YtdgigppkpkpaeaaGreatDoor.Ev
set_option linter.unusedVariables false
set_option linter.unusedSimpArgs false
set_option linter.constructorNameAsVariable false
noncomputable section
def lsTopCollatz5 : List (List AV) := [[.x 60 5], [.x 60 34], [.x 60 46]]
set_option maxRecDepth 1000000 in
theorem runTopCollatz5 : runsK LT 3 lsTopCollatz5 = Ans.yes := by kernel_rfl
end
end Go.Proofs.YtdgigppkpkpaeaaGreatDoor.Ev
