/- Runs of TopLimit. No condition. -/
import Derived.Test.YtdgigppkpkpaeaaGreatDoorEvLaw
import Derived.KernelRfl
open Go Go.Proofs
namespace Go.Proofs.YtdgigppkpkpaeaaGreatDoor.Ev
set_option linter.unusedVariables false
set_option linter.unusedSimpArgs false
set_option linter.constructorNameAsVariable false
noncomputable section
def lsTopLimit0 : List (List AV) := [[.x 5 0], [.x 5 1], [.x 5 2], [.x 5 3], [.x 5 4]]
set_option maxRecDepth 1000000 in
theorem runTopLimit0 : runsK LT 6 lsTopLimit0 = Ans.yes := by kernel_rfl
end
end Go.Proofs.YtdgigppkpkpaeaaGreatDoor.Ev
