/- Runs of TopEven. No condition. -/
import Derived.Test.YtdgigppkpkpaeaaGreatDoorEvLaw
import Derived.KernelRfl
open Go Go.Proofs
namespace Go.Proofs.YtdgigppkpkpaeaaGreatDoor.Ev
set_option linter.unusedVariables false
set_option linter.unusedSimpArgs false
set_option linter.constructorNameAsVariable false
noncomputable section
def lsTopEven0 : List (List AV) := [[.x 40 0], [.x 40 4], [.x 40 8], [.x 40 12], [.x 40 16], [.x 40 20], [.x 40 24], [.x 40 28], [.x 40 32], [.x 40 36]]
set_option maxRecDepth 1000000 in
theorem runTopEven0 : runsK LT 4 lsTopEven0 = Ans.yes := by kernel_rfl
end
end Go.Proofs.YtdgigppkpkpaeaaGreatDoor.Ev
