/- Runs of TopEven. No condition. -/
import Derived.Test.YtdgigppkpkpaeaaGreatDoorEvLaw
import Derived.KernelRfl
open Go Go.Proofs
namespace Go.Proofs.YtdgigppkpkpaeaaGreatDoor.Ev
set_option linter.unusedVariables false
set_option linter.unusedSimpArgs false
set_option linter.constructorNameAsVariable false
noncomputable section
def lsTopEven1 : List (List AV) := [[.x 40 1], [.x 40 5], [.x 40 9], [.x 40 13], [.x 40 17], [.x 40 21], [.x 40 25], [.x 40 29], [.x 40 33], [.x 40 37]]
set_option maxRecDepth 1000000 in
theorem runTopEven1 : runsK LT 4 lsTopEven1 = Ans.yes := by kernel_rfl
end
end Go.Proofs.YtdgigppkpkpaeaaGreatDoor.Ev
