/- Runs of TopEven. No condition. -/
import Derived.Test.YtdgigppkpkpaeaaGreatDoorEvLaw
import Derived.KernelRfl
open Go Go.Proofs
namespace Go.Proofs.YtdgigppkpkpaeaaGreatDoor.Ev
set_option linter.unusedVariables false
set_option linter.unusedSimpArgs false
set_option linter.constructorNameAsVariable false
noncomputable section
def lsTopEven3 : List (List AV) := [[.x 40 3], [.x 40 7], [.x 40 11], [.x 40 15], [.x 40 19], [.x 40 23], [.x 40 27], [.x 40 31], [.x 40 35], [.x 40 39]]
set_option maxRecDepth 1000000 in
theorem runTopEven3 : runsK LT 4 lsTopEven3 = Ans.yes := by kernel_rfl
end
end Go.Proofs.YtdgigppkpkpaeaaGreatDoor.Ev
