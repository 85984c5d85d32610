/- Runs of TopCollatz. No condition. -/
import Derived.Test.YtdgigppkpkpaeaaGreatDoorEvLaw
import Derived.KernelRfl
open Go Go.Proofs
namespace Go.Proofs.YtdgigppkpkpaeaaGreatDoor.Ev
set_option linter.unusedVariables false
set_option linter.unusedSimpArgs false
set_option linter.constructorNameAsVariable false
noncomputable section
def lsTopCollatz8 : List (List AV) := [[.x 60 12], [.x 60 13], [.x 60 15], [.x 60 22], [.x 60 36], [.x 60 55], [.x 60 56]]
set_option maxRecDepth 1000000 in
theorem runTopCollatz8 : runsK LT 3 lsTopCollatz8 = Ans.yes := by kernel_rfl
end
end Go.Proofs.YtdgigppkpkpaeaaGreatDoor.Ev
