/- Runs of TopEven. No condition. -/
import Derived.Test.YtdgigppkpkpaeaaGreatDoorEvLaw
import Derived.KernelRfl
open Go Go.Proofs
namespace Go.Proofs.YtdgigppkpkpaeaaGreatDoor.Ev
set_option linter.unusedVariables false
set_option linter.unusedSimpArgs false
set_option linter.constructorNameAsVariable false
noncomputable section
def lsTopEven2 : List (List AV) := [[.x 40 2], [.x 40 6], [.x 40 10], [.x 40 14], [.x 40 18], [.x 40 22], [.x 40 26], [.x 40 30], [.x 40 34], [.x 40 38]]
set_option maxRecDepth 1000000 in
theorem runTopEven2 : runsK LT 4 lsTopEven2 = Ans.yes := by kernel_rfl
end
end Go.Proofs.YtdgigppkpkpaeaaGreatDoor.Ev
