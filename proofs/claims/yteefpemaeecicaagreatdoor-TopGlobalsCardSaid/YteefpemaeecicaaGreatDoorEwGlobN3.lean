/- New, by classes of the first value. No condition. -/
import Derived.Test.YteefpemaeecicaaGreatDoorEwGlob
import Derived.KernelRfl
open Go Go.RowKit Go.Proofs
namespace Go.Proofs.YteefpemaeecicaaGreatDoor.Ev
set_option linter.unusedVariables false
set_option linter.unusedSimpArgs false
set_option linter.constructorNameAsVariable false
noncomputable section
def gbKp3a : List As := [⟨0, 7, .op 3 7 (.var 50) (.lit 18446744073708503040), .lit 0, true⟩, ⟨0, 3, .op 8 3 gbE (.lit 7), .lit 0, false⟩, ⟨0, 3, .op 8 3 gbE (.lit 14), .lit 0, false⟩]
set_option maxRecDepth 1000000 in
theorem gbNp3a : gbK gbKp3a gbP3 = Ans.yes := by kernel_rfl
def gbKp5b : List As := [⟨0, 7, .op 3 7 (.var 50) (.lit 18446744073575333888), .lit 134217728, true⟩]
set_option maxRecDepth 1000000 in
theorem gbNp5b : gbK gbKp5b gbP5 = Ans.yes := by kernel_rfl
def gbKn3b : List As := [⟨0, 7, .op 3 7 (.var 50) (.lit 18446744073709543424), .lit 4294950912, true⟩]
set_option maxRecDepth 1000000 in
theorem gbNn3b : gbK gbKn3b gbP3 = Ans.yes := by kernel_rfl
end
end Go.Proofs.YteefpemaeecicaaGreatDoor.Ev
