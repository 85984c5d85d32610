/- New, by classes of the first value. No condition. -/
import Derived.Test.YteefpemaeecicaaGreatDoorEwGlob
import Derived.KernelRfl
open Go Go.RowKit Go.Proofs
namespace Go.Proofs.YteefpemaeecicaaGreatDoor.Ev
set_option linter.unusedVariables false
set_option linter.unusedSimpArgs false
set_option linter.constructorNameAsVariable false
noncomputable section
def gbKp1a : List As := [⟨0, 7, .op 3 7 (.var 50) (.lit 18446744073709551552), .lit 0, true⟩]
set_option maxRecDepth 1000000 in
theorem gbNp1a : gbK gbKp1a gbP1 = Ans.yes := by kernel_rfl
def gbKp4a : List As := [⟨0, 7, .op 3 7 (.var 50) (.lit 18446744073575333888), .lit 0, true⟩, ⟨0, 3, .op 8 3 gbE (.lit 7), .lit 0, false⟩, ⟨0, 3, .op 8 3 gbE (.lit 14), .lit 0, false⟩, ⟨0, 3, .op 8 3 gbE (.lit 21), .lit 0, false⟩]
set_option maxRecDepth 1000000 in
theorem gbNp4a : gbK gbKp4a gbP4 = Ans.yes := by kernel_rfl
def gbKn2a : List As := [⟨0, 7, .op 3 7 (.var 50) (.lit 18446744073709543424), .lit 4294959104, true⟩, ⟨0, 3, .op 8 3 gbE (.lit 7), .lit 18446744073709551615, false⟩]
set_option maxRecDepth 1000000 in
theorem gbNn2a : gbK gbKn2a gbP2 = Ans.yes := by kernel_rfl
def gbKn4b : List As := [⟨0, 7, .op 3 7 (.var 50) (.lit 18446744073708503040), .lit 4292870144, true⟩]
set_option maxRecDepth 1000000 in
theorem gbNn4b : gbK gbKn4b gbP4 = Ans.yes := by kernel_rfl
end
end Go.Proofs.YteefpemaeecicaaGreatDoor.Ev
