/- New, by classes of the first value. No condition. -/
import Derived.Test.YteefpemaeecicaaGreatDoorEwGlob
import Derived.KernelRfl
open Go Go.RowKit Go.Proofs
namespace Go.Proofs.YteefpemaeecicaaGreatDoor.Ev
set_option linter.unusedVariables false
set_option linter.unusedSimpArgs false
set_option linter.constructorNameAsVariable false
noncomputable section
def gbKp3b : List As := [⟨0, 7, .op 3 7 (.var 50) (.lit 18446744073709543424), .lit 8192, true⟩]
set_option maxRecDepth 1000000 in
theorem gbNp3b : gbK gbKp3b gbP3 = Ans.yes := by kernel_rfl
def gbKn1a : List As := [⟨0, 7, .op 3 7 (.var 50) (.lit 18446744073709551552), .lit 4294967232, true⟩]
set_option maxRecDepth 1000000 in
theorem gbNn1a : gbK gbKn1a gbP1 = Ans.yes := by kernel_rfl
def gbKn4a : List As := [⟨0, 7, .op 3 7 (.var 50) (.lit 18446744073575333888), .lit 4160749568, true⟩, ⟨0, 3, .op 8 3 gbE (.lit 7), .lit 18446744073709551615, false⟩, ⟨0, 3, .op 8 3 gbE (.lit 14), .lit 18446744073709551615, false⟩, ⟨0, 3, .op 8 3 gbE (.lit 21), .lit 18446744073709551615, false⟩]
set_option maxRecDepth 1000000 in
theorem gbNn4a : gbK gbKn4a gbP4 = Ans.yes := by kernel_rfl
end
end Go.Proofs.YteefpemaeecicaaGreatDoor.Ev
