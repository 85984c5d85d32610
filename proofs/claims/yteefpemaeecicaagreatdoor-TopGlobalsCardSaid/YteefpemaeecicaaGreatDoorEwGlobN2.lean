/- New, by classes of the first value. No condition. -/
import Derived.Test.YteefpemaeecicaaGreatDoorEwGlob
import Derived.KernelRfl
open Go Go.RowKit Go.Proofs
namespace Go.Proofs.YteefpemaeecicaaGreatDoor.Ev
set_option linter.unusedVariables false
set_option linter.unusedSimpArgs false
set_option linter.constructorNameAsVariable false
noncomputable section
def gbKp2b : List As := [⟨0, 7, .op 3 7 (.var 50) (.lit 18446744073709551552), .lit 64, true⟩]
set_option maxRecDepth 1000000 in
theorem gbNp2b : gbK gbKp2b gbP2 = Ans.yes := by kernel_rfl
def gbKp5a : List As := [⟨0, 7, .op 3 7 (.var 50) (.lit 18446744071562067968), .lit 0, true⟩, ⟨0, 3, .op 8 3 gbE (.lit 7), .lit 0, false⟩, ⟨0, 3, .op 8 3 gbE (.lit 14), .lit 0, false⟩, ⟨0, 3, .op 8 3 gbE (.lit 21), .lit 0, false⟩, ⟨0, 3, .op 8 3 gbE (.lit 28), .lit 0, false⟩]
set_option maxRecDepth 1000000 in
theorem gbNp5a : gbK gbKp5a gbP5 = Ans.yes := by kernel_rfl
def gbKn3a : List As := [⟨0, 7, .op 3 7 (.var 50) (.lit 18446744073708503040), .lit 4293918720, true⟩, ⟨0, 3, .op 8 3 gbE (.lit 7), .lit 18446744073709551615, false⟩, ⟨0, 3, .op 8 3 gbE (.lit 14), .lit 18446744073709551615, false⟩]
set_option maxRecDepth 1000000 in
theorem gbNn3a : gbK gbKn3a gbP3 = Ans.yes := by kernel_rfl
def gbKn5b : List As := [⟨0, 7, .op 3 7 (.var 50) (.lit 18446744073575333888), .lit 4026531840, true⟩]
set_option maxRecDepth 1000000 in
theorem gbNn5b : gbK gbKn5b gbP5 = Ans.yes := by kernel_rfl
end
end Go.Proofs.YteefpemaeecicaaGreatDoor.Ev
