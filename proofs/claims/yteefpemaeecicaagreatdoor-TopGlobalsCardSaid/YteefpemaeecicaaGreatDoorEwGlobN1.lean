/- New, by classes of the first value. No condition. -/
import Derived.Test.YteefpemaeecicaaGreatDoorEwGlob
import Derived.KernelRfl
open Go Go.RowKit Go.Proofs
namespace Go.Proofs.YteefpemaeecicaaGreatDoor.Ev
set_option linter.unusedVariables false
set_option linter.unusedSimpArgs false
set_option linter.constructorNameAsVariable false
noncomputable section
def gbKp2a : List As := [⟨0, 7, .op 3 7 (.var 50) (.lit 18446744073709543424), .lit 0, true⟩, ⟨0, 3, .op 8 3 gbE (.lit 7), .lit 0, false⟩]
set_option maxRecDepth 1000000 in
theorem gbNp2a : gbK gbKp2a gbP2 = Ans.yes := by kernel_rfl
def gbKp4b : List As := [⟨0, 7, .op 3 7 (.var 50) (.lit 18446744073708503040), .lit 1048576, true⟩]
set_option maxRecDepth 1000000 in
theorem gbNp4b : gbK gbKp4b gbP4 = Ans.yes := by kernel_rfl
def gbKn2b : List As := [⟨0, 7, .op 3 7 (.var 50) (.lit 18446744073709551552), .lit 4294967168, true⟩]
set_option maxRecDepth 1000000 in
theorem gbNn2b : gbK gbKn2b gbP2 = Ans.yes := by kernel_rfl
def gbKn5a : List As := [⟨0, 7, .op 3 7 (.var 50) (.lit 18446744071562067968), .lit 2147483648, true⟩, ⟨0, 3, .op 8 3 gbE (.lit 7), .lit 18446744073709551615, false⟩, ⟨0, 3, .op 8 3 gbE (.lit 14), .lit 18446744073709551615, false⟩, ⟨0, 3, .op 8 3 gbE (.lit 21), .lit 18446744073709551615, false⟩, ⟨0, 3, .op 8 3 gbE (.lit 28), .lit 18446744073709551615, false⟩]
set_option maxRecDepth 1000000 in
theorem gbNn5a : gbK gbKn5a gbP5 = Ans.yes := by kernel_rfl
end
end Go.Proofs.YteefpemaeecicaaGreatDoor.Ev
