/- The hash of bytes: what the machine makes of unknown bytes, what the law makes of them. No condition. -/
import Derived.Test.YteefpemaeecicaaGreatDoorEvSeat
import Derived.Test.YteefpemaeecicaaGreatDoorEvHashM
open Go Go.RowKit Go.Proofs
namespace Go.Proofs.YteefpemaeecicaaGreatDoor.Ev
set_option linter.unusedVariables false
set_option linter.unusedSimpArgs false
set_option linter.constructorNameAsVariable false
noncomputable section
def hnH (tk : List As) (L : List (Nat × Fc)) : H := callsN (runA tk L) 60
theorem hnH_ok [Rho] {tk : List As} (hA : Holds tk) {L : List (Nat × Fc)} (hL : LOk L) : HSound Tryz.prog (hnH tk L) := callsN_ok (runA_ok hA hL) 60
def hsA (n : Nat) : AV := .y 20 (.op 0 0 (.lit n) (mkE (ltake hsV n)))
/-- More than forty. -/
def hsTX : List As := ⟨4, 3, .var 100, .lit 40, true⟩ :: hsT 40
def hsAX : AV := .y 20 (.op 0 0 (.var 100) (mkE hsV))
def hsO : List (Nat × Fc) := [(29, yesF), (19, wrapF)]
def hsR (n : Nat) : Ans := (hnH (hsT n) hsO).run 6 [hsA n] hp0 okT
/-- None. -/
def hsTZ : List As := [⟨0, 3, .lit 0, wrapE (.lit 0), true⟩]
def hsRZ : Ans := (hnH hsTZ hsO).run 6 [hsA 0] hp0 okT
def hsRX : Ans := (hnH hsTX hsO).run 6 [hsAX] hp0 okT
end
end Go.Proofs.YteefpemaeecicaaGreatDoor.Ev
