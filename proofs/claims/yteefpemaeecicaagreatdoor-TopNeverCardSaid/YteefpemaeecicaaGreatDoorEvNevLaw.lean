/- The law of the endless loop, reckoned in three classes of numbers. No condition. -/
import Derived.Test.YteefpemaeecicaaGreatDoorEvSmall
import Derived.Test.YteefpemaeecicaaGreatDoorEvNev
import Derived.Test.YteefpemaeecicaaGreatDoorEvTmp
import Derived.KernelRfl
open Go Go.RowKit Go.Proofs
namespace Go.Proofs.YteefpemaeecicaaGreatDoor.Ev
set_option linter.unusedVariables false
set_option linter.unusedSimpArgs false
set_option linter.constructorNameAsVariable false
noncomputable section
noncomputable def psL : List (Nm × Nm) := [(⟨.d0, .d0, .d0⟩, ⟨.d0, .d22, .d32⟩), (⟨.d0, .d0, .d1⟩, ⟨.d0, .d5, .d25⟩), (⟨.d0, .d0, .d2⟩, ⟨.d0, .d23, .d13⟩), (⟨.d0, .d0, .d3⟩, ⟨.d0, .d12, .d36⟩), (⟨.d0, .d0, .d4⟩, ⟨.d0, .d13, .d5⟩), (⟨.d0, .d0, .d5⟩, ⟨.d0, .d13, .d37⟩), (⟨.d0, .d0, .d6⟩, ⟨.d0, .d15, .d21⟩), (⟨.d0, .d0, .d7⟩, ⟨.d0, .d22, .d15⟩), (⟨.d0, .d0, .d8⟩, ⟨.d0, .d22, .d17⟩), (⟨.d0, .d0, .d9⟩, ⟨.d0, .d22, .d31⟩), (⟨.d0, .d0, .d10⟩, ⟨.d0, .d23, .d11⟩), (⟨.d0, .d0, .d11⟩, ⟨.d0, .d12, .d30⟩), (⟨.d0, .d0, .d12⟩, ⟨.d0, .d12, .d34⟩), (⟨.d0, .d0, .d13⟩, ⟨.d0, .d14, .d12⟩), (⟨.d0, .d0, .d14⟩, ⟨.d0, .d15, .d6⟩), (⟨.d0, .d0, .d15⟩, ⟨.d0, .d22, .d14⟩), (⟨.d0, .d0, .d16⟩, ⟨.d0, .d22, .d28⟩)]
noncomputable def sL : List Ex := [.var 0, .lit 0]
noncomputable def smallN : Fc := constF [.y 3 (.var 5), .n 3 2000] (.y 3 (.var 0))
noncomputable def goN (T : List (Nm × Blk)) (news : List Nm) : Fc := ctF [avP, avN] nvA c40 psL sL vMore T news
noncomputable def LN (T : List (Nm × Blk)) (news : List Nm) : List (Nat × Fc) := [(29, yesF), (9, smallN), (14, goN T news)]
noncomputable def tkA : List As := [⟨2, 7, .var 0, (.lit 9007199254740992), true⟩, ⟨1, 3, .var 0, .var 0, false⟩, ⟨0, 3, .var 0, .lit 0, true⟩]
set_option maxRecDepth 1000000 in
theorem lawA : (hnA tkA (LN nvFA [])).run 7 [.y 3 (.var 5)] hp0 okT = Ans.yes := by kernel_rfl
theorem incA : incT c40 nvFA 0 = true := by kernel_rfl
theorem newA : newsB nvA nvFA [] = true := by kernel_rfl
noncomputable def tkB : List As := [⟨2, 7, .var 0, (.lit 9007199254740992), true⟩, ⟨1, 3, .var 0, .var 0, false⟩, ⟨0, 3, .var 0, .lit 0, false⟩, ⟨0, 3, .lit 1, (.op 0 3 (.lit 1) (.op 10 3 (.op 1 3 (.var 0) (.lit 1)) (.lit 2))), true⟩]
set_option maxRecDepth 1000000 in
theorem lawB : (hnA tkB (LN nvFB [⟨.d0, .d0, .d21⟩])).run 7 [.y 3 (.var 5)] hp0 okT = Ans.yes := by kernel_rfl
theorem incB : incT c40 nvFB 0 = true := by kernel_rfl
theorem newB : newsB nvA nvFB [⟨.d0, .d0, .d21⟩] = true := by kernel_rfl
noncomputable def tkC : List As := [⟨2, 7, .var 0, (.lit 9007199254740992), true⟩, ⟨1, 3, .var 0, .var 0, false⟩, ⟨0, 3, .var 0, .lit 0, false⟩, ⟨0, 3, .lit 2, (.op 0 3 (.lit 1) (.op 10 3 (.op 1 3 (.var 0) (.lit 1)) (.lit 2))), true⟩]
set_option maxRecDepth 1000000 in
theorem lawC : (hnA tkC (LN nvFC [⟨.d0, .d0, .d21⟩])).run 7 [.y 3 (.var 5)] hp0 okT = Ans.yes := by kernel_rfl
theorem incC : incT c40 nvFC 0 = true := by kernel_rfl
theorem newC : newsB nvA nvFC [⟨.d0, .d0, .d21⟩] = true := by kernel_rfl
end
end Go.Proofs.YteefpemaeecicaaGreatDoor.Ev
