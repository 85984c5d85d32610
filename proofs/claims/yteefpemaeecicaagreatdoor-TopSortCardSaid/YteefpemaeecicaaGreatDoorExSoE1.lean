/- Go's steps on the machine that sorts, many at once. No condition. -/
import Derived.Test.YteefpemaeecicaaGreatDoorExSo
import Derived.KernelRfl
open Go Go.RowKit Go.Proofs
namespace Go.Proofs.YteefpemaeecicaaGreatDoor.Ev
set_option linter.unusedVariables false
set_option linter.unusedSimpArgs false
set_option linter.constructorNameAsVariable false
noncomputable section
set_option maxRecDepth 1000000
noncomputable def ps_n0 : List (Nm × Nm) := [(⟨.d0, .d0, .d30⟩, ⟨.d0, .d6, .d37⟩)]
theorem so_n0 : allA (fun j => FI (tkJ j false (tkC j false tkN)) 10 false j 10 false (Nat.succ j) 16 ps_n0 (sg (.var 0) u17 d17 (.var 6) (.var 7) m2 soBs)) 11 = Ans.yes := by kernel_rfl
noncomputable def ps_n1 : List (Nm × Nm) := [(⟨.d0, .d0, .d30⟩, ⟨.d0, .d6, .d37⟩)]
theorem so_n1 : allA (fun j => FI (tkJ j false (tkC j false tkN)) 10 true j 10 true (Nat.succ j) 16 ps_n1 (sg (.var 0) u17 d17 (.var 6) (.var 7) m2 soBs)) 11 = Ans.yes := by kernel_rfl
end
end Go.Proofs.YteefpemaeecicaaGreatDoor.Ev
