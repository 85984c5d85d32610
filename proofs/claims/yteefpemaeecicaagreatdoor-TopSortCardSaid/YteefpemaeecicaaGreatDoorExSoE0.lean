/- Go's steps on the machine that sorts, many at once. No condition. -/
import Derived.Test.YteefpemaeecicaaGreatDoorExSo
import Derived.KernelRfl
open Go Go.RowKit Go.Proofs
namespace Go.Proofs.YteefpemaeecicaaGreatDoor.Ev
set_option linter.unusedVariables false
set_option linter.unusedSimpArgs false
set_option linter.constructorNameAsVariable false
noncomputable section
set_option maxRecDepth 1000000
noncomputable def ps_a0 : List (Nm × Nm) := [(⟨.d0, .d0, .d30⟩, ⟨.d0, .d3, .d5⟩), (⟨.d0, .d0, .d31⟩, ⟨.d0, .d3, .d35⟩)]
theorem so_a0 : allA (fun j => FI (tkI false tkA) 0 false 0 10 false 0 9 ps_a0 (sg (.var 0) u10 d10 (.var 6) (.var 7) m0 soBs)) 1 = Ans.yes := by kernel_rfl
noncomputable def ps_z0 : List (Nm × Nm) := [(⟨.d0, .d0, .d33⟩, ⟨.d0, .d3, .d20⟩)]
theorem so_z0 : allA (fun j => FI (tkI true tkZ) 0 false 0 54 false 0 7 ps_z0 (sg (.var 0) u8 d8 (.var 6) (.var 7) m0 soBs)) 1 = Ans.yes := by kernel_rfl
noncomputable def ps_b0 : List (Nm × Nm) := [(⟨.d0, .d0, .d30⟩, ⟨.d0, .d2, .d25⟩), (⟨.d0, .d0, .d31⟩, ⟨.d0, .d3, .d15⟩)]
theorem so_b0 : allA (fun j => FI (tkI false tkB) 50 false 0 10 false 0 7 ps_b0 (sg (.var 0) u8 d8 (.var 6) (.var 7) m0 soBs)) 1 = Ans.yes := by kernel_rfl
noncomputable def ps_q0 : List (Nm × Nm) := [(⟨.d0, .d0, .d33⟩, ⟨.d0, .d3, .d0⟩)]
theorem so_q0 : allA (fun j => FI (tkI true tkQ_) 50 false 0 54 false 0 5 ps_q0 (sg (.var 0) u6 d6 (.var 6) (.var 7) m0 soBs)) 1 = Ans.yes := by kernel_rfl
noncomputable def ps_x0 : List (Nm × Nm) := [(⟨.d0, .d0, .d30⟩, ⟨.d0, .d4, .d22⟩)]
theorem so_x0 : allA (fun j => FI (tkJ j true tkX) 10 false j 50 false 0 10 ps_x0 (sg (ex1 (.op 0 3 (.var 0) (.lit 1))) u11 d11 (.var 6) (.lit j) m0 soBs)) 12 = Ans.yes := by kernel_rfl
noncomputable def ps_b1 : List (Nm × Nm) := [(⟨.d0, .d0, .d30⟩, ⟨.d0, .d2, .d25⟩), (⟨.d0, .d0, .d31⟩, ⟨.d0, .d3, .d15⟩)]
theorem so_b1 : allA (fun j => FI (tkI false tkB) 50 true 0 10 true 0 7 ps_b1 (sg (.var 0) u8 d8 (.var 6) (.var 7) m0 soBs)) 1 = Ans.yes := by kernel_rfl
noncomputable def ps_q1 : List (Nm × Nm) := [(⟨.d0, .d0, .d33⟩, ⟨.d0, .d3, .d0⟩)]
theorem so_q1 : allA (fun j => FI (tkI true tkQ_) 50 true 0 54 false 0 5 ps_q1 (sg (.var 0) u6 d6 (.var 6) (.var 7) m0 soBs)) 1 = Ans.yes := by kernel_rfl
noncomputable def ps_x1 : List (Nm × Nm) := [(⟨.d0, .d0, .d30⟩, ⟨.d0, .d4, .d22⟩)]
theorem so_x1 : allA (fun j => FI (tkJ j true tkX) 10 true j 50 true 0 10 ps_x1 (sg (ex1 (.op 0 3 (.var 0) (.lit 1))) u11 d11 (.var 6) (.lit j) m0 soBs)) 12 = Ans.yes := by kernel_rfl
end
end Go.Proofs.YteefpemaeecicaaGreatDoor.Ev
