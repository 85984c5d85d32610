/- The law of sorted bytes: its begin. No condition. -/
import Derived.Test.YteefpemaeecicaaGreatDoorExSoL
import Derived.KernelRfl
open Go Go.RowKit Go.Proofs
namespace Go.Proofs.YteefpemaeecicaaGreatDoor.Ev
set_option linter.unusedVariables false
set_option linter.unusedSimpArgs false
set_option linter.constructorNameAsVariable false
noncomputable section
set_option maxRecDepth 1000000
theorem lw_p4 : FP 4 ([(⟨.d0, .d0, .d0⟩, ⟨.d2, .d12, .d18⟩), (⟨.d0, .d0, .d1⟩, ⟨.d0, .d27, .d3⟩), (⟨.d0, .d0, .d8⟩, ⟨.d2, .d10, .d15⟩), (⟨.d0, .d0, .d17⟩, ⟨.d2, .d10, .d14⟩)]) = .yes := by kernel_rfl
theorem lw_p5 : FP 5 ([(⟨.d0, .d0, .d0⟩, ⟨.d2, .d12, .d18⟩), (⟨.d0, .d0, .d1⟩, ⟨.d0, .d27, .d3⟩), (⟨.d0, .d0, .d8⟩, ⟨.d2, .d10, .d15⟩), (⟨.d0, .d0, .d17⟩, ⟨.d2, .d10, .d14⟩)]) = .yes := by kernel_rfl
theorem lw_p6 : FP 6 ([(⟨.d0, .d0, .d0⟩, ⟨.d2, .d12, .d18⟩), (⟨.d0, .d0, .d1⟩, ⟨.d0, .d27, .d3⟩), (⟨.d0, .d0, .d8⟩, ⟨.d2, .d10, .d15⟩), (⟨.d0, .d0, .d17⟩, ⟨.d2, .d10, .d14⟩)]) = .yes := by kernel_rfl
theorem lw_p7 : FP 7 ([(⟨.d0, .d0, .d0⟩, ⟨.d2, .d12, .d18⟩), (⟨.d0, .d0, .d1⟩, ⟨.d0, .d27, .d3⟩), (⟨.d0, .d0, .d8⟩, ⟨.d2, .d10, .d15⟩), (⟨.d0, .d0, .d17⟩, ⟨.d2, .d10, .d14⟩)]) = .yes := by kernel_rfl
end
end Go.Proofs.YteefpemaeecicaaGreatDoor.Ev
