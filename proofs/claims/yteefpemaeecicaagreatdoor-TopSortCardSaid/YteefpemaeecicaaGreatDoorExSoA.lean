/- Go's begin and end on the machine that sorts. No condition. -/
import Derived.Test.YteefpemaeecicaaGreatDoorExSo
import Derived.KernelRfl
open Go Go.RowKit Go.Proofs
namespace Go.Proofs.YteefpemaeecicaaGreatDoor.Ev
set_option linter.unusedVariables false
set_option linter.unusedSimpArgs false
set_option linter.constructorNameAsVariable false
noncomputable section
set_option maxRecDepth 1000000
noncomputable def ps0 : List (Nm × Nm) := sbP [(⟨.d0, .d0, .d19⟩, ⟨.d0, .d1, .d0⟩)] (soT 0 false 0)
theorem so_c : fragN (TTa []) (soR [] []) 1 goE Tryz.f14.results.toList go0 [0, 1] [avP, avN] (hpT (soS 0 false 0) c40) pat3 (soT 0 false 0) c40 ps0 [] = .yes := by kernel_rfl
theorem so_d : fragN (TTa []) (soR [] []) 1 goE Tryz.f14.results.toList go1 [0, 1, 4] [avP, avN, avQ] (hpT (soT 0 false 0) c40) pat3 (soT 0 false 0) c40 (sbP [] (soT 0 false 0)) [] = .yes := by kernel_rfl
noncomputable def tkYe : List As := [⟨4, 3, .var 3, .lit 0, true⟩]
theorem so_x : fragX (TTa tkYe) (soR tkYe []) 1 goE Tryz.f14.results.toList goB [0, 1, 4] [avP, avN, avQ] (hpT (soT 54 false 0) c40) 0 pat3 (soT 54 false 0) c40 (sbP [] (soT 54 false 0)) [] = .yes := by kernel_rfl
noncomputable def soO : List Ex := [.var 50, .var 51, .var 52, .var 53, .var 54, .var 55, .var 56, .var 57, .var 58, .var 59, .var 60, .var 61, .var 62, .var 63, .var 64, .var 65, .var 66, .var 67, .var 68, .var 69, .var 70, .var 71, .var 10, .var 11, .var 12, .var 13, .var 14, .var 15, .var 16, .var 17, .var 18, .var 19, .var 20, .var 21]
theorem so_r : fragR (TTa []) (soR [] []) 1 goE Tryz.f14.results.toList go9 [0, 1, 4] [avP, avN, avQ] (hpT (soT 54 false 0) c40) soVv soFi c40 (sbP [] soFi) soO = .yes := by kernel_rfl
end
end Go.Proofs.YteefpemaeecicaaGreatDoor.Ev
