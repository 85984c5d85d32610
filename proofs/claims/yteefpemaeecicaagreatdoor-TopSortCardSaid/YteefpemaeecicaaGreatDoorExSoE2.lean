/- Go's steps on the machine that sorts, many at once. No condition. -/
import Derived.Test.YteefpemaeecicaaGreatDoorExSo
import Derived.KernelRfl
open Go Go.RowKit Go.Proofs
namespace Go.Proofs.YteefpemaeecicaaGreatDoor.Ev
set_option linter.unusedVariables false
set_option linter.unusedSimpArgs false
set_option linter.constructorNameAsVariable false
noncomputable section
set_option maxRecDepth 1000000
noncomputable def ps_s0 : List (Nm × Nm) := [(⟨.d0, .d0, .d30⟩, ⟨.d0, .d10, .d18⟩), (⟨.d0, .d0, .d31⟩, ⟨.d0, .d5, .d30⟩), (⟨.d0, .d0, .d32⟩, ⟨.d0, .d8, .d2⟩)]
theorem so_s0 : allA (fun j => FI (tkJ j false (tkC j true tkS)) 10 false j 10 true (Nat.succ j) 27 ps_s0 (sg (.var 0) u28 d28 (ldE j) (.var 7) m6 (swE j))) 6 = Ans.yes := by kernel_rfl
theorem so_r0 : allA (fun j => FI (tkJ (Nat.add 6 j) false (tkC (Nat.add 6 j) true tkS)) 10 false (Nat.add 6 j) 10 true (Nat.succ (Nat.add 6 j)) 27 ps_s0 (sg (.var 0) u28 d28 (ldE (Nat.add 6 j)) (.var 7) m6 (swE (Nat.add 6 j)))) 5 = Ans.yes := by kernel_rfl
end
end Go.Proofs.YteefpemaeecicaaGreatDoor.Ev
