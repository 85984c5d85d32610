/- Go's steps on the machine that sorts, many at once. No condition. -/
import Derived.Test.YteefpemaeecicaaGreatDoorExSo
import Derived.KernelRfl
open Go Go.RowKit Go.Proofs
namespace Go.Proofs.YteefpemaeecicaaGreatDoor.Ev
set_option linter.unusedVariables false
set_option linter.unusedSimpArgs false
set_option linter.constructorNameAsVariable false
noncomputable section
set_option maxRecDepth 1000000
noncomputable def ps_s1 : List (Nm × Nm) := [(⟨.d0, .d0, .d30⟩, ⟨.d0, .d10, .d16⟩), (⟨.d0, .d0, .d31⟩, ⟨.d0, .d5, .d30⟩)]
theorem so_s1 : allA (fun j => FI (tkJ j false (tkC j true tkS)) 10 true j 10 true (Nat.succ j) 27 ps_s1 (sg (.var 0) u28 d28 (ldE j) (.var 7) m6 (swE j))) 6 = Ans.yes := by kernel_rfl
theorem so_r1 : allA (fun j => FI (tkJ (Nat.add 6 j) false (tkC (Nat.add 6 j) true tkS)) 10 true (Nat.add 6 j) 10 true (Nat.succ (Nat.add 6 j)) 27 ps_s1 (sg (.var 0) u28 d28 (ldE (Nat.add 6 j)) (.var 7) m6 (swE (Nat.add 6 j)))) 5 = Ans.yes := by kernel_rfl
end
end Go.Proofs.YteefpemaeecicaaGreatDoor.Ev
