/- Go's steps from phase to phase. No condition. -/
import Derived.Test.YteefpemaeecicaaGreatDoorExWhA
import Derived.KernelRfl
open Go Go.RowKit Go.Proofs
namespace Go.Proofs.YteefpemaeecicaaGreatDoor.Ev
set_option linter.unusedVariables false
set_option linter.unusedSimpArgs false
set_option linter.constructorNameAsVariable false
noncomputable section
set_option maxRecDepth 1000000
noncomputable def tkG : List As := [⟨4, 3, .var 3, .lit 0, true⟩, ⟨2, 7, .var 2, (.lit 9007199254740992), true⟩, ⟨2, 7, (.op 0 7 (.var 2) (.lit 1)), (.lit 9007199254740992), true⟩, ⟨4, 3, (.op 0 7 (.var 2) (.lit 1)), .lit 1000000, false⟩]
noncomputable def sgG : List Ex := [.var 0, .var 1, (.op 0 7 (.var 2) (.lit 1)), (.op 1 3 (.var 3) (.lit 1)), .var 4]
noncomputable def ps0_1 : List (Nm × Nm) := sbP [(⟨.d0, .d0, .d31⟩, ⟨.d0, .d1, .d8⟩)] (whT 1)
theorem wh_e0_1 : FE tkG 0 1 ps0_1 sgG = Ans.yes := by kernel_rfl
noncomputable def ps1_2 : List (Nm × Nm) := sbP [(⟨.d0, .d0, .d31⟩, ⟨.d0, .d1, .d8⟩)] (whT 2)
theorem wh_e1_2 : FE tkG 1 2 ps1_2 sgG = Ans.yes := by kernel_rfl
noncomputable def ps2_3 : List (Nm × Nm) := sbP [(⟨.d0, .d0, .d30⟩, ⟨.d0, .d1, .d9⟩)] (whT 3)
theorem wh_e2_3 : FE tkG 2 3 ps2_3 sgG = Ans.yes := by kernel_rfl
noncomputable def tk3_4 : List As := [⟨4, 3, .var 3, .lit 0, true⟩, ⟨2, 7, .var 2, (.lit 9007199254740992), true⟩, ⟨2, 7, (.op 0 7 (.var 2) (.lit 1)), (.lit 9007199254740992), true⟩, ⟨4, 3, (.op 0 7 (.var 2) (.lit 1)), .lit 1000000, false⟩, ⟨0, 7, .op 3 7 (.var 0) (.lit 18446744073709551584), .lit 0, true⟩, ⟨0, 7, .op 3 7 (.var 1) (.lit 18446744073709551104), .lit 0, true⟩, ⟨0, 3, .var 0, .lit 0, false⟩]
noncomputable def ps3_4 : List (Nm × Nm) := sbP [(⟨.d0, .d0, .d30⟩, ⟨.d0, .d1, .d19⟩)] (whT 4)
theorem wh_e3_4 : FE tk3_4 3 4 ps3_4 sgG = Ans.yes := by kernel_rfl
noncomputable def ps4_5 : List (Nm × Nm) := sbP [] (whT 5)
theorem wh_e4_5 : FE tkG 4 5 ps4_5 sgG = Ans.yes := by kernel_rfl
noncomputable def ps5_6 : List (Nm × Nm) := sbP [(⟨.d0, .d0, .d30⟩, ⟨.d0, .d1, .d9⟩)] (whT 6)
theorem wh_e5_6 : FE tkG 5 6 ps5_6 sgG = Ans.yes := by kernel_rfl
noncomputable def ps6_7 : List (Nm × Nm) := sbP [(⟨.d0, .d0, .d30⟩, ⟨.d0, .d1, .d9⟩)] (whT 7)
theorem wh_e6_7 : FE tkG 6 7 ps6_7 sgG = Ans.yes := by kernel_rfl
noncomputable def tk7_8 : List As := [⟨4, 3, .var 3, .lit 0, true⟩, ⟨2, 7, .var 2, (.lit 9007199254740992), true⟩, ⟨2, 7, (.op 0 7 (.var 2) (.lit 1)), (.lit 9007199254740992), true⟩, ⟨4, 3, (.op 0 7 (.var 2) (.lit 1)), .lit 1000000, false⟩, ⟨0, 7, .op 3 7 (.var 0) (.lit 18446744073709551584), .lit 0, true⟩, ⟨0, 7, .op 3 7 (.var 1) (.lit 18446744073709551104), .lit 0, true⟩]
noncomputable def sg7_8 : List Ex := [.var 0, .var 1, (.op 0 7 (.var 2) (.lit 1)), (.op 1 3 (.var 3) (.lit 1)), (.op 23 2 (.op 22 3 (.op 0 3 (.var 1) (.var 0)) (.lit 0)) (.lit 0))]
noncomputable def ps7_8 : List (Nm × Nm) := sbP [(⟨.d0, .d0, .d30⟩, ⟨.d0, .d1, .d25⟩)] (whT 8)
theorem wh_e7_8 : FE tk7_8 7 8 ps7_8 sg7_8 = Ans.yes := by kernel_rfl
noncomputable def sg8_9 : List Ex := [.var 0, .var 4, (.op 0 7 (.var 2) (.lit 1)), (.op 1 3 (.var 3) (.lit 1)), .lit 0]
noncomputable def ps8_9 : List (Nm × Nm) := sbP [] (whT 9)
theorem wh_e8_9 : FE tkG 8 9 ps8_9 sg8_9 = Ans.yes := by kernel_rfl
noncomputable def ps9_10 : List (Nm × Nm) := sbP [(⟨.d0, .d0, .d30⟩, ⟨.d0, .d1, .d9⟩)] (whT 10)
theorem wh_e9_10 : FE tkG 9 10 ps9_10 sgG = Ans.yes := by kernel_rfl
noncomputable def ps10_11 : List (Nm × Nm) := sbP [(⟨.d0, .d0, .d30⟩, ⟨.d0, .d1, .d9⟩)] (whT 11)
theorem wh_e10_11 : FE tkG 10 11 ps10_11 sgG = Ans.yes := by kernel_rfl
noncomputable def tk11_12 : List As := [⟨4, 3, .var 3, .lit 0, true⟩, ⟨2, 7, .var 2, (.lit 9007199254740992), true⟩, ⟨2, 7, (.op 0 7 (.var 2) (.lit 1)), (.lit 9007199254740992), true⟩, ⟨4, 3, (.op 0 7 (.var 2) (.lit 1)), .lit 1000000, false⟩, ⟨0, 7, .op 3 7 (.var 0) (.lit 18446744073709551584), .lit 0, true⟩, ⟨0, 7, .op 3 7 (.var 1) (.lit 18446744073709551104), .lit 0, true⟩]
noncomputable def sg11_12 : List Ex := [.var 0, .var 1, (.op 0 7 (.var 2) (.lit 1)), (.op 1 3 (.var 3) (.lit 1)), (.op 23 2 (.op 22 3 (.op 1 3 (.var 0) (.lit 1)) (.lit 0)) (.lit 0))]
noncomputable def ps11_12 : List (Nm × Nm) := sbP [(⟨.d0, .d0, .d30⟩, ⟨.d0, .d1, .d25⟩)] (whT 12)
theorem wh_e11_12 : FE tk11_12 11 12 ps11_12 sg11_12 = Ans.yes := by kernel_rfl
noncomputable def sg12_13 : List Ex := [.var 4, .var 1, (.op 0 7 (.var 2) (.lit 1)), (.op 1 3 (.var 3) (.lit 1)), .lit 0]
noncomputable def ps12_13 : List (Nm × Nm) := sbP [] (whT 13)
theorem wh_e12_13 : FE tkG 12 13 ps12_13 sg12_13 = Ans.yes := by kernel_rfl
noncomputable def ps13_14 : List (Nm × Nm) := sbP [] (whT 14)
theorem wh_e13_14 : FE tkG 13 14 ps13_14 sgG = Ans.yes := by kernel_rfl
noncomputable def ps14_3 : List (Nm × Nm) := sbP [(⟨.d0, .d0, .d30⟩, ⟨.d0, .d1, .d9⟩)] (whT 3)
theorem wh_e14_3 : FE tkG 14 3 ps14_3 sgG = Ans.yes := by kernel_rfl
noncomputable def tk3_15 : List As := [⟨4, 3, .var 3, .lit 0, true⟩, ⟨2, 7, .var 2, (.lit 9007199254740992), true⟩, ⟨2, 7, (.op 0 7 (.var 2) (.lit 1)), (.lit 9007199254740992), true⟩, ⟨4, 3, (.op 0 7 (.var 2) (.lit 1)), .lit 1000000, false⟩, ⟨0, 7, .op 3 7 (.var 0) (.lit 18446744073709551584), .lit 0, true⟩, ⟨0, 7, .op 3 7 (.var 1) (.lit 18446744073709551104), .lit 0, true⟩, ⟨0, 3, .var 0, .lit 0, true⟩]
noncomputable def ps3_15 : List (Nm × Nm) := sbP [(⟨.d0, .d0, .d30⟩, ⟨.d0, .d1, .d19⟩)] (whT 15)
theorem wh_e3_15 : FE tk3_15 3 15 ps3_15 sgG = Ans.yes := by kernel_rfl
noncomputable def ps15_16 : List (Nm × Nm) := sbP [] (whT 16)
theorem wh_e15_16 : FE tkG 15 16 ps15_16 sgG = Ans.yes := by kernel_rfl
noncomputable def ps16_17 : List (Nm × Nm) := sbP [(⟨.d0, .d0, .d30⟩, ⟨.d0, .d1, .d9⟩)] (whT 17)
theorem wh_e16_17 : FE tkG 16 17 ps16_17 sgG = Ans.yes := by kernel_rfl
noncomputable def ps17_18 : List (Nm × Nm) := sbP [(⟨.d0, .d0, .d30⟩, ⟨.d0, .d1, .d10⟩), (⟨.d0, .d0, .d32⟩, ⟨.d0, .d1, .d12⟩)] (whT 18)
theorem wh_e17_18 : FE tkG 17 18 ps17_18 sgG = Ans.yes := by kernel_rfl
noncomputable def ps19_6 : List (Nm × Nm) := sbP [(⟨.d0, .d0, .d30⟩, ⟨.d0, .d1, .d9⟩)] (whT 6)
theorem wh_e19_6 : FE tkG 19 6 ps19_6 sgG = Ans.yes := by kernel_rfl
noncomputable def ps20_10 : List (Nm × Nm) := sbP [(⟨.d0, .d0, .d30⟩, ⟨.d0, .d1, .d9⟩)] (whT 10)
theorem wh_e20_10 : FE tkG 20 10 ps20_10 sgG = Ans.yes := by kernel_rfl
noncomputable def ps21_2 : List (Nm × Nm) := sbP [] (whT 2)
theorem wh_e21_2 : FE tkG 21 2 ps21_2 sgG = Ans.yes := by kernel_rfl
noncomputable def ps22_23 : List (Nm × Nm) := sbP [(⟨.d0, .d0, .d30⟩, ⟨.d0, .d1, .d9⟩)] (whT 23)
theorem wh_e22_23 : FE tkG 22 23 ps22_23 sgG = Ans.yes := by kernel_rfl
noncomputable def ps23_18 : List (Nm × Nm) := sbP [(⟨.d0, .d0, .d30⟩, ⟨.d0, .d1, .d10⟩), (⟨.d0, .d0, .d32⟩, ⟨.d0, .d1, .d12⟩)] (whT 18)
theorem wh_e23_18 : FE tkG 23 18 ps23_18 sgG = Ans.yes := by kernel_rfl
theorem st0_1 : stB 1 ps0_1 = true := by kernel_rfl
theorem st1_2 : stB 2 ps1_2 = true := by kernel_rfl
theorem st2_3 : stB 3 ps2_3 = true := by kernel_rfl
theorem st3_4 : stB 4 ps3_4 = true := by kernel_rfl
theorem st4_5 : stB 5 ps4_5 = true := by kernel_rfl
theorem st5_6 : stB 6 ps5_6 = true := by kernel_rfl
theorem st6_7 : stB 7 ps6_7 = true := by kernel_rfl
theorem st7_8 : stB 8 ps7_8 = true := by kernel_rfl
theorem st8_9 : stB 9 ps8_9 = true := by kernel_rfl
theorem st9_10 : stB 10 ps9_10 = true := by kernel_rfl
theorem st10_11 : stB 11 ps10_11 = true := by kernel_rfl
theorem st11_12 : stB 12 ps11_12 = true := by kernel_rfl
theorem st12_13 : stB 13 ps12_13 = true := by kernel_rfl
theorem st13_14 : stB 14 ps13_14 = true := by kernel_rfl
theorem st14_3 : stB 3 ps14_3 = true := by kernel_rfl
theorem st3_15 : stB 15 ps3_15 = true := by kernel_rfl
theorem st15_16 : stB 16 ps15_16 = true := by kernel_rfl
theorem st16_17 : stB 17 ps16_17 = true := by kernel_rfl
theorem st17_18 : stB 18 ps17_18 = true := by kernel_rfl
theorem st19_6 : stB 6 ps19_6 = true := by kernel_rfl
theorem st20_10 : stB 10 ps20_10 = true := by kernel_rfl
theorem st21_2 : stB 2 ps21_2 = true := by kernel_rfl
theorem st22_23 : stB 23 ps22_23 = true := by kernel_rfl
theorem st23_18 : stB 18 ps23_18 = true := by kernel_rfl
end
end Go.Proofs.YteefpemaeecicaaGreatDoor.Ev
