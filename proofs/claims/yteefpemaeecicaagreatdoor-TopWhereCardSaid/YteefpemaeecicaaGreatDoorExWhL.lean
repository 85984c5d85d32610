/- The law of written and read machines: its answers. No condition. -/
import Derived.Test.YteefpemaeecicaaGreatDoorExWh
import Derived.KernelRfl
open Go Go.RowKit Go.Proofs
namespace Go.Proofs.YteefpemaeecicaaGreatDoor.Ev
set_option linter.unusedVariables false
set_option linter.unusedSimpArgs false
set_option linter.constructorNameAsVariable false
noncomputable section
noncomputable def whSm : Fc := altF [.u, .n 3 30] (constF [.y 3 (.var 20), .n 3 30] (.y 3 (.var 21))) (constF [.y 3 (.var 22), .n 3 500] (.y 3 (.var 23)))
noncomputable def whS1 : List Ex := [.var 21, .lit 0, .lit 0, .var 23, .lit 0]
noncomputable def whS2 (p : Nat) : List Ex := [match p with | 18 => .lit 0 | _ => .var 30, .var 31, .var 32, .lit 1000, match p with | 8 | 12 => .var 34 | _ => .lit 0]
noncomputable def whW1 (p : Nat) : List Nm := (match p with | 0 => whM0 | 1 => whM1 | 2 => whM2 | 3 => whM3 | 4 => whM4 | 5 => whM5 | 6 => whM6 | 7 => whM7 | 8 => whM8 | 9 => whM9 | 10 => whM10 | 11 => whM11 | 12 => whM12 | 13 => whM13 | 14 => whM14 | 15 => whM15 | 16 => whM16 | 17 => whM17 | _ => whM18).map Prod.fst
noncomputable def whW2 : List Nm := [⟨.d0, .d0, .d34⟩, ⟨.d0, .d0, .d35⟩, ⟨.d0, .d0, .d36⟩]
noncomputable def whG1 (tk : List As) (p : Nat) : Fc := ctI tk [avP, avN] (whS 0) c40 whS1 .u (whF p) (whW1 p)
noncomputable def whG2 (tk : List As) (p : Nat) : Fc := ctI tk [avP, avN] (whS p) c40 (whS2 p) whV whD whW2
/-- As a machine stands that was read: what is empty is nil. -/
noncomputable def dlp (p : Nat) : Nat := match p with | 5 => 19 | 9 => 20 | 13 => 21 | 14 => 2 | 16 => 22 | 17 => 23 | 18 => 24 | p => p
noncomputable def whDd (p : Nat) : List (Nm × Blk) := match p with | 18 => whD24 | _ => whD
noncomputable def whG3 (tk : List As) (p : Nat) : Fc := ctI tk [avP, avN] (whS (dlp p)) c40 (whS2 p) whV (whDd p) whW2
noncomputable def whG (tk : List As) (p : Nat) : Fc := altF [.u, .n 3 1000] (orI tk [avP, avN] (whS p) c40 (whS2 p) (whG2 tk p) (whG3 tk p)) (whG1 tk p)
noncomputable def whK (tk : List As) (p : Nat) : Ans := (whH tk [(29, yesF), (9, whSm), (14, whG tk p)]).run 3 [.y 3 (.var 20), .y 3 (.var 22)] hp0 okT
/-- What is known of a number: its bits from b on. -/
noncomputable def kn (i q v : Nat) : As := ⟨0, 7, .op 3 7 (.var i) (.lit (Nat.sub 18446744073709551616 q)), .lit v, true⟩
noncomputable def ne7 (i : Nat) : As := ⟨0, 3, .op 8 3 (.var i) (.lit 7), .lit 0, false⟩
noncomputable def kS (i c : Nat) : List As := match c with | 0 => [kn i 64 0] | 1 => [kn i 64 64] | _ => [kn i 512 0, ne7 i]
noncomputable def kT (c : Nat) : List As := match c with | 0 => [kn 32 128 0] | 1 => [kn 32 128 128] | _ => [kn 32 256 256]
noncomputable def kU (p c : Nat) : List As := match p with | 8 => kS 34 c | 12 => [kn 34 32 0] | _ => []
noncomputable def whTk (p cs ct cu : Nat) : List As := [kn 21 32 0, kn 30 32 0] ++ kS 31 cs ++ kT ct ++ kU p cu
end
end Go.Proofs.YteefpemaeecicaaGreatDoor.Ev
