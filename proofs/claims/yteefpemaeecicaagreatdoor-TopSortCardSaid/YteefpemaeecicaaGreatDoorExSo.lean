/- Go's templates on the machine that sorts. No condition. -/
import Derived.Test.YteefpemaeecicaaGreatDoorExSeat
import Derived.Test.YteefpemaeecicaaGreatDoorExTmp
import Derived.KernelRfl
open Go Go.RowKit Go.Proofs
namespace Go.Proofs.YteefpemaeecicaaGreatDoor.Ev
set_option linter.unusedVariables false
set_option linter.unusedSimpArgs false
set_option linter.constructorNameAsVariable false
noncomputable section
noncomputable def go0 : Code := cFst (cOf Tryz.f14)
noncomputable def go1 : Code := cFst (cSnd (cOf Tryz.f14))
noncomputable def goB : Code := cIn (cIn (cFst (cSnd (cSnd (cOf Tryz.f14)))))
noncomputable def go9 : Code := cSnd (cSnd (cSnd (cOf Tryz.f14)))
theorem go_eq : Tryz.f14.body = some (.seq go0 (.seq go1 (.seq (.block 0 (.loop goB)) go9))) := by kernel_rfl
noncomputable def goE : Em := Em.of 53 [0, 1, 4, 5]
theorem goE_ok : EOk goE := EOk.of _ _ (by omega)
noncomputable def soR (tk : List As) (L : List (Nat × Fc)) : H := callsN (runA tk L) 60
theorem soR_ok [Rho] {tk : List As} (hA : Holds tk) {L : List (Nat × Fc)} (hL : LOk L) : HSound Tryz.prog (soR tk L) := callsN_ok (runA_ok hA hL) 60
noncomputable def c40 : Nm := ⟨.d0, .d1, .d0⟩
noncomputable def avP : AV := .p ⟨.d0, .d0, .d0⟩ 0
noncomputable def avN : AV := .y 3 (.var 3)
noncomputable def avQ : AV := .p ⟨.d0, .d0, .d19⟩ 0
noncomputable def pat2 : List (Nat × AV) := [(0, avP), (1, avN)]
noncomputable def pat3 : List (Nat × AV) := [(0, avP), (1, avN), (4, avQ)]
noncomputable def soA : List (Nm × Blk) := [(⟨.d0, .d0, .d3⟩, (.cells 92 true 2 2 2 0 (.a1 2 ⟨(.so ⟨.d0, .d0, .d12⟩ 0 1), (.so ⟨.d0, .d0, .d13⟩ 0 1), .u, .u, .u, .u, .u, .u⟩))),
  (⟨.d0, .d0, .d4⟩, (.cells 3 true 1 1 0 0 (.n 3 0))),
  (⟨.d0, .d0, .d5⟩, (.cells 94 true 2 2 2 0 (.a1 2 ⟨(.s [102]), (.n 3 0), .u, .u, .u, .u, .u, .u⟩))),
  (⟨.d0, .d0, .d6⟩, (.cells 68 true 2 2 2 0 (.a1 2 ⟨(.so ⟨.d0, .d0, .d14⟩ 0 3), (.so ⟨.d0, .d0, .d15⟩ 0 48), .u, .u, .u, .u, .u, .u⟩)))]
noncomputable def soB : List (Nm × Blk) := [(⟨.d0, .d0, .d9⟩, (.cells 183 false 2 2 2 0 (.a1 2 ⟨.sl0, .sl0, .u, .u, .u, .u, .u, .u⟩))),
  (⟨.d0, .d0, .d10⟩, (.cells 138 true 1 1 0 0 (.m ⟨.d0, .d0, .d18⟩)))]
noncomputable def soC : List (Nm × Blk) := [(⟨.d0, .d0, .d12⟩, (.cells 3 true 1 1 0 0 (.n 3 1))),
  (⟨.d0, .d0, .d13⟩, (.cells 3 true 1 1 0 0 (.n 3 1))),
  (⟨.d0, .d0, .d14⟩, (.cells 3 true 3 1 0 1 ⟨(.n 3 1), (.n 3 1), (.n 3 1), .u, .u, .u, .u, .u⟩)),
  (⟨.d0, .d0, .d15⟩, (.cells 55 true 192 4 2 2 ⟨⟨(.a1 4 ⟨(.n 3 2), (.n 3 0), (.n 3 0), .sl0, .u, .u, .u, .u⟩), (.a1 4 ⟨(.n 3 3), (.n 3 0), (.n 3 0), .sl0, .u, .u, .u, .u⟩), (.a1 4 ⟨(.n 3 32), (.n 3 1), (.n 3 0), .sl0, .u, .u, .u, .u⟩), (.a1 4 ⟨(.n 3 32), (.n 3 0), (.n 3 0), .sl0, .u, .u, .u, .u⟩), (.a1 4 ⟨(.n 3 78), (.n 3 0), (.n 3 0), .sl0, .u, .u, .u, .u⟩), (.a1 4 ⟨(.n 3 13), (.n 3 1), (.n 3 0), .sl0, .u, .u, .u, .u⟩), (.a1 4 ⟨(.n 3 65), (.n 3 0), (.n 3 0), .sl0, .u, .u, .u, .u⟩), (.a1 4 ⟨(.n 3 33), (.n 3 2), (.n 3 0), .sl0, .u, .u, .u, .u⟩)⟩, ⟨(.a1 4 ⟨(.n 3 2), (.n 3 0), (.n 3 0), .sl0, .u, .u, .u, .u⟩), (.a1 4 ⟨(.n 3 3), (.n 3 0), (.n 3 0), .sl0, .u, .u, .u, .u⟩), (.a1 4 ⟨(.n 3 32), (.n 3 2), (.n 3 0), .sl0, .u, .u, .u, .u⟩), (.a1 4 ⟨(.n 3 32), (.n 3 0), (.n 3 0), .sl0, .u, .u, .u, .u⟩), (.a1 4 ⟨(.n 3 65), (.n 3 1), (.n 3 0), .sl0, .u, .u, .u, .u⟩), (.a1 4 ⟨(.n 3 107), (.n 3 0), (.n 3 0), .sl0, .u, .u, .u, .u⟩), (.a1 4 ⟨(.n 3 78), (.n 3 0), (.n 3 0), .sl0, .u, .u, .u, .u⟩), (.a1 4 ⟨(.n 3 13), (.n 3 1), (.n 3 0), .sl0, .u, .u, .u, .u⟩)⟩, ⟨(.a1 4 ⟨(.n 3 32), (.n 3 2), (.n 3 0), .sl0, .u, .u, .u, .u⟩), (.a1 4 ⟨(.n 3 45), (.n 3 0), (.n 3 0), .sl0, .u, .u, .u, .u⟩), (.a1 4 ⟨(.n 3 32), (.n 3 2), (.n 3 0), .sl0, .u, .u, .u, .u⟩), (.a1 4 ⟨(.n 3 45), (.n 3 0), (.n 3 1), .sl0, .u, .u, .u, .u⟩), (.a1 4 ⟨(.n 3 75), (.n 3 0), (.n 3 0), .sl0, .u, .u, .u, .u⟩), (.a1 4 ⟨(.n 3 4), (.n 3 0), (.n 3 0), .sl0, .u, .u, .u, .u⟩), (.a1 4 ⟨(.n 3 32), (.n 3 2), (.n 3 0), .sl0, .u, .u, .u, .u⟩), (.a1 4 ⟨(.n 3 45), (.n 3 0), (.n 3 0), .sl0, .u, .u, .u, .u⟩)⟩, ⟨(.a1 4 ⟨(.n 3 33), (.n 3 3), (.n 3 0), .sl0, .u, .u, .u, .u⟩), (.a1 4 ⟨(.n 3 32), (.n 3 2), (.n 3 0), .sl0, .u, .u, .u, .u⟩), (.a1 4 ⟨(.n 3 32), (.n 3 2), (.n 3 0), .sl0, .u, .u, .u, .u⟩), (.a1 4 ⟨(.n 3 45), (.n 3 0), (.n 3 1), .sl0, .u, .u, .u, .u⟩), (.a1 4 ⟨(.n 3 58), (.n 3 0), (.n 3 0), .sl0, .u, .u, .u, .u⟩), (.a1 4 ⟨(.n 3 32), (.n 3 2), (.n 3 0), .sl0, .u, .u, .u, .u⟩), (.a1 4 ⟨(.n 3 32), (.n 3 3), (.n 3 0), .sl0, .u, .u, .u, .u⟩), (.a1 4 ⟨(.n 3 58), (.n 3 0), (.n 3 1), .sl0, .u, .u, .u, .u⟩)⟩, ⟨(.a1 4 ⟨(.n 3 11), (.n 3 0), (.n 3 0), .sl0, .u, .u, .u, .u⟩), (.a1 4 ⟨(.n 3 32), (.n 3 2), (.n 3 0), .sl0, .u, .u, .u, .u⟩), (.a1 4 ⟨(.n 3 65), (.n 3 1), (.n 3 0), .sl0, .u, .u, .u, .u⟩), (.a1 4 ⟨(.n 3 106), (.n 3 0), (.n 3 0), .sl0, .u, .u, .u, .u⟩), (.a1 4 ⟨(.n 3 33), (.n 3 2), (.n 3 0), .sl0, .u, .u, .u, .u⟩), (.a1 4 ⟨(.n 3 12), (.n 3 0), (.n 3 0), .sl0, .u, .u, .u, .u⟩), (.a1 4 ⟨(.n 3 11), (.n 3 0), (.n 3 0), .sl0, .u, .u, .u, .u⟩), (.a1 4 ⟨(.n 3 11), (.n 3 0), (.n 3 0), .sl0, .u, .u, .u, .u⟩)⟩, ⟨(.a1 4 ⟨(.n 3 32), (.n 3 1), (.n 3 0), .sl0, .u, .u, .u, .u⟩), (.a1 4 ⟨(.n 3 65), (.n 3 1), (.n 3 0), .sl0, .u, .u, .u, .u⟩), (.a1 4 ⟨(.n 3 106), (.n 3 0), (.n 3 0), .sl0, .u, .u, .u, .u⟩), (.a1 4 ⟨(.n 3 33), (.n 3 1), (.n 3 0), .sl0, .u, .u, .u, .u⟩), (.a1 4 ⟨(.n 3 12), (.n 3 0), (.n 3 0), .sl0, .u, .u, .u, .u⟩), (.a1 4 ⟨(.n 3 11), (.n 3 0), (.n 3 0), .sl0, .u, .u, .u, .u⟩), (.a1 4 ⟨(.n 3 11), (.n 3 0), (.n 3 0), .sl0, .u, .u, .u, .u⟩), (.a1 4 ⟨(.n 3 32), (.n 3 0), (.n 3 0), .sl0, .u, .u, .u, .u⟩)⟩, (fillT .u 1), (fillT .u 1)⟩))]
noncomputable def soY : Nm × Blk := (⟨.d0, .d0, .d17⟩, (.cells 5 false 512 1 0 3 ⟨⟨⟨(.y 4 (.var 10)), (.y 4 (.var 11)), (.y 4 (.var 12)), (.y 4 (.var 13)), (.y 4 (.var 14)), (.y 4 (.var 15)), (.y 4 (.var 16)), (.y 4 (.var 17))⟩, ⟨(.y 4 (.var 18)), (.y 4 (.var 19)), (.y 4 (.var 20)), (.y 4 (.var 21)), (.n 4 0), (.n 4 0), (.n 4 0), (.n 4 0)⟩, (fillT (.n 4 0) 1), (fillT (.n 4 0) 1), (fillT (.n 4 0) 1), (fillT (.n 4 0) 1), (fillT (.n 4 0) 1), (fillT (.n 4 0) 1)⟩, (fillT (.n 4 0) 2), (fillT (.n 4 0) 2), (fillT (.n 4 0) 2), (fillT (.n 4 0) 2), (fillT (.n 4 0) 2), (fillT (.n 4 0) 2), (fillT (.n 4 0) 2)⟩))
noncomputable def soM : Nm × Blk := (⟨.d0, .d0, .d18⟩, (.mp [((.n 3 0), (.a1 3 ⟨(.n 3 0), (.n 3 18446744073709551615), (.n 3 46), .u, .u, .u, .u, .u⟩)), ((.n 3 1), (.a1 3 ⟨(.n 3 1), (.n 3 18446744073709551615), (.n 3 45), .u, .u, .u, .u, .u⟩)), ((.n 3 8), (.a1 3 ⟨(.n 3 8), (.n 3 18446744073709551615), (.n 3 39), .u, .u, .u, .u, .u⟩)), ((.n 3 9), (.a1 3 ⟨(.n 3 9), (.n 3 18446744073709551615), (.n 3 38), .u, .u, .u, .u, .u⟩)), ((.n 3 21), (.a1 3 ⟨(.n 3 21), (.n 3 18446744073709551615), (.n 3 32), .u, .u, .u, .u, .u⟩))]))
noncomputable def soQ : Nm × Blk := (⟨.d0, .d0, .d19⟩, (.cells 48 false 4 4 2 0 (.a1 4 ⟨(.n 3 0), (.n 3 0), (.n 3 0), .sl0, .u, .u, .u, .u⟩)))
noncomputable def soI : Nm × Blk := (⟨.d0, .d0, .d1⟩, (.cells 122 false 17 17 3 0 (.a2 17 ⟨⟨(.so ⟨.d0, .d0, .d3⟩ 0 1), .sl0, (.so ⟨.d0, .d0, .d4⟩ 0 1), (.b false), (.n 3 0), (.n 3 0), (.b true), (.n 3 2)⟩, ⟨(.n 3 5), .sl0, (.so ⟨.d0, .d0, .d5⟩ 0 1), .sl0, (.so ⟨.d0, .d0, .d6⟩ 0 1), .u, (.p ⟨.d0, .d0, .d8⟩ 0), (.p ⟨.d0, .d0, .d9⟩ 0)⟩, ⟨(.so ⟨.d0, .d0, .d10⟩ 0 1), .u, .u, .u, .u, .u, .u, .u⟩, ⟨.u, .u, .u, .u, .u, .u, .u, .u⟩, ⟨.u, .u, .u, .u, .u, .u, .u, .u⟩, ⟨.u, .u, .u, .u, .u, .u, .u, .u⟩, ⟨.u, .u, .u, .u, .u, .u, .u, .u⟩, ⟨.u, .u, .u, .u, .u, .u, .u, .u⟩⟩)))
noncomputable def soV : Blk := (.cells 45 true 0 2 2 0 .u)
noncomputable def soL (p : Nat) : Blk := match p with
  | 10 => (.cells 180 true 8 2 2 1 ⟨(.a1 2 ⟨(.n 3 0), (.n 3 0), .u, .u, .u, .u, .u, .u⟩), (.a1 2 ⟨(.n 3 1), (.n 3 0), .u, .u, .u, .u, .u, .u⟩), (.a1 2 ⟨(.n 3 8), (.n 3 0), .u, .u, .u, .u, .u, .u⟩), (.a1 2 ⟨(.n 3 9), (.n 3 0), .u, .u, .u, .u, .u, .u⟩), .u, .u, .u, .u⟩)
  | _ => (.cells 180 true 4 2 2 1 ⟨(.a1 2 ⟨(.n 3 0), (.n 3 0), .u, .u, .u, .u, .u, .u⟩), (.a1 2 ⟨(.n 3 1), (.n 3 0), .u, .u, .u, .u, .u, .u⟩), .u, .u, .u, .u, .u, .u⟩)
noncomputable def soX (p j : Nat) : Blk := match p with
  | 0 => (.cells 45 true 8 2 2 1 ⟨(.a1 2 ⟨(.n 3 1), (.y 3 (.var 1)), .u, .u, .u, .u, .u, .u⟩), (.a1 2 ⟨(.n 3 1), (.y 3 (.var 0)), .u, .u, .u, .u, .u, .u⟩), (.a1 2 ⟨(.n 3 1), (.y 3 (.var 7)), .u, .u, .u, .u, .u, .u⟩), (.a1 2 ⟨(.n 3 1), (.y 3 (.var 6)), .u, .u, .u, .u, .u, .u⟩), .u, .u, .u, .u⟩)
  | 10 => (.cells 45 true 8 2 2 1 ⟨(.a1 2 ⟨(.n 3 1), (.y 3 (.var 1)), .u, .u, .u, .u, .u, .u⟩), (.a1 2 ⟨(.n 3 1), (.y 3 (.var 0)), .u, .u, .u, .u, .u, .u⟩), (.a1 2 ⟨(.n 3 1), (.n 3 j), .u, .u, .u, .u, .u, .u⟩), (.a1 2 ⟨(.n 3 1), (.y 3 (.var 6)), .u, .u, .u, .u, .u, .u⟩), .u, .u, .u, .u⟩)
  | _ => (.cells 45 true 8 2 2 1 ⟨(.a1 2 ⟨(.n 3 1), (.y 3 (.var 1)), .u, .u, .u, .u, .u, .u⟩), (.a1 2 ⟨(.n 3 1), (.y 3 (.var 0)), .u, .u, .u, .u, .u, .u⟩), (.a1 2 ⟨(.n 3 1), (.y 3 (.var 7)), .u, .u, .u, .u, .u, .u⟩), (.a1 2 ⟨(.n 3 1), (.y 3 (.var 6)), .u, .u, .u, .u, .u, .u⟩), .u, .u, .u, .u⟩)
noncomputable def soF (p j : Nat) : Blk := match p with
  | 0 => (.cells 89 true 5 5 2 0 (.a1 5 ⟨(.n 3 0), (.n 3 0), (.so ⟨.d0, .d0, .d11⟩ 0 4), (.n 3 0), .sl0, .u, .u, .u⟩))
  | 10 => (.cells 89 true 5 5 2 0 (.a1 5 ⟨(.n 3 0), (.n 3 10), (.so ⟨.d0, .d0, .d11⟩ 0 4), (.n 3 0), (.so ⟨.d0, .d0, .d31⟩ 0 4), .u, .u, .u⟩))
  | _ => (.cells 89 true 5 5 2 0 (.a1 5 ⟨(.n 3 0), (.n 3 2), (.so ⟨.d0, .d0, .d11⟩ 0 4), (.n 3 0), (.so ⟨.d0, .d0, .d31⟩ 0 2), .u, .u, .u⟩))
noncomputable def soZ (p j : Nat) : Blk := match p with
  | 0 => (.cells 98 false 11 11 3 0 (.a2 11 ⟨⟨(.p ⟨.d0, .d0, .d1⟩ 0), .sl0, (.so ⟨.d0, .d0, .d2⟩ 0 1), (.n 3 18446744073709551615), (.n 3 1), (.n 3 0), (.n 3 0), .sl0⟩, ⟨(.y 10 (.op 0 0 (.var 2) (.var 8))), (.n 3 0), (.c (0) (0)), .u, .u, .u, .u, .u⟩, ⟨.u, .u, .u, .u, .u, .u, .u, .u⟩, ⟨.u, .u, .u, .u, .u, .u, .u, .u⟩, ⟨.u, .u, .u, .u, .u, .u, .u, .u⟩, ⟨.u, .u, .u, .u, .u, .u, .u, .u⟩, ⟨.u, .u, .u, .u, .u, .u, .u, .u⟩, ⟨.u, .u, .u, .u, .u, .u, .u, .u⟩⟩))
  | 10 => (.cells 98 false 11 11 3 0 (.a2 11 ⟨⟨(.p ⟨.d0, .d0, .d1⟩ 0), (.so ⟨.d0, .d0, .d30⟩ 0 0), (.so ⟨.d0, .d0, .d2⟩ 0 1), (.n 3 18446744073709551615), (.n 3 1), (.n 3 0), (.n 3 0), .sl0⟩, ⟨(.y 10 (.op 0 0 (.var 2) (.var 8))), (.n 3 0), (.c (0) (0)), .u, .u, .u, .u, .u⟩, ⟨.u, .u, .u, .u, .u, .u, .u, .u⟩, ⟨.u, .u, .u, .u, .u, .u, .u, .u⟩, ⟨.u, .u, .u, .u, .u, .u, .u, .u⟩, ⟨.u, .u, .u, .u, .u, .u, .u, .u⟩, ⟨.u, .u, .u, .u, .u, .u, .u, .u⟩, ⟨.u, .u, .u, .u, .u, .u, .u, .u⟩⟩))
  | _ => (.cells 98 false 11 11 3 0 (.a2 11 ⟨⟨(.p ⟨.d0, .d0, .d1⟩ 0), (.so ⟨.d0, .d0, .d30⟩ 0 0), (.so ⟨.d0, .d0, .d2⟩ 0 1), (.n 3 18446744073709551615), (.n 3 1), (.n 3 0), (.n 3 0), .sl0⟩, ⟨(.y 10 (.op 0 0 (.var 2) (.var 8))), (.n 3 0), (.c (0) (0)), .u, .u, .u, .u, .u⟩, ⟨.u, .u, .u, .u, .u, .u, .u, .u⟩, ⟨.u, .u, .u, .u, .u, .u, .u, .u⟩, ⟨.u, .u, .u, .u, .u, .u, .u, .u⟩, ⟨.u, .u, .u, .u, .u, .u, .u, .u⟩, ⟨.u, .u, .u, .u, .u, .u, .u, .u⟩, ⟨.u, .u, .u, .u, .u, .u, .u, .u⟩⟩))
noncomputable def soW (w : Bool) : Blk := match w with | false => (.cells 125 false 3 3 2 0 (.a1 3 ⟨(.sl ⟨.d0, .d0, .d17⟩ 0 512 512), (.n 3 5), .sl0, .u, .u, .u, .u, .u⟩)) | true => (.cells 125 false 3 3 2 0 (.a1 3 ⟨(.sl ⟨.d0, .d0, .d17⟩ 0 512 512), (.n 3 5), (.so ⟨.d0, .d0, .d32⟩ 0 1), .u, .u, .u, .u, .u⟩))
noncomputable def soH (p : Nat) (w : Bool) (j : Nat) : List (Nm × Blk) := (⟨.d0, .d0, .d0⟩, soZ p j) :: soI :: (⟨.d0, .d0, .d2⟩, soF p j) :: (soA ++ (⟨.d0, .d0, .d8⟩, soW w) :: (soB ++ (⟨.d0, .d0, .d11⟩, soX p j) :: (soC ++ [soY, soM])))
noncomputable def soE (p : Nat) (w : Bool) : List (Nm × Blk) := (match p with | 0 => [] | _ => [(⟨.d0, .d0, .d30⟩, soV), (⟨.d0, .d0, .d31⟩, soL p)]) ++ (match w with | true => [(⟨.d0, .d0, .d32⟩, (.cells 3 true 1 1 0 0 (.n 3 0)))] | false => [])
noncomputable def soDn : List (Nm × Blk) := [(⟨.d0, .d0, .d0⟩, (.cells 98 false 11 11 3 0 (.a2 11 ⟨⟨(.p ⟨.d0, .d0, .d1⟩ 0), .u, .u, .u, (.n 3 3), (.n 3 0), (.n 3 0), (.so ⟨.d0, .d0, .d33⟩ 0 1)⟩, ⟨.u, .u, .u, .u, .u, .u, .u, .u⟩, ⟨.u, .u, .u, .u, .u, .u, .u, .u⟩, ⟨.u, .u, .u, .u, .u, .u, .u, .u⟩, ⟨.u, .u, .u, .u, .u, .u, .u, .u⟩, ⟨.u, .u, .u, .u, .u, .u, .u, .u⟩, ⟨.u, .u, .u, .u, .u, .u, .u, .u⟩, ⟨.u, .u, .u, .u, .u, .u, .u, .u⟩⟩))),
  (⟨.d0, .d0, .d1⟩, (.cells 122 false 17 17 3 0 (.a2 17 ⟨⟨.u, .u, .u, .u, .u, .u, .u, .u⟩, ⟨.u, .u, .u, .u, .u, .u, (.p ⟨.d0, .d0, .d8⟩ 0), .u⟩, ⟨.u, .u, .u, .u, .u, .u, .u, .u⟩, ⟨.u, .u, .u, .u, .u, .u, .u, .u⟩, ⟨.u, .u, .u, .u, .u, .u, .u, .u⟩, ⟨.u, .u, .u, .u, .u, .u, .u, .u⟩, ⟨.u, .u, .u, .u, .u, .u, .u, .u⟩, ⟨.u, .u, .u, .u, .u, .u, .u, .u⟩⟩))),
  (⟨.d0, .d0, .d8⟩, (.cells 125 false 3 3 2 0 (.a1 3 ⟨(.sl ⟨.d0, .d0, .d17⟩ 0 512 512), .u, .u, .u, .u, .u, .u, .u⟩))),
  (⟨.d0, .d0, .d17⟩, (.cells 5 false 512 1 0 3 ⟨⟨⟨(.y 4 (.var 10)), (.y 4 (.var 11)), (.y 4 (.var 12)), (.y 4 (.var 13)), (.y 4 (.var 14)), (.y 4 (.var 15)), (.y 4 (.var 16)), (.y 4 (.var 17))⟩, ⟨(.y 4 (.var 18)), (.y 4 (.var 19)), (.y 4 (.var 20)), (.y 4 (.var 21)), .u, .u, .u, .u⟩, (fillT .u 1), (fillT .u 1), (fillT .u 1), (fillT .u 1), (fillT .u 1), (fillT .u 1)⟩, (fillT .u 2), (fillT .u 2), (fillT .u 2), (fillT .u 2), (fillT .u 2), (fillT .u 2), (fillT .u 2)⟩))]
noncomputable def soFb : Nm × Blk := (⟨.d0, .d0, .d33⟩, (.cells 45 true 2 2 2 0 (.a1 2 ⟨(.n 3 1), (.y 3 (.var 1)), .u, .u, .u, .u, .u, .u⟩)))
/-- What the caller sees behind it. -/
noncomputable def soFi : List (Nm × Blk) := [(⟨.d0, .d0, .d0⟩, (.cells 98 false 11 11 3 0 (.a2 11 ⟨⟨(.p ⟨.d0, .d0, .d1⟩ 0), .u, .u, .u, .u, .u, .u, .u⟩, ⟨.u, .u, .u, .u, .u, .u, .u, .u⟩, ⟨.u, .u, .u, .u, .u, .u, .u, .u⟩, ⟨.u, .u, .u, .u, .u, .u, .u, .u⟩, ⟨.u, .u, .u, .u, .u, .u, .u, .u⟩, ⟨.u, .u, .u, .u, .u, .u, .u, .u⟩, ⟨.u, .u, .u, .u, .u, .u, .u, .u⟩, ⟨.u, .u, .u, .u, .u, .u, .u, .u⟩⟩))),
  (⟨.d0, .d0, .d1⟩, (.cells 122 false 17 17 3 0 (.a2 17 ⟨⟨.u, .u, .u, .u, .u, .u, .u, .u⟩, ⟨.u, .u, .u, .u, .u, .u, (.p ⟨.d0, .d0, .d8⟩ 0), .u⟩, ⟨.u, .u, .u, .u, .u, .u, .u, .u⟩, ⟨.u, .u, .u, .u, .u, .u, .u, .u⟩, ⟨.u, .u, .u, .u, .u, .u, .u, .u⟩, ⟨.u, .u, .u, .u, .u, .u, .u, .u⟩, ⟨.u, .u, .u, .u, .u, .u, .u, .u⟩, ⟨.u, .u, .u, .u, .u, .u, .u, .u⟩⟩))),
  (⟨.d0, .d0, .d8⟩, (.cells 125 false 3 3 2 0 (.a1 3 ⟨(.sl ⟨.d0, .d0, .d17⟩ 0 512 512), .u, .u, .u, .u, .u, .u, .u⟩))),
  (⟨.d0, .d0, .d17⟩, (.cells 5 false 512 1 0 3 ⟨⟨⟨(.y 4 (.var 22)), (.y 4 (.var 23)), (.y 4 (.var 24)), (.y 4 (.var 25)), (.y 4 (.var 26)), (.y 4 (.var 27)), (.y 4 (.var 28)), (.y 4 (.var 29))⟩, ⟨(.y 4 (.var 30)), (.y 4 (.var 31)), (.y 4 (.var 32)), (.y 4 (.var 33)), .u, .u, .u, .u⟩, (fillT .u 1), (fillT .u 1), (fillT .u 1), (fillT .u 1), (fillT .u 1), (fillT .u 1)⟩, (fillT .u 2), (fillT .u 2), (fillT .u 2), (fillT .u 2), (fillT .u 2), (fillT .u 2), (fillT .u 2)⟩))]
noncomputable def soVv : AV := (.a1 4 ⟨(.n 3 3), (.n 3 0), (.n 3 0), .u, .u, .u, .u, .u⟩)
noncomputable def soS (p : Nat) (w : Bool) (j : Nat) : List (Nm × Blk) := match p with | 54 => soDn ++ [soFb] | _ => soH p w j ++ soE p w
noncomputable def soT (p : Nat) (w : Bool) (j : Nat) : List (Nm × Blk) := match p with | 54 => soDn ++ [soQ, soFb] | _ => soH p w j ++ soQ :: soE p w
noncomputable def sbP (l : List (Nm × Nm)) (T : List (Nm × Blk)) : List (Nm × Nm) := T.map fun x => (x.1, renN l x.1)
noncomputable def u0 : Ex := .var 2
noncomputable def u1 : Ex := .op 0 7 u0 (.lit 1)
noncomputable def u2 : Ex := .op 0 7 u1 (.lit 1)
noncomputable def u3 : Ex := .op 0 7 u2 (.lit 1)
noncomputable def u4 : Ex := .op 0 7 u3 (.lit 1)
noncomputable def u5 : Ex := .op 0 7 u4 (.lit 1)
noncomputable def u6 : Ex := .op 0 7 u5 (.lit 1)
noncomputable def u7 : Ex := .op 0 7 u6 (.lit 1)
noncomputable def u8 : Ex := .op 0 7 u7 (.lit 1)
noncomputable def u9 : Ex := .op 0 7 u8 (.lit 1)
noncomputable def u10 : Ex := .op 0 7 u9 (.lit 1)
noncomputable def u11 : Ex := .op 0 7 u10 (.lit 1)
noncomputable def u12 : Ex := .op 0 7 u11 (.lit 1)
noncomputable def u13 : Ex := .op 0 7 u12 (.lit 1)
noncomputable def u14 : Ex := .op 0 7 u13 (.lit 1)
noncomputable def u15 : Ex := .op 0 7 u14 (.lit 1)
noncomputable def u16 : Ex := .op 0 7 u15 (.lit 1)
noncomputable def u17 : Ex := .op 0 7 u16 (.lit 1)
noncomputable def u18 : Ex := .op 0 7 u17 (.lit 1)
noncomputable def u19 : Ex := .op 0 7 u18 (.lit 1)
noncomputable def u20 : Ex := .op 0 7 u19 (.lit 1)
noncomputable def u21 : Ex := .op 0 7 u20 (.lit 1)
noncomputable def u22 : Ex := .op 0 7 u21 (.lit 1)
noncomputable def u23 : Ex := .op 0 7 u22 (.lit 1)
noncomputable def u24 : Ex := .op 0 7 u23 (.lit 1)
noncomputable def u25 : Ex := .op 0 7 u24 (.lit 1)
noncomputable def u26 : Ex := .op 0 7 u25 (.lit 1)
noncomputable def u27 : Ex := .op 0 7 u26 (.lit 1)
noncomputable def u28 : Ex := .op 0 7 u27 (.lit 1)
noncomputable def d0 : Ex := .var 3
noncomputable def d1 : Ex := .op 1 3 d0 (.lit 1)
noncomputable def d2 : Ex := .op 1 3 d1 (.lit 1)
noncomputable def d3 : Ex := .op 1 3 d2 (.lit 1)
noncomputable def d4 : Ex := .op 1 3 d3 (.lit 1)
noncomputable def d5 : Ex := .op 1 3 d4 (.lit 1)
noncomputable def d6 : Ex := .op 1 3 d5 (.lit 1)
noncomputable def d7 : Ex := .op 1 3 d6 (.lit 1)
noncomputable def d8 : Ex := .op 1 3 d7 (.lit 1)
noncomputable def d9 : Ex := .op 1 3 d8 (.lit 1)
noncomputable def d10 : Ex := .op 1 3 d9 (.lit 1)
noncomputable def d11 : Ex := .op 1 3 d10 (.lit 1)
noncomputable def d12 : Ex := .op 1 3 d11 (.lit 1)
noncomputable def d13 : Ex := .op 1 3 d12 (.lit 1)
noncomputable def d14 : Ex := .op 1 3 d13 (.lit 1)
noncomputable def d15 : Ex := .op 1 3 d14 (.lit 1)
noncomputable def d16 : Ex := .op 1 3 d15 (.lit 1)
noncomputable def d17 : Ex := .op 1 3 d16 (.lit 1)
noncomputable def d18 : Ex := .op 1 3 d17 (.lit 1)
noncomputable def d19 : Ex := .op 1 3 d18 (.lit 1)
noncomputable def d20 : Ex := .op 1 3 d19 (.lit 1)
noncomputable def d21 : Ex := .op 1 3 d20 (.lit 1)
noncomputable def d22 : Ex := .op 1 3 d21 (.lit 1)
noncomputable def d23 : Ex := .op 1 3 d22 (.lit 1)
noncomputable def d24 : Ex := .op 1 3 d23 (.lit 1)
noncomputable def d25 : Ex := .op 1 3 d24 (.lit 1)
noncomputable def d26 : Ex := .op 1 3 d25 (.lit 1)
noncomputable def d27 : Ex := .op 1 3 d26 (.lit 1)
noncomputable def d28 : Ex := .op 1 3 d27 (.lit 1)
noncomputable def m0 : Ex := .var 8
noncomputable def m1 : Ex := .op 0 7 m0 (.lit 1)
noncomputable def m2 : Ex := .op 0 7 m1 (.lit 1)
noncomputable def m3 : Ex := .op 0 7 m2 (.lit 1)
noncomputable def m4 : Ex := .op 0 7 m3 (.lit 1)
noncomputable def m5 : Ex := .op 0 7 m4 (.lit 1)
noncomputable def m6 : Ex := .op 0 7 m5 (.lit 1)
noncomputable def tkA : List As := [⟨0, 7, .op 3 7 (.var 0) (.lit 18446744073709551600), .lit 0, true⟩, ⟨0, 7, .op 3 7 (.var 1) (.lit 18446744073709551600), .lit 0, true⟩, ⟨2, 7, m0, .lit 9007199254740992, true⟩, ⟨4, 3, d0, .lit 0, true⟩, ⟨2, 7, u0, .lit 9007199254740992, true⟩, ⟨4, 3, u1, .lit 1000000, false⟩, ⟨4, 3, d1, .lit 0, true⟩, ⟨2, 7, u1, .lit 9007199254740992, true⟩, ⟨4, 3, u2, .lit 1000000, false⟩, ⟨4, 3, d2, .lit 0, true⟩, ⟨2, 7, u2, .lit 9007199254740992, true⟩, ⟨4, 3, u3, .lit 1000000, false⟩, ⟨4, 3, d3, .lit 0, true⟩, ⟨2, 7, u3, .lit 9007199254740992, true⟩, ⟨4, 3, u4, .lit 1000000, false⟩, ⟨4, 3, d4, .lit 0, true⟩, ⟨2, 7, u4, .lit 9007199254740992, true⟩, ⟨4, 3, u5, .lit 1000000, false⟩, ⟨4, 3, d5, .lit 0, true⟩, ⟨2, 7, u5, .lit 9007199254740992, true⟩, ⟨4, 3, u6, .lit 1000000, false⟩, ⟨4, 3, d6, .lit 0, true⟩, ⟨2, 7, u6, .lit 9007199254740992, true⟩, ⟨4, 3, u7, .lit 1000000, false⟩, ⟨4, 3, d7, .lit 0, true⟩, ⟨2, 7, u7, .lit 9007199254740992, true⟩, ⟨4, 3, u8, .lit 1000000, false⟩, ⟨4, 3, d8, .lit 0, true⟩, ⟨2, 7, u8, .lit 9007199254740992, true⟩, ⟨4, 3, u9, .lit 1000000, false⟩, ⟨4, 3, d9, .lit 0, true⟩, ⟨2, 7, u9, .lit 9007199254740992, true⟩, ⟨4, 3, u10, .lit 1000000, false⟩, ⟨2, 7, u10, .lit 9007199254740992, true⟩]
noncomputable def tkZ : List As := [⟨0, 7, .op 3 7 (.var 0) (.lit 18446744073709551600), .lit 0, true⟩, ⟨0, 7, .op 3 7 (.var 1) (.lit 18446744073709551600), .lit 0, true⟩, ⟨2, 7, m0, .lit 9007199254740992, true⟩, ⟨4, 3, d0, .lit 0, true⟩, ⟨2, 7, u0, .lit 9007199254740992, true⟩, ⟨4, 3, u1, .lit 1000000, false⟩, ⟨4, 3, d1, .lit 0, true⟩, ⟨2, 7, u1, .lit 9007199254740992, true⟩, ⟨4, 3, u2, .lit 1000000, false⟩, ⟨4, 3, d2, .lit 0, true⟩, ⟨2, 7, u2, .lit 9007199254740992, true⟩, ⟨4, 3, u3, .lit 1000000, false⟩, ⟨4, 3, d3, .lit 0, true⟩, ⟨2, 7, u3, .lit 9007199254740992, true⟩, ⟨4, 3, u4, .lit 1000000, false⟩, ⟨4, 3, d4, .lit 0, true⟩, ⟨2, 7, u4, .lit 9007199254740992, true⟩, ⟨4, 3, u5, .lit 1000000, false⟩, ⟨4, 3, d5, .lit 0, true⟩, ⟨2, 7, u5, .lit 9007199254740992, true⟩, ⟨4, 3, u6, .lit 1000000, false⟩, ⟨4, 3, d6, .lit 0, true⟩, ⟨2, 7, u6, .lit 9007199254740992, true⟩, ⟨4, 3, u7, .lit 1000000, false⟩, ⟨4, 3, d7, .lit 0, true⟩, ⟨2, 7, u7, .lit 9007199254740992, true⟩, ⟨4, 3, u8, .lit 1000000, false⟩, ⟨2, 7, u8, .lit 9007199254740992, true⟩]
noncomputable def tkB : List As := [⟨0, 7, .op 3 7 (.var 0) (.lit 18446744073709551600), .lit 0, true⟩, ⟨0, 7, .op 3 7 (.var 1) (.lit 18446744073709551600), .lit 0, true⟩, ⟨2, 7, m0, .lit 9007199254740992, true⟩, ⟨4, 3, d0, .lit 0, true⟩, ⟨2, 7, u0, .lit 9007199254740992, true⟩, ⟨4, 3, u1, .lit 1000000, false⟩, ⟨4, 3, d1, .lit 0, true⟩, ⟨2, 7, u1, .lit 9007199254740992, true⟩, ⟨4, 3, u2, .lit 1000000, false⟩, ⟨4, 3, d2, .lit 0, true⟩, ⟨2, 7, u2, .lit 9007199254740992, true⟩, ⟨4, 3, u3, .lit 1000000, false⟩, ⟨4, 3, d3, .lit 0, true⟩, ⟨2, 7, u3, .lit 9007199254740992, true⟩, ⟨4, 3, u4, .lit 1000000, false⟩, ⟨4, 3, d4, .lit 0, true⟩, ⟨2, 7, u4, .lit 9007199254740992, true⟩, ⟨4, 3, u5, .lit 1000000, false⟩, ⟨4, 3, d5, .lit 0, true⟩, ⟨2, 7, u5, .lit 9007199254740992, true⟩, ⟨4, 3, u6, .lit 1000000, false⟩, ⟨4, 3, d6, .lit 0, true⟩, ⟨2, 7, u6, .lit 9007199254740992, true⟩, ⟨4, 3, u7, .lit 1000000, false⟩, ⟨4, 3, d7, .lit 0, true⟩, ⟨2, 7, u7, .lit 9007199254740992, true⟩, ⟨4, 3, u8, .lit 1000000, false⟩, ⟨2, 7, u8, .lit 9007199254740992, true⟩]
noncomputable def tkQ_ : List As := [⟨0, 7, .op 3 7 (.var 0) (.lit 18446744073709551600), .lit 0, true⟩, ⟨0, 7, .op 3 7 (.var 1) (.lit 18446744073709551600), .lit 0, true⟩, ⟨2, 7, m0, .lit 9007199254740992, true⟩, ⟨4, 3, d0, .lit 0, true⟩, ⟨2, 7, u0, .lit 9007199254740992, true⟩, ⟨4, 3, u1, .lit 1000000, false⟩, ⟨4, 3, d1, .lit 0, true⟩, ⟨2, 7, u1, .lit 9007199254740992, true⟩, ⟨4, 3, u2, .lit 1000000, false⟩, ⟨4, 3, d2, .lit 0, true⟩, ⟨2, 7, u2, .lit 9007199254740992, true⟩, ⟨4, 3, u3, .lit 1000000, false⟩, ⟨4, 3, d3, .lit 0, true⟩, ⟨2, 7, u3, .lit 9007199254740992, true⟩, ⟨4, 3, u4, .lit 1000000, false⟩, ⟨4, 3, d4, .lit 0, true⟩, ⟨2, 7, u4, .lit 9007199254740992, true⟩, ⟨4, 3, u5, .lit 1000000, false⟩, ⟨4, 3, d5, .lit 0, true⟩, ⟨2, 7, u5, .lit 9007199254740992, true⟩, ⟨4, 3, u6, .lit 1000000, false⟩, ⟨2, 7, u6, .lit 9007199254740992, true⟩]
noncomputable def tkN : List As := [⟨0, 7, .op 3 7 (.var 0) (.lit 18446744073709551600), .lit 0, true⟩, ⟨0, 7, .op 3 7 (.var 1) (.lit 18446744073709551600), .lit 0, true⟩, ⟨2, 7, m0, .lit 9007199254740992, true⟩, ⟨2, 7, m1, .lit 9007199254740992, true⟩, ⟨2, 7, m2, .lit 9007199254740992, true⟩, ⟨4, 3, d0, .lit 0, true⟩, ⟨2, 7, u0, .lit 9007199254740992, true⟩, ⟨4, 3, u1, .lit 1000000, false⟩, ⟨4, 3, d1, .lit 0, true⟩, ⟨2, 7, u1, .lit 9007199254740992, true⟩, ⟨4, 3, u2, .lit 1000000, false⟩, ⟨4, 3, d2, .lit 0, true⟩, ⟨2, 7, u2, .lit 9007199254740992, true⟩, ⟨4, 3, u3, .lit 1000000, false⟩, ⟨4, 3, d3, .lit 0, true⟩, ⟨2, 7, u3, .lit 9007199254740992, true⟩, ⟨4, 3, u4, .lit 1000000, false⟩, ⟨4, 3, d4, .lit 0, true⟩, ⟨2, 7, u4, .lit 9007199254740992, true⟩, ⟨4, 3, u5, .lit 1000000, false⟩, ⟨4, 3, d5, .lit 0, true⟩, ⟨2, 7, u5, .lit 9007199254740992, true⟩, ⟨4, 3, u6, .lit 1000000, false⟩, ⟨4, 3, d6, .lit 0, true⟩, ⟨2, 7, u6, .lit 9007199254740992, true⟩, ⟨4, 3, u7, .lit 1000000, false⟩, ⟨4, 3, d7, .lit 0, true⟩, ⟨2, 7, u7, .lit 9007199254740992, true⟩, ⟨4, 3, u8, .lit 1000000, false⟩, ⟨4, 3, d8, .lit 0, true⟩, ⟨2, 7, u8, .lit 9007199254740992, true⟩, ⟨4, 3, u9, .lit 1000000, false⟩, ⟨4, 3, d9, .lit 0, true⟩, ⟨2, 7, u9, .lit 9007199254740992, true⟩, ⟨4, 3, u10, .lit 1000000, false⟩, ⟨4, 3, d10, .lit 0, true⟩, ⟨2, 7, u10, .lit 9007199254740992, true⟩, ⟨4, 3, u11, .lit 1000000, false⟩, ⟨4, 3, d11, .lit 0, true⟩, ⟨2, 7, u11, .lit 9007199254740992, true⟩, ⟨4, 3, u12, .lit 1000000, false⟩, ⟨4, 3, d12, .lit 0, true⟩, ⟨2, 7, u12, .lit 9007199254740992, true⟩, ⟨4, 3, u13, .lit 1000000, false⟩, ⟨4, 3, d13, .lit 0, true⟩, ⟨2, 7, u13, .lit 9007199254740992, true⟩, ⟨4, 3, u14, .lit 1000000, false⟩, ⟨4, 3, d14, .lit 0, true⟩, ⟨2, 7, u14, .lit 9007199254740992, true⟩, ⟨4, 3, u15, .lit 1000000, false⟩, ⟨4, 3, d15, .lit 0, true⟩, ⟨2, 7, u15, .lit 9007199254740992, true⟩, ⟨4, 3, u16, .lit 1000000, false⟩, ⟨4, 3, d16, .lit 0, true⟩, ⟨2, 7, u16, .lit 9007199254740992, true⟩, ⟨4, 3, u17, .lit 1000000, false⟩, ⟨2, 7, u17, .lit 9007199254740992, true⟩]
noncomputable def tkS : List As := [⟨0, 7, .op 3 7 (.var 0) (.lit 18446744073709551600), .lit 0, true⟩, ⟨0, 7, .op 3 7 (.var 1) (.lit 18446744073709551600), .lit 0, true⟩, ⟨2, 7, m0, .lit 9007199254740992, true⟩, ⟨2, 7, m1, .lit 9007199254740992, true⟩, ⟨2, 7, m2, .lit 9007199254740992, true⟩, ⟨2, 7, m3, .lit 9007199254740992, true⟩, ⟨2, 7, m4, .lit 9007199254740992, true⟩, ⟨2, 7, m5, .lit 9007199254740992, true⟩, ⟨2, 7, m6, .lit 9007199254740992, true⟩, ⟨4, 3, d0, .lit 0, true⟩, ⟨2, 7, u0, .lit 9007199254740992, true⟩, ⟨4, 3, u1, .lit 1000000, false⟩, ⟨4, 3, d1, .lit 0, true⟩, ⟨2, 7, u1, .lit 9007199254740992, true⟩, ⟨4, 3, u2, .lit 1000000, false⟩, ⟨4, 3, d2, .lit 0, true⟩, ⟨2, 7, u2, .lit 9007199254740992, true⟩, ⟨4, 3, u3, .lit 1000000, false⟩, ⟨4, 3, d3, .lit 0, true⟩, ⟨2, 7, u3, .lit 9007199254740992, true⟩, ⟨4, 3, u4, .lit 1000000, false⟩, ⟨4, 3, d4, .lit 0, true⟩, ⟨2, 7, u4, .lit 9007199254740992, true⟩, ⟨4, 3, u5, .lit 1000000, false⟩, ⟨4, 3, d5, .lit 0, true⟩, ⟨2, 7, u5, .lit 9007199254740992, true⟩, ⟨4, 3, u6, .lit 1000000, false⟩, ⟨4, 3, d6, .lit 0, true⟩, ⟨2, 7, u6, .lit 9007199254740992, true⟩, ⟨4, 3, u7, .lit 1000000, false⟩, ⟨4, 3, d7, .lit 0, true⟩, ⟨2, 7, u7, .lit 9007199254740992, true⟩, ⟨4, 3, u8, .lit 1000000, false⟩, ⟨4, 3, d8, .lit 0, true⟩, ⟨2, 7, u8, .lit 9007199254740992, true⟩, ⟨4, 3, u9, .lit 1000000, false⟩, ⟨4, 3, d9, .lit 0, true⟩, ⟨2, 7, u9, .lit 9007199254740992, true⟩, ⟨4, 3, u10, .lit 1000000, false⟩, ⟨4, 3, d10, .lit 0, true⟩, ⟨2, 7, u10, .lit 9007199254740992, true⟩, ⟨4, 3, u11, .lit 1000000, false⟩, ⟨4, 3, d11, .lit 0, true⟩, ⟨2, 7, u11, .lit 9007199254740992, true⟩, ⟨4, 3, u12, .lit 1000000, false⟩, ⟨4, 3, d12, .lit 0, true⟩, ⟨2, 7, u12, .lit 9007199254740992, true⟩, ⟨4, 3, u13, .lit 1000000, false⟩, ⟨4, 3, d13, .lit 0, true⟩, ⟨2, 7, u13, .lit 9007199254740992, true⟩, ⟨4, 3, u14, .lit 1000000, false⟩, ⟨4, 3, d14, .lit 0, true⟩, ⟨2, 7, u14, .lit 9007199254740992, true⟩, ⟨4, 3, u15, .lit 1000000, false⟩, ⟨4, 3, d15, .lit 0, true⟩, ⟨2, 7, u15, .lit 9007199254740992, true⟩, ⟨4, 3, u16, .lit 1000000, false⟩, ⟨4, 3, d16, .lit 0, true⟩, ⟨2, 7, u16, .lit 9007199254740992, true⟩, ⟨4, 3, u17, .lit 1000000, false⟩, ⟨4, 3, d17, .lit 0, true⟩, ⟨2, 7, u17, .lit 9007199254740992, true⟩, ⟨4, 3, u18, .lit 1000000, false⟩, ⟨4, 3, d18, .lit 0, true⟩, ⟨2, 7, u18, .lit 9007199254740992, true⟩, ⟨4, 3, u19, .lit 1000000, false⟩, ⟨4, 3, d19, .lit 0, true⟩, ⟨2, 7, u19, .lit 9007199254740992, true⟩, ⟨4, 3, u20, .lit 1000000, false⟩, ⟨4, 3, d20, .lit 0, true⟩, ⟨2, 7, u20, .lit 9007199254740992, true⟩, ⟨4, 3, u21, .lit 1000000, false⟩, ⟨4, 3, d21, .lit 0, true⟩, ⟨2, 7, u21, .lit 9007199254740992, true⟩, ⟨4, 3, u22, .lit 1000000, false⟩, ⟨4, 3, d22, .lit 0, true⟩, ⟨2, 7, u22, .lit 9007199254740992, true⟩, ⟨4, 3, u23, .lit 1000000, false⟩, ⟨4, 3, d23, .lit 0, true⟩, ⟨2, 7, u23, .lit 9007199254740992, true⟩, ⟨4, 3, u24, .lit 1000000, false⟩, ⟨4, 3, d24, .lit 0, true⟩, ⟨2, 7, u24, .lit 9007199254740992, true⟩, ⟨4, 3, u25, .lit 1000000, false⟩, ⟨4, 3, d25, .lit 0, true⟩, ⟨2, 7, u25, .lit 9007199254740992, true⟩, ⟨4, 3, u26, .lit 1000000, false⟩, ⟨4, 3, d26, .lit 0, true⟩, ⟨2, 7, u26, .lit 9007199254740992, true⟩, ⟨4, 3, u27, .lit 1000000, false⟩, ⟨4, 3, d27, .lit 0, true⟩, ⟨2, 7, u27, .lit 9007199254740992, true⟩, ⟨4, 3, u28, .lit 1000000, false⟩, ⟨2, 7, u28, .lit 9007199254740992, true⟩]
noncomputable def tkX : List As := [⟨0, 7, .op 3 7 (.var 0) (.lit 18446744073709551600), .lit 0, true⟩, ⟨0, 7, .op 3 7 (.var 1) (.lit 18446744073709551600), .lit 0, true⟩, ⟨2, 7, m0, .lit 9007199254740992, true⟩, ⟨4, 3, d0, .lit 0, true⟩, ⟨2, 7, u0, .lit 9007199254740992, true⟩, ⟨4, 3, u1, .lit 1000000, false⟩, ⟨4, 3, d1, .lit 0, true⟩, ⟨2, 7, u1, .lit 9007199254740992, true⟩, ⟨4, 3, u2, .lit 1000000, false⟩, ⟨4, 3, d2, .lit 0, true⟩, ⟨2, 7, u2, .lit 9007199254740992, true⟩, ⟨4, 3, u3, .lit 1000000, false⟩, ⟨4, 3, d3, .lit 0, true⟩, ⟨2, 7, u3, .lit 9007199254740992, true⟩, ⟨4, 3, u4, .lit 1000000, false⟩, ⟨4, 3, d4, .lit 0, true⟩, ⟨2, 7, u4, .lit 9007199254740992, true⟩, ⟨4, 3, u5, .lit 1000000, false⟩, ⟨4, 3, d5, .lit 0, true⟩, ⟨2, 7, u5, .lit 9007199254740992, true⟩, ⟨4, 3, u6, .lit 1000000, false⟩, ⟨4, 3, d6, .lit 0, true⟩, ⟨2, 7, u6, .lit 9007199254740992, true⟩, ⟨4, 3, u7, .lit 1000000, false⟩, ⟨4, 3, d7, .lit 0, true⟩, ⟨2, 7, u7, .lit 9007199254740992, true⟩, ⟨4, 3, u8, .lit 1000000, false⟩, ⟨4, 3, d8, .lit 0, true⟩, ⟨2, 7, u8, .lit 9007199254740992, true⟩, ⟨4, 3, u9, .lit 1000000, false⟩, ⟨4, 3, d9, .lit 0, true⟩, ⟨2, 7, u9, .lit 9007199254740992, true⟩, ⟨4, 3, u10, .lit 1000000, false⟩, ⟨4, 3, d10, .lit 0, true⟩, ⟨2, 7, u10, .lit 9007199254740992, true⟩, ⟨4, 3, u11, .lit 1000000, false⟩, ⟨2, 7, u11, .lit 9007199254740992, true⟩]
noncomputable def ex1 (e : Ex) : Ex := .op 23 2 (.op 22 3 e (.lit 0)) (.lit 0)
noncomputable def ldE (k : Nat) : Ex := ex1 (.op 23 7 (.op 4 7 (.lit 0) (.op 27 4 (.var (Nat.add 10 k)) (.lit 0))) (.lit 0))
noncomputable def stE (k : Nat) : Ex := .op 24 7 (.op 8 7 (.op 27 3 (ldE k) (.lit 0)) (.lit 0)) (.lit 0)
noncomputable def cmE (k : Nat) : Ex := .op 27 6 (.op 26 3 (ldE k) (.lit 0)) (.lit 0)
noncomputable def n1E : Ex := ex1 (.op 1 3 (.var 1) (.lit 1))
noncomputable def tkI (b : Bool) (l : List As) : List As := ⟨5, 3, .var 0, .var 1, b⟩ :: l
noncomputable def tkJ (j : Nat) (b : Bool) (l : List As) : List As := ⟨5, 3, .lit j, n1E, b⟩ :: l
noncomputable def tkC (j : Nat) (b : Bool) (l : List As) : List As := ⟨4, 7, cmE j, cmE (Nat.succ j), b⟩ :: l
/-- The unknowns behind it: the rounds, the steps, the counter, the numbers of the locals, the bytes' meter, the bytes. -/
noncomputable def sg (i t c x jj m : Ex) (l : List Ex) : List Ex := i :: .var 1 :: t :: c :: .var 4 :: .var 5 :: x :: jj :: m :: .var 9 :: l
noncomputable def soBs : List Ex := [.var 10, .var 11, .var 12, .var 13, .var 14, .var 15, .var 16, .var 17, .var 18, .var 19, .var 20, .var 21]
noncomputable def putE (l : List Ex) (k : Nat) (e : Ex) : List Ex := (Nat.rec (motive := fun _ => List Ex → List Ex) (fun l => List.rec [] (fun _ r _ => e :: r) l) (fun _ ih l => List.rec [] (fun a r _ => a :: ih r) l) k : List Ex → List Ex) l
noncomputable def swE (j : Nat) : List Ex := putE (putE soBs j (stE (Nat.succ j))) (Nat.succ j) (stE j)
/-- So many steps from phase to phase. -/
noncomputable def FI (tk : List As) (p : Nat) (w : Bool) (j q : Nat) (w' : Bool) (j' k : Nat) (ps : List (Nm × Nm)) (σ : List Ex) : Ans := fragI (TTa tk) (soR tk []) 1 goE Tryz.f14.results.toList goB k [0, 1, 4] [avP, avN, avQ] (hpT (soT p w j) c40) pat3 (soT q w' j') c40 (sbP ps (soT q w' j')) σ
/-- All of so many. -/
noncomputable def allA (f : Nat → Ans) (n : Nat) : Ans := Nat.rec (motive := fun _ => Ans) Ans.yes (fun k ih => Ans.rec (motive := fun _ => Ans) ih Ans.no (f k)) n
theorem allA_yes {f : Nat → Ans} : ∀ {n : Nat}, allA f n = Ans.yes → ∀ k, k < n → f k = Ans.yes
  | 0, _, k, hk => absurd hk (Nat.not_lt_zero k)
  | n + 1, h, k, hk => by
    have h : Ans.rec (motive := fun _ => Ans) (allA f n) Ans.no (f n) = Ans.yes := h
    cases hf : f n with
    | no => rw [hf] at h; cases h
    | yes =>
      rw [hf] at h
      rcases Nat.lt_succ_iff_lt_or_eq.1 hk with h1 | rfl
      · exact allA_yes h k h1
      · exact hf
end
end Go.Proofs.YteefpemaeecicaaGreatDoor.Ev
