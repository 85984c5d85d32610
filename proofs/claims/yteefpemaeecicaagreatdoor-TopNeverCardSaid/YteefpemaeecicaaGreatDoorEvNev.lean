/- The endless loop's machine goes as many steps as it is let: Go's contract. No condition. -/
import Derived.Test.YteefpemaeecicaaGreatDoorEvSeat
import Derived.Test.YteefpemaeecicaaGreatDoorEvTmp
import Derived.KernelRfl
open Go Go.RowKit Go.Proofs
namespace Go.Proofs.YteefpemaeecicaaGreatDoor.Ev
set_option linter.unusedVariables false
set_option linter.unusedSimpArgs false
set_option linter.constructorNameAsVariable false
noncomputable section
/-! ### Go's pieces -/
noncomputable def go0 : Code := cFst (cOf Tryz.f14)
noncomputable def go1 : Code := cFst (cSnd (cOf Tryz.f14))
noncomputable def goB : Code := cIn (cIn (cFst (cSnd (cSnd (cOf Tryz.f14)))))
noncomputable def go9 : Code := cSnd (cSnd (cSnd (cOf Tryz.f14)))
theorem go_eq : Tryz.f14.body = some (.seq go0 (.seq go1 (.seq (.block 0 (.loop goB)) go9))) := by kernel_rfl
noncomputable def goE : Em := Em.of 53 [0, 1, 4, 5]
theorem goE_ok : EOk goE := EOk.of _ _ (by omega)
noncomputable def hnA (tk : List As) (L : List (Nat × Fc)) : H := callsN (runA tk L) 60
theorem hnA_ok [Rho] {tk : List As} (hA : Holds tk) {L : List (Nat × Fc)} (hL : LOk L) : HSound Tryz.prog (hnA tk L) := callsN_ok (runA_ok hA hL) 60
noncomputable def c40 : Nm := ⟨.d0, .d1, .d0⟩
noncomputable def nvI : Blk := (.cells 122 false 17 17 3 0 (.a2 17 ⟨⟨(.so ⟨.d0, .d0, .d3⟩ 0 1), .sl0, (.so ⟨.d0, .d0, .d4⟩ 0 1), (.b false), (.n 3 0), (.n 3 0), (.b true), (.n 3 2)⟩, ⟨(.n 3 5), .sl0, (.so ⟨.d0, .d0, .d5⟩ 0 1), .sl0, (.so ⟨.d0, .d0, .d6⟩ 0 1), .sl0, (.p ⟨.d0, .d0, .d7⟩ 0), (.p ⟨.d0, .d0, .d8⟩ 0)⟩, ⟨(.so ⟨.d0, .d0, .d9⟩ 0 1), .u, .u, .u, .u, .u, .u, .u⟩, ⟨.u, .u, .u, .u, .u, .u, .u, .u⟩, ⟨.u, .u, .u, .u, .u, .u, .u, .u⟩, ⟨.u, .u, .u, .u, .u, .u, .u, .u⟩, ⟨.u, .u, .u, .u, .u, .u, .u, .u⟩, ⟨.u, .u, .u, .u, .u, .u, .u, .u⟩⟩))
noncomputable def nvX : List (Nm × Blk) := [(⟨.d0, .d0, .d3⟩, (.cells 92 true 2 2 2 0 (.a1 2 ⟨(.so ⟨.d0, .d0, .d11⟩ 0 1), (.so ⟨.d0, .d0, .d12⟩ 0 1), .u, .u, .u, .u, .u, .u⟩))),
  (⟨.d0, .d0, .d4⟩, (.cells 3 true 1 1 0 0 (.n 3 0))),
  (⟨.d0, .d0, .d5⟩, (.cells 94 true 2 2 2 0 (.a1 2 ⟨(.s [102]), (.n 3 0), .u, .u, .u, .u, .u, .u⟩))),
  (⟨.d0, .d0, .d6⟩, (.cells 68 true 2 2 2 0 (.a1 2 ⟨(.so ⟨.d0, .d0, .d13⟩ 0 2), (.so ⟨.d0, .d0, .d14⟩ 0 5), .u, .u, .u, .u, .u, .u⟩))),
  (⟨.d0, .d0, .d7⟩, (.cells 125 false 3 3 2 0 (.a1 3 ⟨(.sl ⟨.d0, .d0, .d15⟩ 0 512 512), (.n 3 5), .sl0, .u, .u, .u, .u, .u⟩))),
  (⟨.d0, .d0, .d8⟩, (.cells 183 false 2 2 2 0 (.a1 2 ⟨.sl0, .sl0, .u, .u, .u, .u, .u, .u⟩))),
  (⟨.d0, .d0, .d9⟩, (.cells 138 true 1 1 0 0 (.m ⟨.d0, .d0, .d16⟩))),
  (⟨.d0, .d0, .d10⟩, (.cells 45 true 6 2 2 1 ⟨(.a1 2 ⟨(.n 3 1), (.n 3 0), .u, .u, .u, .u, .u, .u⟩), (.a1 2 ⟨(.n 3 1), (.n 3 0), .u, .u, .u, .u, .u, .u⟩), (.a1 2 ⟨(.n 3 1), (.n 3 0), .u, .u, .u, .u, .u, .u⟩), .u, .u, .u, .u, .u⟩)),
  (⟨.d0, .d0, .d11⟩, (.cells 3 true 1 1 0 0 (.n 3 1))),
  (⟨.d0, .d0, .d12⟩, (.cells 3 true 1 1 0 0 (.n 3 1))),
  (⟨.d0, .d0, .d13⟩, (.cells 3 true 2 1 0 1 ⟨(.n 3 1), (.n 3 1), .u, .u, .u, .u, .u, .u⟩)),
  (⟨.d0, .d0, .d14⟩, (.cells 55 true 20 4 2 1 ⟨(.a1 4 ⟨(.n 3 3), (.n 3 0), (.n 3 0), .sl0, .u, .u, .u, .u⟩), (.a1 4 ⟨(.n 3 1), (.n 3 0), (.n 3 0), .sl0, .u, .u, .u, .u⟩), (.a1 4 ⟨(.n 3 12), (.n 3 0), (.n 3 0), .sl0, .u, .u, .u, .u⟩), (.a1 4 ⟨(.n 3 11), (.n 3 0), (.n 3 0), .sl0, .u, .u, .u, .u⟩), (.a1 4 ⟨(.n 3 0), (.n 3 0), (.n 3 0), .sl0, .u, .u, .u, .u⟩), .u, .u, .u⟩)),
  (⟨.d0, .d0, .d15⟩, (.cells 5 false 512 1 0 3 (fillT (.n 4 0) 3))),
  (⟨.d0, .d0, .d16⟩, (.mp [((.n 3 0), (.a1 3 ⟨(.n 3 0), (.n 3 18446744073709551615), (.n 3 3), .u, .u, .u, .u, .u⟩))]))]
noncomputable def nvA : List (Nm × Blk) := [(⟨.d0, .d0, .d0⟩, (.cells 98 false 11 11 3 0 (.a2 11 ⟨⟨(.p ⟨.d0, .d0, .d1⟩ 0), .sl0, (.so ⟨.d0, .d0, .d2⟩ 0 1), (.n 3 18446744073709551615), (.n 3 1), (.n 3 0), (.n 3 0), .sl0⟩, ⟨(.y 10 (.op 0 0 (.var 1) (.lit 0))), (.n 3 0), (.c (0) (0)), .u, .u, .u, .u, .u⟩, ⟨.u, .u, .u, .u, .u, .u, .u, .u⟩, ⟨.u, .u, .u, .u, .u, .u, .u, .u⟩, ⟨.u, .u, .u, .u, .u, .u, .u, .u⟩, ⟨.u, .u, .u, .u, .u, .u, .u, .u⟩, ⟨.u, .u, .u, .u, .u, .u, .u, .u⟩, ⟨.u, .u, .u, .u, .u, .u, .u, .u⟩⟩))), (⟨.d0, .d0, .d1⟩, nvI), (⟨.d0, .d0, .d2⟩, (.cells 89 true 5 5 2 0 (.a1 5 ⟨(.n 3 0), (.n 3 0), (.so ⟨.d0, .d0, .d10⟩ 0 3), (.n 3 0), .sl0, .u, .u, .u⟩)))] ++ nvX ++ []
noncomputable def nvA2 : List (Nm × Blk) := [(⟨.d0, .d0, .d0⟩, (.cells 98 false 11 11 3 0 (.a2 11 ⟨⟨(.p ⟨.d0, .d0, .d1⟩ 0), .sl0, (.so ⟨.d0, .d0, .d2⟩ 0 1), (.n 3 18446744073709551615), (.n 3 1), (.n 3 0), (.n 3 0), .sl0⟩, ⟨(.y 10 (.op 0 0 (.var 1) (.lit 0))), (.n 3 0), (.c (0) (0)), .u, .u, .u, .u, .u⟩, ⟨.u, .u, .u, .u, .u, .u, .u, .u⟩, ⟨.u, .u, .u, .u, .u, .u, .u, .u⟩, ⟨.u, .u, .u, .u, .u, .u, .u, .u⟩, ⟨.u, .u, .u, .u, .u, .u, .u, .u⟩, ⟨.u, .u, .u, .u, .u, .u, .u, .u⟩, ⟨.u, .u, .u, .u, .u, .u, .u, .u⟩⟩))), (⟨.d0, .d0, .d1⟩, nvI), (⟨.d0, .d0, .d2⟩, (.cells 89 true 5 5 2 0 (.a1 5 ⟨(.n 3 0), (.n 3 0), (.so ⟨.d0, .d0, .d10⟩ 0 3), (.n 3 0), .sl0, .u, .u, .u⟩)))] ++ nvX ++ [(⟨.d0, .d0, .d20⟩, (.cells 48 false 4 4 2 0 (.a1 4 ⟨(.n 3 0), (.n 3 0), (.n 3 0), .sl0, .u, .u, .u, .u⟩)))]
noncomputable def nvB : List (Nm × Blk) := [(⟨.d0, .d0, .d0⟩, (.cells 98 false 11 11 3 0 (.a2 11 ⟨⟨(.p ⟨.d0, .d0, .d1⟩ 0), .sl0, (.so ⟨.d0, .d0, .d2⟩ 0 1), (.n 3 18446744073709551615), (.n 3 1), (.n 3 0), (.n 3 0), .sl0⟩, ⟨(.y 10 (.op 0 0 (.var 1) (.lit 0))), (.n 3 0), (.c (0) (0)), .u, .u, .u, .u, .u⟩, ⟨.u, .u, .u, .u, .u, .u, .u, .u⟩, ⟨.u, .u, .u, .u, .u, .u, .u, .u⟩, ⟨.u, .u, .u, .u, .u, .u, .u, .u⟩, ⟨.u, .u, .u, .u, .u, .u, .u, .u⟩, ⟨.u, .u, .u, .u, .u, .u, .u, .u⟩, ⟨.u, .u, .u, .u, .u, .u, .u, .u⟩⟩))), (⟨.d0, .d0, .d1⟩, nvI), (⟨.d0, .d0, .d2⟩, (.cells 89 true 5 5 2 0 (.a1 5 ⟨(.n 3 0), (.n 3 1), (.so ⟨.d0, .d0, .d10⟩ 0 3), (.n 3 0), (.so ⟨.d0, .d0, .d21⟩ 0 1), .u, .u, .u⟩)))] ++ nvX ++ [(⟨.d0, .d0, .d20⟩, (.cells 48 false 4 4 2 0 (.a1 4 ⟨(.n 3 0), (.n 3 0), (.n 3 0), .sl0, .u, .u, .u, .u⟩))), (⟨.d0, .d0, .d21⟩, (.cells 180 true 2 2 2 0 (.a1 2 ⟨(.n 3 0), (.n 3 0), .u, .u, .u, .u, .u, .u⟩)))]
noncomputable def nvC : List (Nm × Blk) := [(⟨.d0, .d0, .d0⟩, (.cells 98 false 11 11 3 0 (.a2 11 ⟨⟨(.p ⟨.d0, .d0, .d1⟩ 0), .sl0, (.so ⟨.d0, .d0, .d2⟩ 0 1), (.n 3 18446744073709551615), (.n 3 1), (.n 3 0), (.n 3 0), .sl0⟩, ⟨(.y 10 (.op 0 0 (.var 1) (.lit 0))), (.n 3 0), (.c (0) (0)), .u, .u, .u, .u, .u⟩, ⟨.u, .u, .u, .u, .u, .u, .u, .u⟩, ⟨.u, .u, .u, .u, .u, .u, .u, .u⟩, ⟨.u, .u, .u, .u, .u, .u, .u, .u⟩, ⟨.u, .u, .u, .u, .u, .u, .u, .u⟩, ⟨.u, .u, .u, .u, .u, .u, .u, .u⟩, ⟨.u, .u, .u, .u, .u, .u, .u, .u⟩⟩))), (⟨.d0, .d0, .d1⟩, nvI), (⟨.d0, .d0, .d2⟩, (.cells 89 true 5 5 2 0 (.a1 5 ⟨(.n 3 0), (.n 3 2), (.so ⟨.d0, .d0, .d10⟩ 0 3), (.n 3 0), (.so ⟨.d0, .d0, .d21⟩ 0 1), .u, .u, .u⟩)))] ++ nvX ++ [(⟨.d0, .d0, .d20⟩, (.cells 48 false 4 4 2 0 (.a1 4 ⟨(.n 3 0), (.n 3 0), (.n 3 0), .sl0, .u, .u, .u, .u⟩))), (⟨.d0, .d0, .d21⟩, (.cells 180 true 2 2 2 0 (.a1 2 ⟨(.n 3 0), (.n 3 0), .u, .u, .u, .u, .u, .u⟩)))]
noncomputable def nvFA : List (Nm × Blk) := [(⟨.d0, .d0, .d0⟩, (.cells 98 false 11 11 3 0 (.a2 11 ⟨⟨(.p ⟨.d0, .d0, .d1⟩ 0), .sl0, (.so ⟨.d0, .d0, .d2⟩ 0 1), (.n 3 18446744073709551615), (.n 3 1), (.n 3 0), (.n 3 0), .sl0⟩, ⟨(.y 10 (.op 0 0 (.var 0) (.lit 0))), (.n 3 0), (.c (0) (0)), .u, .u, .u, .u, .u⟩, ⟨.u, .u, .u, .u, .u, .u, .u, .u⟩, ⟨.u, .u, .u, .u, .u, .u, .u, .u⟩, ⟨.u, .u, .u, .u, .u, .u, .u, .u⟩, ⟨.u, .u, .u, .u, .u, .u, .u, .u⟩, ⟨.u, .u, .u, .u, .u, .u, .u, .u⟩, ⟨.u, .u, .u, .u, .u, .u, .u, .u⟩⟩))), (⟨.d0, .d0, .d1⟩, nvI), (⟨.d0, .d0, .d2⟩, (.cells 89 true 5 5 2 0 (.a1 5 ⟨(.n 3 0), (.n 3 0), (.so ⟨.d0, .d0, .d10⟩ 0 3), (.n 3 0), .sl0, .u, .u, .u⟩)))] ++ nvX ++ []
noncomputable def nvFB : List (Nm × Blk) := [(⟨.d0, .d0, .d0⟩, (.cells 98 false 11 11 3 0 (.a2 11 ⟨⟨(.p ⟨.d0, .d0, .d1⟩ 0), .sl0, (.so ⟨.d0, .d0, .d2⟩ 0 1), (.n 3 18446744073709551615), (.n 3 1), (.n 3 0), (.n 3 0), .sl0⟩, ⟨(.y 10 (.op 0 0 (.var 0) (.lit 0))), (.n 3 0), (.c (0) (0)), .u, .u, .u, .u, .u⟩, ⟨.u, .u, .u, .u, .u, .u, .u, .u⟩, ⟨.u, .u, .u, .u, .u, .u, .u, .u⟩, ⟨.u, .u, .u, .u, .u, .u, .u, .u⟩, ⟨.u, .u, .u, .u, .u, .u, .u, .u⟩, ⟨.u, .u, .u, .u, .u, .u, .u, .u⟩, ⟨.u, .u, .u, .u, .u, .u, .u, .u⟩⟩))), (⟨.d0, .d0, .d1⟩, nvI), (⟨.d0, .d0, .d2⟩, (.cells 89 true 5 5 2 0 (.a1 5 ⟨(.n 3 0), (.n 3 1), (.so ⟨.d0, .d0, .d10⟩ 0 3), (.n 3 0), (.so ⟨.d0, .d0, .d21⟩ 0 1), .u, .u, .u⟩)))] ++ nvX ++ [(⟨.d0, .d0, .d21⟩, (.cells 180 true 2 2 2 0 (.a1 2 ⟨(.n 3 0), (.n 3 0), .u, .u, .u, .u, .u, .u⟩)))]
noncomputable def nvFC : List (Nm × Blk) := [(⟨.d0, .d0, .d0⟩, (.cells 98 false 11 11 3 0 (.a2 11 ⟨⟨(.p ⟨.d0, .d0, .d1⟩ 0), .sl0, (.so ⟨.d0, .d0, .d2⟩ 0 1), (.n 3 18446744073709551615), (.n 3 1), (.n 3 0), (.n 3 0), .sl0⟩, ⟨(.y 10 (.op 0 0 (.var 0) (.lit 0))), (.n 3 0), (.c (0) (0)), .u, .u, .u, .u, .u⟩, ⟨.u, .u, .u, .u, .u, .u, .u, .u⟩, ⟨.u, .u, .u, .u, .u, .u, .u, .u⟩, ⟨.u, .u, .u, .u, .u, .u, .u, .u⟩, ⟨.u, .u, .u, .u, .u, .u, .u, .u⟩, ⟨.u, .u, .u, .u, .u, .u, .u, .u⟩, ⟨.u, .u, .u, .u, .u, .u, .u, .u⟩⟩))), (⟨.d0, .d0, .d1⟩, nvI), (⟨.d0, .d0, .d2⟩, (.cells 89 true 5 5 2 0 (.a1 5 ⟨(.n 3 0), (.n 3 2), (.so ⟨.d0, .d0, .d10⟩ 0 3), (.n 3 0), (.so ⟨.d0, .d0, .d21⟩ 0 1), .u, .u, .u⟩)))] ++ nvX ++ [(⟨.d0, .d0, .d21⟩, (.cells 180 true 2 2 2 0 (.a1 2 ⟨(.n 3 0), (.n 3 0), .u, .u, .u, .u, .u, .u⟩)))]
noncomputable def nvN : List Nm := [⟨.d0, .d0, .d0⟩, ⟨.d0, .d0, .d1⟩, ⟨.d0, .d0, .d2⟩, ⟨.d0, .d0, .d3⟩, ⟨.d0, .d0, .d4⟩, ⟨.d0, .d0, .d5⟩, ⟨.d0, .d0, .d6⟩, ⟨.d0, .d0, .d7⟩, ⟨.d0, .d0, .d8⟩, ⟨.d0, .d0, .d9⟩, ⟨.d0, .d0, .d10⟩, ⟨.d0, .d0, .d11⟩, ⟨.d0, .d0, .d12⟩, ⟨.d0, .d0, .d13⟩, ⟨.d0, .d0, .d14⟩, ⟨.d0, .d0, .d15⟩, ⟨.d0, .d0, .d16⟩]
noncomputable def psA2 : List (Nm × Nm) := [(⟨.d0, .d0, .d0⟩, ⟨.d0, .d0, .d0⟩), (⟨.d0, .d0, .d1⟩, ⟨.d0, .d0, .d1⟩), (⟨.d0, .d0, .d2⟩, ⟨.d0, .d0, .d2⟩), (⟨.d0, .d0, .d3⟩, ⟨.d0, .d0, .d3⟩), (⟨.d0, .d0, .d4⟩, ⟨.d0, .d0, .d4⟩), (⟨.d0, .d0, .d5⟩, ⟨.d0, .d0, .d5⟩), (⟨.d0, .d0, .d6⟩, ⟨.d0, .d0, .d6⟩), (⟨.d0, .d0, .d7⟩, ⟨.d0, .d0, .d7⟩), (⟨.d0, .d0, .d8⟩, ⟨.d0, .d0, .d8⟩), (⟨.d0, .d0, .d9⟩, ⟨.d0, .d0, .d9⟩), (⟨.d0, .d0, .d10⟩, ⟨.d0, .d0, .d10⟩), (⟨.d0, .d0, .d11⟩, ⟨.d0, .d0, .d11⟩), (⟨.d0, .d0, .d12⟩, ⟨.d0, .d0, .d12⟩), (⟨.d0, .d0, .d13⟩, ⟨.d0, .d0, .d13⟩), (⟨.d0, .d0, .d14⟩, ⟨.d0, .d0, .d14⟩), (⟨.d0, .d0, .d15⟩, ⟨.d0, .d0, .d15⟩), (⟨.d0, .d0, .d16⟩, ⟨.d0, .d0, .d16⟩), (⟨.d0, .d0, .d20⟩, ⟨.d0, .d1, .d0⟩)]
noncomputable def psI2 : List (Nm × Nm) := [(⟨.d0, .d0, .d0⟩, ⟨.d0, .d0, .d0⟩), (⟨.d0, .d0, .d1⟩, ⟨.d0, .d0, .d1⟩), (⟨.d0, .d0, .d2⟩, ⟨.d0, .d0, .d2⟩), (⟨.d0, .d0, .d3⟩, ⟨.d0, .d0, .d3⟩), (⟨.d0, .d0, .d4⟩, ⟨.d0, .d0, .d4⟩), (⟨.d0, .d0, .d5⟩, ⟨.d0, .d0, .d5⟩), (⟨.d0, .d0, .d6⟩, ⟨.d0, .d0, .d6⟩), (⟨.d0, .d0, .d7⟩, ⟨.d0, .d0, .d7⟩), (⟨.d0, .d0, .d8⟩, ⟨.d0, .d0, .d8⟩), (⟨.d0, .d0, .d9⟩, ⟨.d0, .d0, .d9⟩), (⟨.d0, .d0, .d10⟩, ⟨.d0, .d0, .d10⟩), (⟨.d0, .d0, .d11⟩, ⟨.d0, .d0, .d11⟩), (⟨.d0, .d0, .d12⟩, ⟨.d0, .d0, .d12⟩), (⟨.d0, .d0, .d13⟩, ⟨.d0, .d0, .d13⟩), (⟨.d0, .d0, .d14⟩, ⟨.d0, .d0, .d14⟩), (⟨.d0, .d0, .d15⟩, ⟨.d0, .d0, .d15⟩), (⟨.d0, .d0, .d16⟩, ⟨.d0, .d0, .d16⟩), (⟨.d0, .d0, .d20⟩, ⟨.d0, .d0, .d20⟩)]
noncomputable def psAB : List (Nm × Nm) := [(⟨.d0, .d0, .d0⟩, ⟨.d0, .d0, .d0⟩), (⟨.d0, .d0, .d1⟩, ⟨.d0, .d0, .d1⟩), (⟨.d0, .d0, .d2⟩, ⟨.d0, .d0, .d2⟩), (⟨.d0, .d0, .d3⟩, ⟨.d0, .d0, .d3⟩), (⟨.d0, .d0, .d4⟩, ⟨.d0, .d0, .d4⟩), (⟨.d0, .d0, .d5⟩, ⟨.d0, .d0, .d5⟩), (⟨.d0, .d0, .d6⟩, ⟨.d0, .d0, .d6⟩), (⟨.d0, .d0, .d7⟩, ⟨.d0, .d0, .d7⟩), (⟨.d0, .d0, .d8⟩, ⟨.d0, .d0, .d8⟩), (⟨.d0, .d0, .d9⟩, ⟨.d0, .d0, .d9⟩), (⟨.d0, .d0, .d10⟩, ⟨.d0, .d0, .d10⟩), (⟨.d0, .d0, .d11⟩, ⟨.d0, .d0, .d11⟩), (⟨.d0, .d0, .d12⟩, ⟨.d0, .d0, .d12⟩), (⟨.d0, .d0, .d13⟩, ⟨.d0, .d0, .d13⟩), (⟨.d0, .d0, .d14⟩, ⟨.d0, .d0, .d14⟩), (⟨.d0, .d0, .d15⟩, ⟨.d0, .d0, .d15⟩), (⟨.d0, .d0, .d16⟩, ⟨.d0, .d0, .d16⟩), (⟨.d0, .d0, .d20⟩, ⟨.d0, .d0, .d20⟩), (⟨.d0, .d0, .d21⟩, ⟨.d0, .d1, .d8⟩)]
noncomputable def psBC : List (Nm × Nm) := [(⟨.d0, .d0, .d0⟩, ⟨.d0, .d0, .d0⟩), (⟨.d0, .d0, .d1⟩, ⟨.d0, .d0, .d1⟩), (⟨.d0, .d0, .d2⟩, ⟨.d0, .d0, .d2⟩), (⟨.d0, .d0, .d3⟩, ⟨.d0, .d0, .d3⟩), (⟨.d0, .d0, .d4⟩, ⟨.d0, .d0, .d4⟩), (⟨.d0, .d0, .d5⟩, ⟨.d0, .d0, .d5⟩), (⟨.d0, .d0, .d6⟩, ⟨.d0, .d0, .d6⟩), (⟨.d0, .d0, .d7⟩, ⟨.d0, .d0, .d7⟩), (⟨.d0, .d0, .d8⟩, ⟨.d0, .d0, .d8⟩), (⟨.d0, .d0, .d9⟩, ⟨.d0, .d0, .d9⟩), (⟨.d0, .d0, .d10⟩, ⟨.d0, .d0, .d10⟩), (⟨.d0, .d0, .d11⟩, ⟨.d0, .d0, .d11⟩), (⟨.d0, .d0, .d12⟩, ⟨.d0, .d0, .d12⟩), (⟨.d0, .d0, .d13⟩, ⟨.d0, .d0, .d13⟩), (⟨.d0, .d0, .d14⟩, ⟨.d0, .d0, .d14⟩), (⟨.d0, .d0, .d15⟩, ⟨.d0, .d0, .d15⟩), (⟨.d0, .d0, .d16⟩, ⟨.d0, .d0, .d16⟩), (⟨.d0, .d0, .d20⟩, ⟨.d0, .d0, .d20⟩), (⟨.d0, .d0, .d21⟩, ⟨.d0, .d0, .d21⟩)]
noncomputable def psCB : List (Nm × Nm) := [(⟨.d0, .d0, .d0⟩, ⟨.d0, .d0, .d0⟩), (⟨.d0, .d0, .d1⟩, ⟨.d0, .d0, .d1⟩), (⟨.d0, .d0, .d2⟩, ⟨.d0, .d0, .d2⟩), (⟨.d0, .d0, .d3⟩, ⟨.d0, .d0, .d3⟩), (⟨.d0, .d0, .d4⟩, ⟨.d0, .d0, .d4⟩), (⟨.d0, .d0, .d5⟩, ⟨.d0, .d0, .d5⟩), (⟨.d0, .d0, .d6⟩, ⟨.d0, .d0, .d6⟩), (⟨.d0, .d0, .d7⟩, ⟨.d0, .d0, .d7⟩), (⟨.d0, .d0, .d8⟩, ⟨.d0, .d0, .d8⟩), (⟨.d0, .d0, .d9⟩, ⟨.d0, .d0, .d9⟩), (⟨.d0, .d0, .d10⟩, ⟨.d0, .d0, .d10⟩), (⟨.d0, .d0, .d11⟩, ⟨.d0, .d0, .d11⟩), (⟨.d0, .d0, .d12⟩, ⟨.d0, .d0, .d12⟩), (⟨.d0, .d0, .d13⟩, ⟨.d0, .d0, .d13⟩), (⟨.d0, .d0, .d14⟩, ⟨.d0, .d0, .d14⟩), (⟨.d0, .d0, .d15⟩, ⟨.d0, .d0, .d15⟩), (⟨.d0, .d0, .d16⟩, ⟨.d0, .d0, .d16⟩), (⟨.d0, .d0, .d20⟩, ⟨.d0, .d0, .d20⟩), (⟨.d0, .d0, .d21⟩, ⟨.d0, .d0, .d21⟩)]
noncomputable def psFA : List (Nm × Nm) := [(⟨.d0, .d0, .d0⟩, ⟨.d0, .d0, .d0⟩), (⟨.d0, .d0, .d1⟩, ⟨.d0, .d0, .d1⟩), (⟨.d0, .d0, .d2⟩, ⟨.d0, .d0, .d2⟩), (⟨.d0, .d0, .d3⟩, ⟨.d0, .d0, .d3⟩), (⟨.d0, .d0, .d4⟩, ⟨.d0, .d0, .d4⟩), (⟨.d0, .d0, .d5⟩, ⟨.d0, .d0, .d5⟩), (⟨.d0, .d0, .d6⟩, ⟨.d0, .d0, .d6⟩), (⟨.d0, .d0, .d7⟩, ⟨.d0, .d0, .d7⟩), (⟨.d0, .d0, .d8⟩, ⟨.d0, .d0, .d8⟩), (⟨.d0, .d0, .d9⟩, ⟨.d0, .d0, .d9⟩), (⟨.d0, .d0, .d10⟩, ⟨.d0, .d0, .d10⟩), (⟨.d0, .d0, .d11⟩, ⟨.d0, .d0, .d11⟩), (⟨.d0, .d0, .d12⟩, ⟨.d0, .d0, .d12⟩), (⟨.d0, .d0, .d13⟩, ⟨.d0, .d0, .d13⟩), (⟨.d0, .d0, .d14⟩, ⟨.d0, .d0, .d14⟩), (⟨.d0, .d0, .d15⟩, ⟨.d0, .d0, .d15⟩), (⟨.d0, .d0, .d16⟩, ⟨.d0, .d0, .d16⟩)]
noncomputable def psFB : List (Nm × Nm) := [(⟨.d0, .d0, .d0⟩, ⟨.d0, .d0, .d0⟩), (⟨.d0, .d0, .d1⟩, ⟨.d0, .d0, .d1⟩), (⟨.d0, .d0, .d2⟩, ⟨.d0, .d0, .d2⟩), (⟨.d0, .d0, .d3⟩, ⟨.d0, .d0, .d3⟩), (⟨.d0, .d0, .d4⟩, ⟨.d0, .d0, .d4⟩), (⟨.d0, .d0, .d5⟩, ⟨.d0, .d0, .d5⟩), (⟨.d0, .d0, .d6⟩, ⟨.d0, .d0, .d6⟩), (⟨.d0, .d0, .d7⟩, ⟨.d0, .d0, .d7⟩), (⟨.d0, .d0, .d8⟩, ⟨.d0, .d0, .d8⟩), (⟨.d0, .d0, .d9⟩, ⟨.d0, .d0, .d9⟩), (⟨.d0, .d0, .d10⟩, ⟨.d0, .d0, .d10⟩), (⟨.d0, .d0, .d11⟩, ⟨.d0, .d0, .d11⟩), (⟨.d0, .d0, .d12⟩, ⟨.d0, .d0, .d12⟩), (⟨.d0, .d0, .d13⟩, ⟨.d0, .d0, .d13⟩), (⟨.d0, .d0, .d14⟩, ⟨.d0, .d0, .d14⟩), (⟨.d0, .d0, .d15⟩, ⟨.d0, .d0, .d15⟩), (⟨.d0, .d0, .d16⟩, ⟨.d0, .d0, .d16⟩), (⟨.d0, .d0, .d21⟩, ⟨.d0, .d0, .d21⟩)]
noncomputable def psB : List (Nm × Nm) := [(⟨.d0, .d0, .d0⟩, ⟨.d0, .d0, .d0⟩), (⟨.d0, .d0, .d1⟩, ⟨.d0, .d0, .d1⟩), (⟨.d0, .d0, .d2⟩, ⟨.d0, .d0, .d2⟩), (⟨.d0, .d0, .d3⟩, ⟨.d0, .d0, .d3⟩), (⟨.d0, .d0, .d4⟩, ⟨.d0, .d0, .d4⟩), (⟨.d0, .d0, .d5⟩, ⟨.d0, .d0, .d5⟩), (⟨.d0, .d0, .d6⟩, ⟨.d0, .d0, .d6⟩), (⟨.d0, .d0, .d7⟩, ⟨.d0, .d0, .d7⟩), (⟨.d0, .d0, .d8⟩, ⟨.d0, .d0, .d8⟩), (⟨.d0, .d0, .d9⟩, ⟨.d0, .d0, .d9⟩), (⟨.d0, .d0, .d10⟩, ⟨.d0, .d0, .d10⟩), (⟨.d0, .d0, .d11⟩, ⟨.d0, .d0, .d11⟩), (⟨.d0, .d0, .d12⟩, ⟨.d0, .d0, .d12⟩), (⟨.d0, .d0, .d13⟩, ⟨.d0, .d0, .d13⟩), (⟨.d0, .d0, .d14⟩, ⟨.d0, .d0, .d14⟩), (⟨.d0, .d0, .d15⟩, ⟨.d0, .d0, .d15⟩), (⟨.d0, .d0, .d16⟩, ⟨.d0, .d0, .d16⟩), (⟨.d0, .d0, .d20⟩, ⟨.d0, .d0, .d20⟩), (⟨.d0, .d0, .d21⟩, ⟨.d0, .d0, .d21⟩)]
noncomputable def psC : List (Nm × Nm) := [(⟨.d0, .d0, .d0⟩, ⟨.d0, .d0, .d0⟩), (⟨.d0, .d0, .d1⟩, ⟨.d0, .d0, .d1⟩), (⟨.d0, .d0, .d2⟩, ⟨.d0, .d0, .d2⟩), (⟨.d0, .d0, .d3⟩, ⟨.d0, .d0, .d3⟩), (⟨.d0, .d0, .d4⟩, ⟨.d0, .d0, .d4⟩), (⟨.d0, .d0, .d5⟩, ⟨.d0, .d0, .d5⟩), (⟨.d0, .d0, .d6⟩, ⟨.d0, .d0, .d6⟩), (⟨.d0, .d0, .d7⟩, ⟨.d0, .d0, .d7⟩), (⟨.d0, .d0, .d8⟩, ⟨.d0, .d0, .d8⟩), (⟨.d0, .d0, .d9⟩, ⟨.d0, .d0, .d9⟩), (⟨.d0, .d0, .d10⟩, ⟨.d0, .d0, .d10⟩), (⟨.d0, .d0, .d11⟩, ⟨.d0, .d0, .d11⟩), (⟨.d0, .d0, .d12⟩, ⟨.d0, .d0, .d12⟩), (⟨.d0, .d0, .d13⟩, ⟨.d0, .d0, .d13⟩), (⟨.d0, .d0, .d14⟩, ⟨.d0, .d0, .d14⟩), (⟨.d0, .d0, .d15⟩, ⟨.d0, .d0, .d15⟩), (⟨.d0, .d0, .d16⟩, ⟨.d0, .d0, .d16⟩), (⟨.d0, .d0, .d20⟩, ⟨.d0, .d0, .d20⟩), (⟨.d0, .d0, .d21⟩, ⟨.d0, .d0, .d21⟩)]
noncomputable def tkGo : List As := [⟨4, 3, (.var 0), .lit 0, true⟩, ⟨2, 7, (.var 1), (.lit 9007199254740992), true⟩, ⟨2, 7, (.op 0 7 (.var 1) (.lit 1)), (.lit 9007199254740992), true⟩, ⟨4, 3, (.op 0 7 (.var 1) (.lit 1)), .lit 1000000, false⟩]
noncomputable def tkNo : List As := [⟨4, 3, (.var 0), .lit 0, false⟩]
noncomputable def sGo : List Ex := [.op 1 3 (.var 0) (.lit 1), .op 0 7 (.var 1) (.lit 1)]
noncomputable def s9 : List Ex := [.var 1, .lit 0]
noncomputable def avP : AV := .p ⟨.d0, .d0, .d0⟩ 0
noncomputable def avN : AV := .y 3 (.var 0)
noncomputable def avQ : AV := .p ⟨.d0, .d0, .d20⟩ 0
noncomputable def vMore : AV := (.a1 4 ⟨(.n 3 1), (.n 3 0), (.n 3 0), .sl0, .u, .u, .u, .u⟩)
noncomputable def pat2 : List (Nat × AV) := [(0, avP), (1, avN)]
noncomputable def pat3 : List (Nat × AV) := [(0, avP), (1, avN), (4, avQ)]
set_option maxRecDepth 1000000 in
theorem nv_c0 : fragN (TTa []) (hnA [] []) 1 goE Tryz.f14.results.toList go0 [0, 1] [avP, avN] (hpT nvA c40) pat3 nvA2 c40 psA2 [] = Ans.yes := by kernel_rfl
set_option maxRecDepth 1000000 in
theorem nv_c1 : fragN (TTa []) (hnA [] []) 1 goE Tryz.f14.results.toList go1 [0, 1, 4] [avP, avN, avQ] (hpT nvA2 c40) pat3 nvA2 c40 psI2 [] = Ans.yes := by kernel_rfl
set_option maxRecDepth 1000000 in
theorem go_nvA2 : fragN (TTa tkGo) (hnA tkGo []) 1 goE Tryz.f14.results.toList goB [0, 1, 4] [avP, avN, avQ] (hpT nvA2 c40) pat3 nvB c40 psAB sGo = Ans.yes := by kernel_rfl
set_option maxRecDepth 1000000 in
theorem go_nvB : fragN (TTa tkGo) (hnA tkGo []) 1 goE Tryz.f14.results.toList goB [0, 1, 4] [avP, avN, avQ] (hpT nvB c40) pat3 nvC c40 psBC sGo = Ans.yes := by kernel_rfl
set_option maxRecDepth 1000000 in
theorem go_nvC : fragN (TTa tkGo) (hnA tkGo []) 1 goE Tryz.f14.results.toList goB [0, 1, 4] [avP, avN, avQ] (hpT nvC c40) pat3 nvB c40 psCB sGo = Ans.yes := by kernel_rfl
set_option maxRecDepth 1000000 in
theorem no_nvA2 : fragX (TTa tkNo) (hnA tkNo []) 1 goE Tryz.f14.results.toList goB [0, 1, 4] [avP, avN, avQ] (hpT nvA2 c40) 0 pat3 nvA2 c40 psI2 [] = Ans.yes := by kernel_rfl
set_option maxRecDepth 1000000 in
theorem no_nvB : fragX (TTa tkNo) (hnA tkNo []) 1 goE Tryz.f14.results.toList goB [0, 1, 4] [avP, avN, avQ] (hpT nvB c40) 0 pat3 nvB c40 psB [] = Ans.yes := by kernel_rfl
set_option maxRecDepth 1000000 in
theorem no_nvC : fragX (TTa tkNo) (hnA tkNo []) 1 goE Tryz.f14.results.toList goB [0, 1, 4] [avP, avN, avQ] (hpT nvC c40) 0 pat3 nvC c40 psC [] = Ans.yes := by kernel_rfl
set_option maxRecDepth 1000000 in
theorem re_nvA2 : fragR (TTa []) (hnA [] []) 1 goE Tryz.f14.results.toList go9 [0, 1, 4] [avP, avN, avQ] (hpT nvA2 c40) vMore nvFA c40 psFA s9 = Ans.yes := by kernel_rfl
set_option maxRecDepth 1000000 in
theorem re_nvB : fragR (TTa []) (hnA [] []) 1 goE Tryz.f14.results.toList go9 [0, 1, 4] [avP, avN, avQ] (hpT nvB c40) vMore nvFB c40 psFB s9 = Ans.yes := by kernel_rfl
set_option maxRecDepth 1000000 in
theorem re_nvC : fragR (TTa []) (hnA [] []) 1 goE Tryz.f14.results.toList go9 [0, 1, 4] [avP, avN, avQ] (hpT nvC c40) vMore nvFC c40 psFB s9 = Ans.yes := by kernel_rfl
theorem good_nvA : goodT nvA c40 = true := by kernel_rfl
theorem good_nvA2 : goodT nvA2 c40 = true := by kernel_rfl
theorem good_nvB : goodT nvB c40 = true := by kernel_rfl
theorem good_nvC : goodT nvC c40 = true := by kernel_rfl
theorem good_nvFA : goodT nvFA c40 = true := by kernel_rfl
theorem good_nvFB : goodT nvFB c40 = true := by kernel_rfl
theorem good_nvFC : goodT nvFC c40 = true := by kernel_rfl
theorem names_nvFA : namesT nvFA psFA = true := by kernel_rfl
theorem names_nvFB : namesT nvFB psFB = true := by kernel_rfl
theorem names_nvFC : namesT nvFC psFB = true := by kernel_rfl
theorem stay_psA2 : (nvN.all fun n => (lk psA2 n).any fun m => Nm.beq m n) = true := by kernel_rfl
theorem stay_psI2 : (nvN.all fun n => (lk psI2 n).any fun m => Nm.beq m n) = true := by kernel_rfl
theorem stay_psAB : (nvN.all fun n => (lk psAB n).any fun m => Nm.beq m n) = true := by kernel_rfl
theorem stay_psBC : (nvN.all fun n => (lk psBC n).any fun m => Nm.beq m n) = true := by kernel_rfl
theorem stay_psCB : (nvN.all fun n => (lk psCB n).any fun m => Nm.beq m n) = true := by kernel_rfl
theorem stay_psFA : (nvN.all fun n => (lk psFA n).any fun m => Nm.beq m n) = true := by kernel_rfl
theorem stay_psFB : (nvN.all fun n => (lk psFB n).any fun m => Nm.beq m n) = true := by kernel_rfl
theorem stay_psB : (nvN.all fun n => (lk psB n).any fun m => Nm.beq m n) = true := by kernel_rfl
theorem stay_psC : (nvN.all fun n => (lk psC n).any fun m => Nm.beq m n) = true := by kernel_rfl
theorem names_nvA : (nvA.all fun x => nvN.any fun n => Nm.beq n x.1) = true := by kernel_rfl
theorem has_nvA : (nvN.all fun n => nvA.any fun x => Nm.beq x.1 n) = true := by kernel_rfl
theorem lt512 : ∀ t ∈ [0, 1, 4], t < 512 := by decide
theorem lt512' : ∀ t ∈ [0, 1], t < 512 := by decide
/-- The machine behind so many steps. -/
noncomputable def nvT (m : Nat) : List (Nm × Blk) := if m = 0 then nvA2 else if m % 2 = 1 then nvB else nvC
noncomputable def nvF (m : Nat) : List (Nm × Blk) := if m = 0 then nvFA else if m % 2 = 1 then nvFB else nvFC
/-- How it stands behind m of n steps. -/
structure NvAt (R0 : Rho) (n : Nat) (Kp : Kp) (μ0 : Mp) (m : Nat) (a : Act) (w : World) : Prop where
  le : m ≤ n
  ex : ∃ (R : Rho) (μ : Mp), R.n 0 % 18446744073709551616 = n - m ∧ R.n 1 % 18446744073709551616 = m ∧ (∀ i, 2 ≤ i → R.n i = R0.n i) ∧ R.v = R0.v ∧ @At R goE [0, 1, 4] [avP, avN, avQ] Kp μ (hpT (nvT m) c40) a w ∧ ∀ x ∈ nvN, μ x = μ0 x
theorem nv_body {R0 : Rho} {n : Nat} (hn : n < 2000) {Kp : Kp} (hN : ∀ nm, ¬ Kp.N nm) {μ0 : Mp} (h0 : ∀ x ∈ nvN, ∃ bk, μ0 x = some bk) (m : Nat) (a : Act) (w : World) (h : NvAt R0 n Kp μ0 m a w) :
    goB.wp Tryz.prog (fun ex a' w' => (ex = .exit 0 ∧ NvAt R0 n Kp μ0 n a' w') ∨ (ex = .normal ∧ ∃ m', n - m' < n - m ∧ NvAt R0 n Kp μ0 m' a' w')) a w := by
  obtain ⟨hle, R, μ, r0, r1, r2, rv, hA, hst⟩ := h
  have hd : ∀ x ∈ nvN, ∃ bk, μ x = some bk := fun x hx => by rw [hst x hx]; exact h0 x hx
  by_cases hlt : m < n
  · -- one step more
    have hold : @Holds R tkGo := by
      refine @holds_cons R _ _ ?_ (@holds_cons R _ _ ?_ (@holds_cons R _ _ ?_ (@holds_cons R _ _ ?_ (@holds_nil R))))
      · exact @take_gt R (.var 0) 0 true (by show R.n 0 % 18446744073709551616 < _; omega) (by omega) (by show true = decide (0 < R.n 0 % 18446744073709551616); rw [decide_eq_true]; omega)
      · exact @take_lim R (.var 1) (by show R.n 1 % 18446744073709551616 < _; omega)
      · exact @take_lim R (.op 0 7 (.var 1) (.lit 1)) (by show (R.n 1 % 18446744073709551616 + 1 % 18446744073709551616) % 18446744073709551616 < _; omega)
      · exact @take_gt R (.op 0 7 (.var 1) (.lit 1)) 1000000 false (by show (R.n 1 % 18446744073709551616 + 1 % 18446744073709551616) % 18446744073709551616 < _; omega) (by omega) (by show false = decide (1000000 < (R.n 1 % 18446744073709551616 + 1 % 18446744073709551616) % 18446744073709551616); rw [decide_eq_false]; omega)
    have hP := @progOk R _ hold
    have hS := @hnA_ok R _ hold [] (@LOk.nil R)
    have fin : ∀ {ps : List (Nm × Nm)} {T : List (Nm × Blk)}, (nvN.all fun n => (lk ps n).any fun m => Nm.beq m n) = true → T = nvT (m + 1) → ∀ a' w', @Ends R goE ps sGo pat3 T c40 Kp μ a' w' → (Exit.normal = .exit 0 ∧ NvAt R0 n Kp μ0 n a' w') ∨ (Exit.normal = .normal ∧ ∃ m', n - m' < n - m ∧ NvAt R0 n Kp μ0 m' a' w') := by
      intro ps T hps hT a' w' he
      obtain ⟨μ2, q1, q2⟩ := Ends.next hN he (Rho.Same.rfl' _) nvN hps hd
      refine .inr ⟨rfl, m + 1, by omega, ⟨by omega, @Rho.sub R sGo, μ2, ?_, ?_, fun i hi => ?_, rv, by rw [← hT]; exact q1, fun x hx => (q2 x hx).trans (hst x hx)⟩⟩
      · show (R.n 0 % 18446744073709551616 + (18446744073709551616 - 1 % 18446744073709551616)) % 18446744073709551616 = _
        omega
      · show (R.n 1 % 18446744073709551616 + 1 % 18446744073709551616) % 18446744073709551616 = _
        omega
      · rw [← r2 i hi]
        obtain ⟨i, rfl⟩ : ∃ j, i = j + 2 := ⟨i - 2, by omega⟩
        rfl
    by_cases hm0 : m = 0
    · subst hm0
      rw [show nvT 0 = nvA2 from rfl] at hA
      exact @fragN_ok Tryz.prog _ 1 goE Tryz.f14 psAB sGo R hP _ hS goE_ok goB _ lt512 _ _ _ _ _ go_nvA2 Kp hN μ a w hA _ (fin stay_psAB rfl)
    · rcases Nat.mod_two_eq_zero_or_one m with he | ho
      · rw [show nvT m = nvC by unfold nvT; rw [if_neg hm0, if_neg (by omega)]] at hA
        exact @fragN_ok Tryz.prog _ 1 goE Tryz.f14 psCB sGo R hP _ hS goE_ok goB _ lt512 _ _ _ _ _ go_nvC Kp hN μ a w hA _ (fin stay_psCB (by unfold nvT; rw [if_neg (by omega), if_pos (by omega)]))
      · rw [show nvT m = nvB by unfold nvT; rw [if_neg hm0, if_pos ho]] at hA
        exact @fragN_ok Tryz.prog _ 1 goE Tryz.f14 psBC sGo R hP _ hS goE_ok goB _ lt512 _ _ _ _ _ go_nvB Kp hN μ a w hA _ (fin stay_psBC (by unfold nvT; rw [if_neg (by omega), if_neg (by omega)]))
  · -- it has gone all
    have hmn : m = n := by omega
    subst hmn
    have hold : @Holds R tkNo := by
      refine @holds_cons R _ _ ?_ (@holds_nil R)
      exact @take_gt R (.var 0) 0 false (by show R.n 0 % 18446744073709551616 < _; omega) (by omega) (by show false = decide (0 < R.n 0 % 18446744073709551616); rw [decide_eq_false]; omega)
    have hP := @progOk R _ hold
    have hS := @hnA_ok R _ hold [] (@LOk.nil R)
    have fin : ∀ {ps : List (Nm × Nm)}, (nvN.all fun n => (lk ps n).any fun m => Nm.beq m n) = true → ∀ a' w', @Ends R goE ps [] pat3 (nvT m) c40 Kp μ a' w' → (Exit.exit 0 = .exit 0 ∧ NvAt R0 m Kp μ0 m a' w') ∨ (Exit.exit 0 = .normal ∧ ∃ m', m - m' < m - m ∧ NvAt R0 m Kp μ0 m' a' w') := by
      intro ps hps a' w' he
      obtain ⟨μ2, q1, q2⟩ := Ends.next hN he (sub_nil R) nvN hps hd
      exact .inl ⟨rfl, ⟨Nat.le_refl _, R, μ2, r0, r1, r2, rv, q1, fun x hx => (q2 x hx).trans (hst x hx)⟩⟩
    by_cases hm0 : m = 0
    · subst hm0
      rw [show nvT 0 = nvA2 from rfl] at hA fin
      exact @fragX_ok Tryz.prog _ 1 goE Tryz.f14 psI2 [] R hP _ hS goE_ok goB _ lt512 _ _ _ _ _ _ no_nvA2 Kp hN μ a w hA _ (fin stay_psI2)
    · rcases Nat.mod_two_eq_zero_or_one m with he | ho
      · have e : nvT m = nvC := by unfold nvT; rw [if_neg hm0, if_neg (by omega)]
        rw [e] at hA fin
        exact @fragX_ok Tryz.prog _ 1 goE Tryz.f14 psC [] R hP _ hS goE_ok goB _ lt512 _ _ _ _ _ _ no_nvC Kp hN μ a w hA _ (fin stay_psC)
      · have e : nvT m = nvB := by unfold nvT; rw [if_neg hm0, if_pos ho]
        rw [e] at hA fin
        exact @fragX_ok Tryz.prog _ 1 goE Tryz.f14 psB [] R hP _ hS goE_ok goB _ lt512 _ _ _ _ _ _ no_nvB Kp hN μ a w hA _ (fin stay_psB)
/-- Go's contract: from the machine that was begun, so many steps. -/
theorem nv_go [R : Rho] {n : Nat} (hn : n < 2000) (h0 : R.n 0 % 18446744073709551616 = n) (h1 : R.n 1 % 18446744073709551616 = 0) : Ctr Tryz.prog 14 [avP, avN] nvA c40 vMore (nvF n) c40 := by
  intro Kp μ w args hN hr hv
  have hd : ∀ x ∈ nvN, ∃ bk, μ x = some bk := fun x hx => by
    obtain ⟨y, hy, e⟩ := List.any_eq_true.1 (List.all_eq_true.1 has_nvA x hx)
    have e : y.1 = x := nm_beq.1 e
    rw [← e]
    exact hr.names good_nvA (b := y.2) hy
  have hst : ∀ x b, (x, b) ∈ nvA → x ∈ nvN := fun x b hb => by
    obtain ⟨y, hy, e⟩ := List.any_eq_true.1 (List.all_eq_true.1 names_nvA _ hb)
    have e : y = x := nm_beq.1 e
    rw [← e]; exact hy
  have hP := progOk (tk := []) holds_nil
  have hS := hnA_ok (tk := []) holds_nil (L := []) LOk.nil
  refine calls_of_wp Tryz.func14 go_eq (wp_seq ?_)
  have hA := at_start (E := goE) (fn := Tryz.f14) (by show (53 : Nat) ≤ 53; omega) hr hv
  refine fragN_ok (fn := Tryz.f14) hP hS goE_ok lt512' nv_c0 hN hA fun a1 w1 he1 => ?_
  obtain ⟨μ1, hA1, hs1⟩ := Ends.next hN he1 (sub_nil R) nvN stay_psA2 hd
  have hd1 : ∀ x ∈ nvN, ∃ bk, μ1 x = some bk := fun x hx => by rw [hs1 x hx]; exact hd x hx
  refine wp_seq ?_
  refine fragN_ok (fn := Tryz.f14) hP hS goE_ok lt512 nv_c1 hN hA1 fun a2 w2 he2 => ?_
  obtain ⟨μ2, hA2, hs2⟩ := Ends.next hN he2 (sub_nil R) nvN stay_psI2 hd1
  have start : NvAt R n Kp μ 0 a2 w2 := ⟨Nat.zero_le _, R, μ2, h0, h1, fun _ _ => rfl, rfl, hA2, fun x hx => (hs2 x hx).trans (hs1 x hx)⟩
  refine wp_seq (wp_mono (loop_meas (fun m => n - m) (NvAt R n Kp μ) (NvAt R n Kp μ n) (fun m a w h => nv_body hn hN hd m a w h) 0 a2 w2 start) fun ex a3 w3 hq => ?_)
  obtain ⟨rfl, ⟨_, R3, μ3, q0, q1, q2, qv, hA3, hs3⟩⟩ := hq
  have hd3 : ∀ x ∈ nvN, ∃ bk, μ3 x = some bk := fun x hx => by rw [hs3 x hx]; exact hd x hx
  have same : Rho.Same (@Rho.sub R3 s9) R := by
    refine ⟨fun i => ?_, qv⟩
    rcases i with _ | _ | i
    · show R3.n 1 % 18446744073709551616 = R.n 0 % 18446744073709551616
      omega
    · show 0 % 18446744073709551616 = R.n 1 % 18446744073709551616
      omega
    · show R3.n (i + 2) % 18446744073709551616 = R.n (i + 2) % 18446744073709551616
      rw [q2 (i + 2) (by omega)]
  have hP3 := @progOk R3 [] (@holds_nil R3)
  have hS3 := @hnA_ok R3 [] (@holds_nil R3) [] (@LOk.nil R3)
  have fin : ∀ {ps : List (Nm × Nm)} {T : List (Nm × Blk)}, (nvN.all fun n => (lk ps n).any fun m => Nm.beq m n) = true → namesT T ps = true → T = nvF n →
      ∀ a' w' v' μ', Ext μ3 μ' → a'.defers = [] → (results Tryz.f14 a'.tmps).run Tryz.prog w' = .ok v' w' → @VR (@Rho.sub R3 s9) (mpS ps μ') vMore v' → @MR (@Rho.sub R3 s9) Kp (mpS ps μ') (hpT T c40) w' →
      bodyPost Tryz.prog Tryz.f14 (fun e w' => ∃ μ' v', e = .returned v' ∧ @VR R μ' vMore v' ∧ @MR R Kp μ' (hpT (nvF n) c40) w' ∧ (∀ x b b', (x, b) ∈ nvA → (x, b') ∈ nvF n → μ' x = μ x) ∧ ∀ x bk, μ' x = some bk → ∃ b, (x, b) ∈ nvF n) .ret a' w' := by
    intro ps T hps hnm hT a' w' v' μ' hx hdf hres hv2 hr2
    subst hT
    refine ⟨hdf, v', hres, mpS ps μ', v', rfl, hv2.cong same, back_to same hN hr2, fun x b b' hb _ => ?_, fun x bk hb => mpS_dom hnm hb⟩
    rw [mpS_stay hx hps hd3 x (hst x b hb)]
    exact hs3 x (hst x b hb)
  by_cases hm0 : n = 0
  · subst hm0
    rw [show nvT 0 = nvA2 from rfl] at hA3
    exact @fragR_ok Tryz.prog _ 1 goE Tryz.f14 psFA s9 R3 hP3 _ hS3 goE_ok go9 _ lt512 _ _ _ _ _ re_nvA2 Kp hN μ3 a3 w3 hA3 _ (fin stay_psFA names_nvFA rfl)
  · rcases Nat.mod_two_eq_zero_or_one n with he | ho
    · rw [show nvT n = nvC by unfold nvT; rw [if_neg hm0, if_neg (by omega)]] at hA3
      exact @fragR_ok Tryz.prog _ 1 goE Tryz.f14 psFB s9 R3 hP3 _ hS3 goE_ok go9 _ lt512 _ _ _ _ _ re_nvC Kp hN μ3 a3 w3 hA3 _ (fin stay_psFB names_nvFC (by unfold nvF; rw [if_neg hm0, if_neg (by omega)]))
    · rw [show nvT n = nvB by unfold nvT; rw [if_neg hm0, if_pos ho]] at hA3
      exact @fragR_ok Tryz.prog _ 1 goE Tryz.f14 psFB s9 R3 hP3 _ hS3 goE_ok go9 _ lt512 _ _ _ _ _ re_nvB Kp hN μ3 a3 w3 hA3 _ (fin stay_psFB names_nvFB (by unfold nvF; rw [if_neg hm0, if_pos ho]))
end
end Go.Proofs.YteefpemaeecicaaGreatDoor.Ev
