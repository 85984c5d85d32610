/- The module with a global of any first value: templates. No condition. -/
import Derived.Test.YteefpemaeecicaaGreatDoorEwSeat
import Derived.Test.YteefpemaeecicaaGreatDoorEwWrap
import Derived.Test.YteefpemaeecicaaGreatDoorEwTmp
import Derived.KernelRfl
open Go Go.RowKit Go.Proofs
namespace Go.Proofs.YteefpemaeecicaaGreatDoor.Ev
set_option linter.unusedVariables false
set_option linter.unusedSimpArgs false
set_option linter.constructorNameAsVariable false
noncomputable section
def gbH (tk : List As) (L : List (Nat × Fc)) : H := callsN (runA tk L) 60
theorem gbH_ok [Rho] {tk : List As} (hA : Holds tk) {L : List (Nat × Fc)} (hL : LOk L) : HSound Tryz.prog (gbH tk L) := callsN_ok (runA_ok hA hL) 60
def gbE : Ex := .op 23 2 (.var 50) (.lit 0)
def gbA : List AV := [(.a2 14 ⟨⟨(.sl ⟨.d0, .d0, .d0⟩ 0 1 1), .sl0, (.sl ⟨.d0, .d0, .d1⟩ 0 1 1), (.b false), (.n 3 0), (.n 3 0), (.b true), (.n 3 2)⟩, ⟨(.n 3 5), (.sl ⟨.d0, .d0, .d2⟩ 0 1 1), (.sl ⟨.d0, .d0, .d3⟩ 0 1 1), .sl0, (.sl ⟨.d0, .d0, .d4⟩ 0 1 1), .sl0, .u, .u⟩, ⟨.u, .u, .u, .u, .u, .u, .u, .u⟩, ⟨.u, .u, .u, .u, .u, .u, .u, .u⟩, ⟨.u, .u, .u, .u, .u, .u, .u, .u⟩, ⟨.u, .u, .u, .u, .u, .u, .u, .u⟩, ⟨.u, .u, .u, .u, .u, .u, .u, .u⟩, ⟨.u, .u, .u, .u, .u, .u, .u, .u⟩⟩)]
def gbC : Nm := ⟨.d0, .d1, .d0⟩
def gbT0 : List (Nm × Blk) := [(⟨.d0, .d0, .d0⟩, (.cells 92 false 2 2 2 0 (.a1 2 ⟨(.sl ⟨.d0, .d0, .d5⟩ 0 1 1), (.sl ⟨.d0, .d0, .d6⟩ 0 1 1), .u, .u, .u, .u, .u, .u⟩))),
  (⟨.d0, .d0, .d1⟩, (.cells 3 false 1 1 0 0 (.n 3 0))),
  (⟨.d0, .d0, .d2⟩, (.cells 58 false 3 3 2 0 (.a1 3 ⟨(.b true), (.n 3 1), (.y 3 (.op 23 2 (.var 50) (.lit 0))), .u, .u, .u, .u, .u⟩))),
  (⟨.d0, .d0, .d3⟩, (.cells 94 false 2 2 2 0 (.a1 2 ⟨(.s [102]), (.n 3 0), .u, .u, .u, .u, .u, .u⟩))),
  (⟨.d0, .d0, .d4⟩, (.cells 68 false 2 2 2 0 (.a1 2 ⟨(.sl ⟨.d0, .d0, .d7⟩ 0 2 2), (.sl ⟨.d0, .d0, .d8⟩ 0 5 5), .u, .u, .u, .u, .u, .u⟩))),
  (⟨.d0, .d0, .d5⟩, (.cells 3 false 1 1 0 0 (.n 3 1))),
  (⟨.d0, .d0, .d6⟩, (.cells 3 false 1 1 0 0 (.n 3 1))),
  (⟨.d0, .d0, .d7⟩, (.cells 3 false 2 1 0 1 ⟨(.n 3 1), (.n 3 1), .u, .u, .u, .u, .u, .u⟩)),
  (⟨.d0, .d0, .d8⟩, (.cells 55 false 20 4 2 1 ⟨(.a1 4 ⟨(.n 3 35), (.n 3 0), (.n 3 0), .sl0, .u, .u, .u, .u⟩), (.a1 4 ⟨(.n 3 32), (.n 3 0), (.n 3 0), .sl0, .u, .u, .u, .u⟩), (.a1 4 ⟨(.n 3 106), (.n 3 0), (.n 3 0), .sl0, .u, .u, .u, .u⟩), (.a1 4 ⟨(.n 3 36), (.n 3 0), (.n 3 0), .sl0, .u, .u, .u, .u⟩), (.a1 4 ⟨(.n 3 35), (.n 3 0), (.n 3 0), .sl0, .u, .u, .u, .u⟩), .u, .u, .u⟩))]
def gbT1 : List (Nm × Blk) := [(⟨.d0, .d0, .d20⟩, (.cells 98 false 11 11 3 0 (.a2 11 ⟨⟨(.p ⟨.d0, .d0, .d21⟩ 0), .sl0, .sl0, (.n 3 18446744073709551615), (.n 3 0), (.n 3 0), (.n 3 0), .sl0⟩, ⟨(.c (0) (0)), (.n 3 0), (.c (0) (0)), .u, .u, .u, .u, .u⟩, ⟨.u, .u, .u, .u, .u, .u, .u, .u⟩, ⟨.u, .u, .u, .u, .u, .u, .u, .u⟩, ⟨.u, .u, .u, .u, .u, .u, .u, .u⟩, ⟨.u, .u, .u, .u, .u, .u, .u, .u⟩, ⟨.u, .u, .u, .u, .u, .u, .u, .u⟩, ⟨.u, .u, .u, .u, .u, .u, .u, .u⟩⟩))),
  (⟨.d0, .d0, .d21⟩, (.cells 122 false 17 17 3 0 (.a2 17 ⟨⟨(.so ⟨.d0, .d0, .d22⟩ 0 1), .sl0, (.so ⟨.d0, .d0, .d23⟩ 0 1), (.b false), (.n 3 0), (.n 3 0), (.b true), (.n 3 2)⟩, ⟨(.n 3 5), (.so ⟨.d0, .d0, .d24⟩ 0 1), (.so ⟨.d0, .d0, .d25⟩ 0 1), .sl0, (.so ⟨.d0, .d0, .d26⟩ 0 1), .sl0, (.p ⟨.d0, .d0, .d27⟩ 0), (.p ⟨.d0, .d0, .d28⟩ 0)⟩, ⟨(.so ⟨.d0, .d0, .d29⟩ 0 1), .u, .u, .u, .u, .u, .u, .u⟩, ⟨.u, .u, .u, .u, .u, .u, .u, .u⟩, ⟨.u, .u, .u, .u, .u, .u, .u, .u⟩, ⟨.u, .u, .u, .u, .u, .u, .u, .u⟩, ⟨.u, .u, .u, .u, .u, .u, .u, .u⟩, ⟨.u, .u, .u, .u, .u, .u, .u, .u⟩⟩))),
  (⟨.d0, .d0, .d22⟩, (.cells 92 true 2 2 2 0 (.a1 2 ⟨(.so ⟨.d0, .d0, .d30⟩ 0 1), (.so ⟨.d0, .d0, .d31⟩ 0 1), .u, .u, .u, .u, .u, .u⟩))),
  (⟨.d0, .d0, .d23⟩, (.cells 3 true 1 1 0 0 (.n 3 0))),
  (⟨.d0, .d0, .d24⟩, (.cells 58 true 3 3 2 0 (.a1 3 ⟨(.b true), (.n 3 1), .u, .u, .u, .u, .u, .u⟩))),
  (⟨.d0, .d0, .d25⟩, (.cells 94 true 2 2 2 0 (.a1 2 ⟨(.s [102]), (.n 3 0), .u, .u, .u, .u, .u, .u⟩))),
  (⟨.d0, .d0, .d26⟩, (.cells 68 true 2 2 2 0 (.a1 2 ⟨(.so ⟨.d0, .d0, .d32⟩ 0 2), (.so ⟨.d0, .d0, .d33⟩ 0 5), .u, .u, .u, .u, .u, .u⟩))),
  (⟨.d0, .d0, .d27⟩, (.cells 125 false 3 3 2 0 (.a1 3 ⟨(.sl ⟨.d0, .d0, .d34⟩ 0 512 512), (.n 3 5), .sl0, .u, .u, .u, .u, .u⟩))),
  (⟨.d0, .d0, .d28⟩, (.cells 183 false 2 2 2 0 (.a1 2 ⟨.sl0, (.so ⟨.d0, .d0, .d35⟩ 0 1), .u, .u, .u, .u, .u, .u⟩))),
  (⟨.d0, .d0, .d29⟩, (.cells 138 true 1 1 0 0 (.m ⟨.d0, .d0, .d36⟩))),
  (⟨.d0, .d0, .d30⟩, (.cells 3 true 1 1 0 0 (.n 3 1))),
  (⟨.d0, .d0, .d31⟩, (.cells 3 true 1 1 0 0 (.n 3 1))),
  (⟨.d0, .d0, .d32⟩, (.cells 3 true 2 1 0 1 ⟨(.n 3 1), (.n 3 1), .u, .u, .u, .u, .u, .u⟩)),
  (⟨.d0, .d0, .d33⟩, (.cells 55 true 20 4 2 1 ⟨(.a1 4 ⟨(.n 3 35), (.n 3 0), (.n 3 0), .sl0, .u, .u, .u, .u⟩), (.a1 4 ⟨(.n 3 32), (.n 3 0), (.n 3 0), .sl0, .u, .u, .u, .u⟩), (.a1 4 ⟨(.n 3 106), (.n 3 0), (.n 3 0), .sl0, .u, .u, .u, .u⟩), (.a1 4 ⟨(.n 3 36), (.n 3 0), (.n 3 0), .sl0, .u, .u, .u, .u⟩), (.a1 4 ⟨(.n 3 35), (.n 3 0), (.n 3 0), .sl0, .u, .u, .u, .u⟩), .u, .u, .u⟩)),
  (⟨.d0, .d0, .d34⟩, (.cells 5 false 512 1 0 3 (fillT (.n 4 0) 3))),
  (⟨.d0, .d0, .d35⟩, (.cells 45 true 2 2 2 0 (.a1 2 ⟨(.n 3 1), (.y 3 (.op 23 2 (.var 50) (.lit 0))), .u, .u, .u, .u, .u, .u⟩))),
  (⟨.d0, .d0, .d36⟩, (.mp []))]
def gbU : List AV := [(.p ⟨.d0, .d0, .d20⟩ 0), (.n 3 0)]
def gbV : AV := .tu gbU
def gbNews : List Nm := [⟨.d0, .d0, .d20⟩, ⟨.d0, .d0, .d21⟩, ⟨.d0, .d0, .d22⟩, ⟨.d0, .d0, .d23⟩, ⟨.d0, .d0, .d24⟩, ⟨.d0, .d0, .d25⟩, ⟨.d0, .d0, .d26⟩, ⟨.d0, .d0, .d27⟩, ⟨.d0, .d0, .d28⟩, ⟨.d0, .d0, .d29⟩, ⟨.d0, .d0, .d30⟩, ⟨.d0, .d0, .d31⟩, ⟨.d0, .d0, .d32⟩, ⟨.d0, .d0, .d33⟩, ⟨.d0, .d0, .d34⟩, ⟨.d0, .d0, .d35⟩, ⟨.d0, .d0, .d36⟩]
def gbP0 : List (Nm × Nm) := [(⟨.d0, .d0, .d0⟩, ⟨.d0, .d0, .d9⟩), (⟨.d0, .d0, .d1⟩, ⟨.d0, .d0, .d10⟩), (⟨.d0, .d0, .d2⟩, ⟨.d0, .d0, .d15⟩), (⟨.d0, .d0, .d3⟩, ⟨.d0, .d0, .d11⟩), (⟨.d0, .d0, .d4⟩, ⟨.d0, .d0, .d13⟩), (⟨.d0, .d0, .d5⟩, ⟨.d0, .d0, .d7⟩), (⟨.d0, .d0, .d6⟩, ⟨.d0, .d0, .d8⟩), (⟨.d0, .d0, .d7⟩, ⟨.d0, .d0, .d12⟩), (⟨.d0, .d0, .d8⟩, ⟨.d0, .d0, .d5⟩)]
def gbP1 : List (Nm × Nm) := [(⟨.d0, .d0, .d20⟩, ⟨.d0, .d27, .d14⟩), (⟨.d0, .d0, .d21⟩, ⟨.d0, .d7, .d8⟩), (⟨.d0, .d0, .d22⟩, ⟨.d0, .d15, .d31⟩), (⟨.d0, .d0, .d23⟩, ⟨.d0, .d16, .d0⟩), (⟨.d0, .d0, .d24⟩, ⟨.d0, .d16, .d32⟩), (⟨.d0, .d0, .d25⟩, ⟨.d0, .d17, .d7⟩), (⟨.d0, .d0, .d26⟩, ⟨.d0, .d18, .d33⟩), (⟨.d0, .d0, .d27⟩, ⟨.d0, .d26, .d39⟩), (⟨.d0, .d0, .d28⟩, ⟨.d0, .d27, .d1⟩), (⟨.d0, .d0, .d29⟩, ⟨.d0, .d27, .d13⟩), (⟨.d0, .d0, .d30⟩, ⟨.d0, .d15, .d25⟩), (⟨.d0, .d0, .d31⟩, ⟨.d0, .d15, .d29⟩), (⟨.d0, .d0, .d32⟩, ⟨.d0, .d17, .d22⟩), (⟨.d0, .d0, .d33⟩, ⟨.d0, .d18, .d22⟩), (⟨.d0, .d0, .d34⟩, ⟨.d0, .d26, .d38⟩), (⟨.d0, .d0, .d35⟩, ⟨.d0, .d27, .d4⟩), (⟨.d0, .d0, .d36⟩, ⟨.d0, .d27, .d11⟩)]
def gbP2 : List (Nm × Nm) := [(⟨.d0, .d0, .d20⟩, ⟨.d0, .d27, .d26⟩), (⟨.d0, .d0, .d21⟩, ⟨.d0, .d7, .d10⟩), (⟨.d0, .d0, .d22⟩, ⟨.d0, .d15, .d37⟩), (⟨.d0, .d0, .d23⟩, ⟨.d0, .d16, .d6⟩), (⟨.d0, .d0, .d24⟩, ⟨.d0, .d17, .d0⟩), (⟨.d0, .d0, .d25⟩, ⟨.d0, .d17, .d15⟩), (⟨.d0, .d0, .d26⟩, ⟨.d0, .d19, .d1⟩), (⟨.d0, .d0, .d27⟩, ⟨.d0, .d27, .d11⟩), (⟨.d0, .d0, .d28⟩, ⟨.d0, .d27, .d13⟩), (⟨.d0, .d0, .d29⟩, ⟨.d0, .d27, .d25⟩), (⟨.d0, .d0, .d30⟩, ⟨.d0, .d15, .d31⟩), (⟨.d0, .d0, .d31⟩, ⟨.d0, .d15, .d35⟩), (⟨.d0, .d0, .d32⟩, ⟨.d0, .d17, .d30⟩), (⟨.d0, .d0, .d33⟩, ⟨.d0, .d18, .d30⟩), (⟨.d0, .d0, .d34⟩, ⟨.d0, .d27, .d10⟩), (⟨.d0, .d0, .d35⟩, ⟨.d0, .d27, .d16⟩), (⟨.d0, .d0, .d36⟩, ⟨.d0, .d27, .d23⟩)]
def gbP3 : List (Nm × Nm) := [(⟨.d0, .d0, .d20⟩, ⟨.d0, .d27, .d38⟩), (⟨.d0, .d0, .d21⟩, ⟨.d0, .d7, .d12⟩), (⟨.d0, .d0, .d22⟩, ⟨.d0, .d16, .d3⟩), (⟨.d0, .d0, .d23⟩, ⟨.d0, .d16, .d12⟩), (⟨.d0, .d0, .d24⟩, ⟨.d0, .d17, .d8⟩), (⟨.d0, .d0, .d25⟩, ⟨.d0, .d17, .d23⟩), (⟨.d0, .d0, .d26⟩, ⟨.d0, .d19, .d9⟩), (⟨.d0, .d0, .d27⟩, ⟨.d0, .d27, .d23⟩), (⟨.d0, .d0, .d28⟩, ⟨.d0, .d27, .d25⟩), (⟨.d0, .d0, .d29⟩, ⟨.d0, .d27, .d37⟩), (⟨.d0, .d0, .d30⟩, ⟨.d0, .d15, .d37⟩), (⟨.d0, .d0, .d31⟩, ⟨.d0, .d16, .d1⟩), (⟨.d0, .d0, .d32⟩, ⟨.d0, .d17, .d38⟩), (⟨.d0, .d0, .d33⟩, ⟨.d0, .d18, .d38⟩), (⟨.d0, .d0, .d34⟩, ⟨.d0, .d27, .d22⟩), (⟨.d0, .d0, .d35⟩, ⟨.d0, .d27, .d28⟩), (⟨.d0, .d0, .d36⟩, ⟨.d0, .d27, .d35⟩)]
def gbP4 : List (Nm × Nm) := [(⟨.d0, .d0, .d20⟩, ⟨.d0, .d28, .d10⟩), (⟨.d0, .d0, .d21⟩, ⟨.d0, .d7, .d14⟩), (⟨.d0, .d0, .d22⟩, ⟨.d0, .d16, .d9⟩), (⟨.d0, .d0, .d23⟩, ⟨.d0, .d16, .d18⟩), (⟨.d0, .d0, .d24⟩, ⟨.d0, .d17, .d16⟩), (⟨.d0, .d0, .d25⟩, ⟨.d0, .d17, .d31⟩), (⟨.d0, .d0, .d26⟩, ⟨.d0, .d19, .d17⟩), (⟨.d0, .d0, .d27⟩, ⟨.d0, .d27, .d35⟩), (⟨.d0, .d0, .d28⟩, ⟨.d0, .d27, .d37⟩), (⟨.d0, .d0, .d29⟩, ⟨.d0, .d28, .d9⟩), (⟨.d0, .d0, .d30⟩, ⟨.d0, .d16, .d3⟩), (⟨.d0, .d0, .d31⟩, ⟨.d0, .d16, .d7⟩), (⟨.d0, .d0, .d32⟩, ⟨.d0, .d18, .d6⟩), (⟨.d0, .d0, .d33⟩, ⟨.d0, .d19, .d6⟩), (⟨.d0, .d0, .d34⟩, ⟨.d0, .d27, .d34⟩), (⟨.d0, .d0, .d35⟩, ⟨.d0, .d28, .d0⟩), (⟨.d0, .d0, .d36⟩, ⟨.d0, .d28, .d7⟩)]
def gbP5 : List (Nm × Nm) := [(⟨.d0, .d0, .d20⟩, ⟨.d0, .d28, .d22⟩), (⟨.d0, .d0, .d21⟩, ⟨.d0, .d7, .d16⟩), (⟨.d0, .d0, .d22⟩, ⟨.d0, .d16, .d15⟩), (⟨.d0, .d0, .d23⟩, ⟨.d0, .d16, .d24⟩), (⟨.d0, .d0, .d24⟩, ⟨.d0, .d17, .d24⟩), (⟨.d0, .d0, .d25⟩, ⟨.d0, .d17, .d39⟩), (⟨.d0, .d0, .d26⟩, ⟨.d0, .d19, .d25⟩), (⟨.d0, .d0, .d27⟩, ⟨.d0, .d28, .d7⟩), (⟨.d0, .d0, .d28⟩, ⟨.d0, .d28, .d9⟩), (⟨.d0, .d0, .d29⟩, ⟨.d0, .d28, .d21⟩), (⟨.d0, .d0, .d30⟩, ⟨.d0, .d16, .d9⟩), (⟨.d0, .d0, .d31⟩, ⟨.d0, .d16, .d13⟩), (⟨.d0, .d0, .d32⟩, ⟨.d0, .d18, .d14⟩), (⟨.d0, .d0, .d33⟩, ⟨.d0, .d19, .d14⟩), (⟨.d0, .d0, .d34⟩, ⟨.d0, .d28, .d6⟩), (⟨.d0, .d0, .d35⟩, ⟨.d0, .d28, .d12⟩), (⟨.d0, .d0, .d36⟩, ⟨.d0, .d28, .d19⟩)]
def gbK (tk : List As) (ps : List (Nm × Nm)) : Ans := (gbH tk []).run 12 gbA (hpT gbT0 gbC) (okMT gbU gbT1 gbC ps [])
theorem gb_disj : (gbT0.all fun x => gbT1.all fun y => !(Nm.beq x.1 y.1)) = true := by kernel_rfl
theorem gb_inc : incT gbC gbT1 0 = true := by kernel_rfl
theorem gb_news : newsB gbT0 gbT1 gbNews = true := by kernel_rfl
theorem gb_names1 : namesT gbT1 gbP1 = true := by kernel_rfl
theorem gb_names2 : namesT gbT1 gbP2 = true := by kernel_rfl
theorem gb_names3 : namesT gbT1 gbP3 = true := by kernel_rfl
theorem gb_names4 : namesT gbT1 gbP4 = true := by kernel_rfl
theorem gb_names5 : namesT gbT1 gbP5 = true := by kernel_rfl
/-- The law's calls: of so many numbers. -/
def gbNew : Fc := ctF gbA gbT0 gbC gbP0 [] gbV gbT1 gbNews
def gbO : List (Nat × Fc) := [(29, yesF), (19, wrapF), (12, gbNew)]
def gbVs : List Ex := [.var 0, .var 1, .var 2, .var 3, .var 4, .var 5, .var 6, .var 7, .var 8, .var 9, .var 10, .var 11, .var 12, .var 13, .var 14]
def gbArg (le : Ex) (n : Nat) : AV := .y 19 (.op 0 0 le (mkE (ltake gbVs n)))
def gbR (n : Nat) : Ans := (gbH [] gbO).run 4 [.y 2 (.var 50), gbArg (.lit n) n] hp0 okT
def gbTX : List As := [⟨2, 3, .lit 0, .var 100, true⟩, ⟨2, 3, .lit 1, .var 100, true⟩, ⟨2, 3, .lit 2, .var 100, true⟩, ⟨2, 3, .lit 3, .var 100, true⟩, ⟨2, 3, .lit 4, .var 100, true⟩, ⟨2, 3, .lit 5, .var 100, true⟩, ⟨2, 3, .lit 6, .var 100, true⟩, ⟨2, 3, .lit 7, .var 100, true⟩, ⟨2, 3, .lit 8, .var 100, true⟩, ⟨2, 3, .lit 9, .var 100, true⟩, ⟨2, 3, .lit 10, .var 100, true⟩, ⟨2, 3, .lit 11, .var 100, true⟩, ⟨2, 3, .lit 12, .var 100, true⟩, ⟨2, 3, .lit 13, .var 100, true⟩, ⟨2, 3, .lit 14, .var 100, true⟩, ⟨2, 3, .lit 15, .var 100, true⟩]
def gbRX : Ans := (gbH gbTX gbO).run 4 [.y 2 (.var 50), gbArg (.var 100) 15] hp0 okT
end
end Go.Proofs.YteefpemaeecicaaGreatDoor.Ev
