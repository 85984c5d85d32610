/-
  NARROWER THAN 'FOR EVERY INPUT', by the rows' own cells (each row's printed sentence says how): IntsAll: laid · IntsEach: laid · IntsWrap: laid · IntsLaws: laid · IntsOrder: laid · IntsRest: laid · IntsMasks: laid · IntsOnes: laid · IntsUnsigned: laid · IntsBits: laid · IntsWide: laid.
  DERIVED. THE GIVEN ROWS OF THIS SEAT. 11 by the template 'for every input the law returns true; each argument reads behind the call as it read before'; 0 by the template 'total and deterministic' (their statements: YtdcpbjpghgbbiaaDoorTotals.lean).
  GIVEN WITH THE SEED: the statements are not yours to turn. If you find one false, say at which input.
  Laid BY PROGRAM, IN A SANDBOX (cutbox-rows.mjs): the forced cells as the released guide's own fill.sh prints them over the translation 32b6a8f594f362fb… (all of the seat's roots in one cut). By AI agents, Wed Nov 11 2026. No macro, syntax, notation, axiom, sorry.
-/
import Derived.Test.YtdcpbjpghgbbiaaDoorChecked
import GoSem.Claim
import GoSem.ClaimJoined
import GoSem.ClaimMapViews
import Derived.JoinedTies
import Derived.KernelRfl
namespace Go.Proofs.YtdcpbjpghgbbiaaDoor
/- THE CELL 'sum', in the pinned program and in every row, IS THE sha256 OF THE DUMP (.gsa) THAT YtdcpbjpghgbbiaaDoorProg.lean LOADS. Nothing in Lean hashes anything: it is a label: what it is worth is what the hold of that sum in a sandbox is worth. -/
noncomputable def Tryd.pinned : Pinned := { name := "ytdcpbjpghgbbiaadoor", sum := "32b6a8f594f362fb65a0d2288b76130c8dd69f57de086bb3db33268915f5a5ed", checked := Tryd.checked }
namespace Rows
def none {H : Type} : Left H := { results := [], args := [] }

/- WHAT THE LISTED PACKAGE-LEVEL VARIABLES READ AS WHEN THE CALL BEGINS. Each datum BY PROGRAM (the guide's laid-datum.mjs) off the statement by which the dump's own 'gosem.cut.vars' lays the variable. In a bare row this is a premise. The card (YtdcpbjpghgbbiaaDoorCards.lean) ties it to the program's text. -/
def laid_math_bits_deBruijn64tab {H : Type} : DataW H := .agg [.lit (.int .u8 0), .lit (.int .u8 1), .lit (.int .u8 56), .lit (.int .u8 2), .lit (.int .u8 57), .lit (.int .u8 49), .lit (.int .u8 28), .lit (.int .u8 3), .lit (.int .u8 61), .lit (.int .u8 58), .lit (.int .u8 42), .lit (.int .u8 50), .lit (.int .u8 38), .lit (.int .u8 29), .lit (.int .u8 17), .lit (.int .u8 4), .lit (.int .u8 62), .lit (.int .u8 47), .lit (.int .u8 59), .lit (.int .u8 36), .lit (.int .u8 45), .lit (.int .u8 43), .lit (.int .u8 51), .lit (.int .u8 22), .lit (.int .u8 53), .lit (.int .u8 39), .lit (.int .u8 33), .lit (.int .u8 30), .lit (.int .u8 24), .lit (.int .u8 18), .lit (.int .u8 12), .lit (.int .u8 5), .lit (.int .u8 63), .lit (.int .u8 55), .lit (.int .u8 48), .lit (.int .u8 27), .lit (.int .u8 60), .lit (.int .u8 41), .lit (.int .u8 37), .lit (.int .u8 16), .lit (.int .u8 46), .lit (.int .u8 35), .lit (.int .u8 44), .lit (.int .u8 21), .lit (.int .u8 52), .lit (.int .u8 32), .lit (.int .u8 23), .lit (.int .u8 11), .lit (.int .u8 54), .lit (.int .u8 26), .lit (.int .u8 40), .lit (.int .u8 15), .lit (.int .u8 34), .lit (.int .u8 20), .lit (.int .u8 31), .lit (.int .u8 10), .lit (.int .u8 25), .lit (.int .u8 14), .lit (.int .u8 19), .lit (.int .u8 9), .lit (.int .u8 13), .lit (.int .u8 8), .lit (.int .u8 7), .lit (.int .u8 6)]

/-- 'diapauselaw4.IntsAll': WHATEVER THE INPUT: true; the input reads as it did. -/
def intsAllSpec : ChangeSpec := { name := "intsAll", fn := fun _ => fun
  | [d1, d2, d3] => { results := [.lit (.bool true)], args := [d1, d2, d3] }
  | _ => none }
def intsAllRow : OpenClaim := { program := "ytdcpbjpghgbbiaadoor", sum := "32b6a8f594f362fb65a0d2288b76130c8dd69f57de086bb3db33268915f5a5ed", func := "diapause/diapauselaw4.IntsAll", spec := "intsAll", named := ["math/bits.deBruijn64tab"], apart := false, laid := [("math/bits.deBruijn64tab", laid_math_bits_deBruijn64tab)] }
def IntsAllSaid : Prop := intsAllRow.holds Tryd.pinned (OpenSpec.ofChange intsAllSpec)

/-- ITS FALSE NEIGHBOUR: 'it returns false'. Refute it at one input. -/
def intsAllWrong : ChangeSpec := { name := "intsAll", fn := fun _ => fun
  | [d1, d2, d3] => { results := [.lit (.bool false)], args := [d1, d2, d3] }
  | _ => none }
def IntsAllWrongFalsely : Prop := intsAllRow.holds Tryd.pinned (OpenSpec.ofChange intsAllWrong)

/-- 'diapauselaw4.IntsEach': WHATEVER THE INPUT: true; the input reads as it did. -/
def intsEachSpec : ChangeSpec := { name := "intsEach", fn := fun _ => fun
  | [d1, d2, d3] => { results := [.lit (.bool true)], args := [d1, d2, d3] }
  | _ => none }
def intsEachRow : OpenClaim := { program := "ytdcpbjpghgbbiaadoor", sum := "32b6a8f594f362fb65a0d2288b76130c8dd69f57de086bb3db33268915f5a5ed", func := "diapause/diapauselaw4.IntsEach", spec := "intsEach", named := ["math/bits.deBruijn64tab"], apart := false, laid := [("math/bits.deBruijn64tab", laid_math_bits_deBruijn64tab)] }
def IntsEachSaid : Prop := intsEachRow.holds Tryd.pinned (OpenSpec.ofChange intsEachSpec)

/-- ITS FALSE NEIGHBOUR: 'it returns false'. Refute it at one input. -/
def intsEachWrong : ChangeSpec := { name := "intsEach", fn := fun _ => fun
  | [d1, d2, d3] => { results := [.lit (.bool false)], args := [d1, d2, d3] }
  | _ => none }
def IntsEachWrongFalsely : Prop := intsEachRow.holds Tryd.pinned (OpenSpec.ofChange intsEachWrong)

/-- 'diapauselaw4.IntsWrap': WHATEVER THE INPUT: true; the input reads as it did. -/
def intsWrapSpec : ChangeSpec := { name := "intsWrap", fn := fun _ => fun
  | [d1, d2] => { results := [.lit (.bool true)], args := [d1, d2] }
  | _ => none }
def intsWrapRow : OpenClaim := { program := "ytdcpbjpghgbbiaadoor", sum := "32b6a8f594f362fb65a0d2288b76130c8dd69f57de086bb3db33268915f5a5ed", func := "diapause/diapauselaw4.IntsWrap", spec := "intsWrap", named := ["math/bits.deBruijn64tab"], apart := false, laid := [("math/bits.deBruijn64tab", laid_math_bits_deBruijn64tab)] }
def IntsWrapSaid : Prop := intsWrapRow.holds Tryd.pinned (OpenSpec.ofChange intsWrapSpec)

/-- ITS FALSE NEIGHBOUR: 'it returns false'. Refute it at one input. -/
def intsWrapWrong : ChangeSpec := { name := "intsWrap", fn := fun _ => fun
  | [d1, d2] => { results := [.lit (.bool false)], args := [d1, d2] }
  | _ => none }
def IntsWrapWrongFalsely : Prop := intsWrapRow.holds Tryd.pinned (OpenSpec.ofChange intsWrapWrong)

/-- 'diapauselaw4.IntsLaws': WHATEVER THE INPUT: true; the input reads as it did. -/
def intsLawsSpec : ChangeSpec := { name := "intsLaws", fn := fun _ => fun
  | [d1, d2, d3] => { results := [.lit (.bool true)], args := [d1, d2, d3] }
  | _ => none }
def intsLawsRow : OpenClaim := { program := "ytdcpbjpghgbbiaadoor", sum := "32b6a8f594f362fb65a0d2288b76130c8dd69f57de086bb3db33268915f5a5ed", func := "diapause/diapauselaw4.IntsLaws", spec := "intsLaws", named := ["math/bits.deBruijn64tab"], apart := false, laid := [("math/bits.deBruijn64tab", laid_math_bits_deBruijn64tab)] }
def IntsLawsSaid : Prop := intsLawsRow.holds Tryd.pinned (OpenSpec.ofChange intsLawsSpec)

/-- ITS FALSE NEIGHBOUR: 'it returns false'. Refute it at one input. -/
def intsLawsWrong : ChangeSpec := { name := "intsLaws", fn := fun _ => fun
  | [d1, d2, d3] => { results := [.lit (.bool false)], args := [d1, d2, d3] }
  | _ => none }
def IntsLawsWrongFalsely : Prop := intsLawsRow.holds Tryd.pinned (OpenSpec.ofChange intsLawsWrong)

/-- 'diapauselaw4.IntsOrder': WHATEVER THE INPUT: true; the input reads as it did. -/
def intsOrderSpec : ChangeSpec := { name := "intsOrder", fn := fun _ => fun
  | [d1, d2, d3] => { results := [.lit (.bool true)], args := [d1, d2, d3] }
  | _ => none }
def intsOrderRow : OpenClaim := { program := "ytdcpbjpghgbbiaadoor", sum := "32b6a8f594f362fb65a0d2288b76130c8dd69f57de086bb3db33268915f5a5ed", func := "diapause/diapauselaw4.IntsOrder", spec := "intsOrder", named := ["math/bits.deBruijn64tab"], apart := false, laid := [("math/bits.deBruijn64tab", laid_math_bits_deBruijn64tab)] }
def IntsOrderSaid : Prop := intsOrderRow.holds Tryd.pinned (OpenSpec.ofChange intsOrderSpec)

/-- ITS FALSE NEIGHBOUR: 'it returns false'. Refute it at one input. -/
def intsOrderWrong : ChangeSpec := { name := "intsOrder", fn := fun _ => fun
  | [d1, d2, d3] => { results := [.lit (.bool false)], args := [d1, d2, d3] }
  | _ => none }
def IntsOrderWrongFalsely : Prop := intsOrderRow.holds Tryd.pinned (OpenSpec.ofChange intsOrderWrong)

/-- 'diapauselaw4.IntsRest': WHATEVER THE INPUT: true; the input reads as it did. -/
def intsRestSpec : ChangeSpec := { name := "intsRest", fn := fun _ => fun
  | [d1, d2, d3] => { results := [.lit (.bool true)], args := [d1, d2, d3] }
  | _ => none }
def intsRestRow : OpenClaim := { program := "ytdcpbjpghgbbiaadoor", sum := "32b6a8f594f362fb65a0d2288b76130c8dd69f57de086bb3db33268915f5a5ed", func := "diapause/diapauselaw4.IntsRest", spec := "intsRest", named := ["math/bits.deBruijn64tab"], apart := false, laid := [("math/bits.deBruijn64tab", laid_math_bits_deBruijn64tab)] }
def IntsRestSaid : Prop := intsRestRow.holds Tryd.pinned (OpenSpec.ofChange intsRestSpec)

/-- ITS FALSE NEIGHBOUR: 'it returns false'. Refute it at one input. -/
def intsRestWrong : ChangeSpec := { name := "intsRest", fn := fun _ => fun
  | [d1, d2, d3] => { results := [.lit (.bool false)], args := [d1, d2, d3] }
  | _ => none }
def IntsRestWrongFalsely : Prop := intsRestRow.holds Tryd.pinned (OpenSpec.ofChange intsRestWrong)

/-- 'diapauselaw4.IntsMasks': WHATEVER THE INPUT: true; the input reads as it did. -/
def intsMasksSpec : ChangeSpec := { name := "intsMasks", fn := fun _ => fun
  | [d1, d2, d3] => { results := [.lit (.bool true)], args := [d1, d2, d3] }
  | _ => none }
def intsMasksRow : OpenClaim := { program := "ytdcpbjpghgbbiaadoor", sum := "32b6a8f594f362fb65a0d2288b76130c8dd69f57de086bb3db33268915f5a5ed", func := "diapause/diapauselaw4.IntsMasks", spec := "intsMasks", named := ["math/bits.deBruijn64tab"], apart := false, laid := [("math/bits.deBruijn64tab", laid_math_bits_deBruijn64tab)] }
def IntsMasksSaid : Prop := intsMasksRow.holds Tryd.pinned (OpenSpec.ofChange intsMasksSpec)

/-- ITS FALSE NEIGHBOUR: 'it returns false'. Refute it at one input. -/
def intsMasksWrong : ChangeSpec := { name := "intsMasks", fn := fun _ => fun
  | [d1, d2, d3] => { results := [.lit (.bool false)], args := [d1, d2, d3] }
  | _ => none }
def IntsMasksWrongFalsely : Prop := intsMasksRow.holds Tryd.pinned (OpenSpec.ofChange intsMasksWrong)

/-- 'diapauselaw4.IntsOnes': WHATEVER THE INPUT: true; the input reads as it did. -/
def intsOnesSpec : ChangeSpec := { name := "intsOnes", fn := fun _ => fun
  | [d1, d2] => { results := [.lit (.bool true)], args := [d1, d2] }
  | _ => none }
def intsOnesRow : OpenClaim := { program := "ytdcpbjpghgbbiaadoor", sum := "32b6a8f594f362fb65a0d2288b76130c8dd69f57de086bb3db33268915f5a5ed", func := "diapause/diapauselaw4.IntsOnes", spec := "intsOnes", named := ["math/bits.deBruijn64tab"], apart := false, laid := [("math/bits.deBruijn64tab", laid_math_bits_deBruijn64tab)] }
def IntsOnesSaid : Prop := intsOnesRow.holds Tryd.pinned (OpenSpec.ofChange intsOnesSpec)

/-- ITS FALSE NEIGHBOUR: 'it returns false'. Refute it at one input. -/
def intsOnesWrong : ChangeSpec := { name := "intsOnes", fn := fun _ => fun
  | [d1, d2] => { results := [.lit (.bool false)], args := [d1, d2] }
  | _ => none }
def IntsOnesWrongFalsely : Prop := intsOnesRow.holds Tryd.pinned (OpenSpec.ofChange intsOnesWrong)

/-- 'diapauselaw4.IntsUnsigned': WHATEVER THE INPUT: true; the input reads as it did. -/
def intsUnsignedSpec : ChangeSpec := { name := "intsUnsigned", fn := fun _ => fun
  | [d1, d2] => { results := [.lit (.bool true)], args := [d1, d2] }
  | _ => none }
def intsUnsignedRow : OpenClaim := { program := "ytdcpbjpghgbbiaadoor", sum := "32b6a8f594f362fb65a0d2288b76130c8dd69f57de086bb3db33268915f5a5ed", func := "diapause/diapauselaw4.IntsUnsigned", spec := "intsUnsigned", named := ["math/bits.deBruijn64tab"], apart := false, laid := [("math/bits.deBruijn64tab", laid_math_bits_deBruijn64tab)] }
def IntsUnsignedSaid : Prop := intsUnsignedRow.holds Tryd.pinned (OpenSpec.ofChange intsUnsignedSpec)

/-- ITS FALSE NEIGHBOUR: 'it returns false'. Refute it at one input. -/
def intsUnsignedWrong : ChangeSpec := { name := "intsUnsigned", fn := fun _ => fun
  | [d1, d2] => { results := [.lit (.bool false)], args := [d1, d2] }
  | _ => none }
def IntsUnsignedWrongFalsely : Prop := intsUnsignedRow.holds Tryd.pinned (OpenSpec.ofChange intsUnsignedWrong)

/-- 'diapauselaw4.IntsBits': WHATEVER THE INPUT: true; the input reads as it did. -/
def intsBitsSpec : ChangeSpec := { name := "intsBits", fn := fun _ => fun
  | [d1, d2, d3] => { results := [.lit (.bool true)], args := [d1, d2, d3] }
  | _ => none }
def intsBitsRow : OpenClaim := { program := "ytdcpbjpghgbbiaadoor", sum := "32b6a8f594f362fb65a0d2288b76130c8dd69f57de086bb3db33268915f5a5ed", func := "diapause/diapauselaw4.IntsBits", spec := "intsBits", named := ["math/bits.deBruijn64tab"], apart := false, laid := [("math/bits.deBruijn64tab", laid_math_bits_deBruijn64tab)] }
def IntsBitsSaid : Prop := intsBitsRow.holds Tryd.pinned (OpenSpec.ofChange intsBitsSpec)

/-- ITS FALSE NEIGHBOUR: 'it returns false'. Refute it at one input. -/
def intsBitsWrong : ChangeSpec := { name := "intsBits", fn := fun _ => fun
  | [d1, d2, d3] => { results := [.lit (.bool false)], args := [d1, d2, d3] }
  | _ => none }
def IntsBitsWrongFalsely : Prop := intsBitsRow.holds Tryd.pinned (OpenSpec.ofChange intsBitsWrong)

/-- 'diapauselaw4.IntsWide': WHATEVER THE INPUT: true; the input reads as it did. -/
def intsWideSpec : ChangeSpec := { name := "intsWide", fn := fun _ => fun
  | [d] => { results := [.lit (.bool true)], args := [d] }
  | _ => none }
def intsWideRow : OpenClaim := { program := "ytdcpbjpghgbbiaadoor", sum := "32b6a8f594f362fb65a0d2288b76130c8dd69f57de086bb3db33268915f5a5ed", func := "diapause/diapauselaw4.IntsWide", spec := "intsWide", named := ["math/bits.deBruijn64tab"], apart := false, laid := [("math/bits.deBruijn64tab", laid_math_bits_deBruijn64tab)] }
def IntsWideSaid : Prop := intsWideRow.holds Tryd.pinned (OpenSpec.ofChange intsWideSpec)

/-- ITS FALSE NEIGHBOUR: 'it returns false'. Refute it at one input. -/
def intsWideWrong : ChangeSpec := { name := "intsWide", fn := fun _ => fun
  | [d] => { results := [.lit (.bool false)], args := [d] }
  | _ => none }
def IntsWideWrongFalsely : Prop := intsWideRow.holds Tryd.pinned (OpenSpec.ofChange intsWideWrong)

/- THE SECOND FORM. 'bulk': how many values and letters a reading holds, each counted each time it is reached (what is shared counts as often as it is met; a slice's spare places count too). A statement '..UptoSaid' is the law's where the arguments, and the package variables that the reading takes, are together of bulk at most 1048576: NARROWER than '..Said'. Prove '..Said' where nothing that the law and all that it calls make is longer than what came in: it says more and counts as full. Else prove '..UptoSaid'. A law counts once. -/
mutual
def uptoBulk {H : Type} : DataW H → Nat
  | .lit (.string bytes) => bytes.length + 1
  | .lit _ => 1
  | .nil => 1
  | .ptr d => uptoBulk d + 1
  | .slice elems spare => uptoBulkAll elems + uptoBulkAll spare + 1
  | .agg parts => uptoBulkAll parts + 1
  | .iface _ d => uptoBulk d + 1
  | .map entries => uptoBulkEntries entries + 1
  | .held _ => 1
def uptoBulkAll {H : Type} : List (DataW H) → Nat
  | [] => 0
  | d :: r => uptoBulk d + uptoBulkAll r
def uptoBulkEntries {H : Type} : List (Lit × DataW H) → Nat
  | [] => 0
  | x :: r => uptoBulkEntry x + uptoBulkEntries r
def uptoBulkEntry {H : Type} : Lit × DataW H → Nat
  | (.string bytes, d) => bytes.length + uptoBulk d + 1
  | (_, d) => uptoBulk d + 1
 end
def uptoSmall : (H : Type) → List (DataW H) → Bool := fun _ ds => decide (uptoBulkAll ds ≤ 1048576)
def OpenSpec.upto (s : _root_.Go.ChangeSpec) : _root_.Go.OpenSpec := { _root_.Go.OpenSpec.ofChange s with cond := some uptoSmall }

/-- 'diapauselaw4.IntsAll', WHERE WHAT IT READS IS OF BULK AT MOST 1048576: true; the input reads as it did. -/
def intsAllUptoRow : OpenClaim := { program := "ytdcpbjpghgbbiaadoor", sum := "32b6a8f594f362fb65a0d2288b76130c8dd69f57de086bb3db33268915f5a5ed", func := "diapause/diapauselaw4.IntsAll", spec := "intsAll", named := ["math/bits.deBruijn64tab"], apart := false, laid := [("math/bits.deBruijn64tab", laid_math_bits_deBruijn64tab)], narrowed := true }
def IntsAllUptoSaid : Prop := intsAllUptoRow.holds Tryd.pinned (OpenSpec.upto intsAllSpec)

/-- 'diapauselaw4.IntsEach', WHERE WHAT IT READS IS OF BULK AT MOST 1048576: true; the input reads as it did. -/
def intsEachUptoRow : OpenClaim := { program := "ytdcpbjpghgbbiaadoor", sum := "32b6a8f594f362fb65a0d2288b76130c8dd69f57de086bb3db33268915f5a5ed", func := "diapause/diapauselaw4.IntsEach", spec := "intsEach", named := ["math/bits.deBruijn64tab"], apart := false, laid := [("math/bits.deBruijn64tab", laid_math_bits_deBruijn64tab)], narrowed := true }
def IntsEachUptoSaid : Prop := intsEachUptoRow.holds Tryd.pinned (OpenSpec.upto intsEachSpec)

/-- 'diapauselaw4.IntsWrap', WHERE WHAT IT READS IS OF BULK AT MOST 1048576: true; the input reads as it did. -/
def intsWrapUptoRow : OpenClaim := { program := "ytdcpbjpghgbbiaadoor", sum := "32b6a8f594f362fb65a0d2288b76130c8dd69f57de086bb3db33268915f5a5ed", func := "diapause/diapauselaw4.IntsWrap", spec := "intsWrap", named := ["math/bits.deBruijn64tab"], apart := false, laid := [("math/bits.deBruijn64tab", laid_math_bits_deBruijn64tab)], narrowed := true }
def IntsWrapUptoSaid : Prop := intsWrapUptoRow.holds Tryd.pinned (OpenSpec.upto intsWrapSpec)

/-- 'diapauselaw4.IntsLaws', WHERE WHAT IT READS IS OF BULK AT MOST 1048576: true; the input reads as it did. -/
def intsLawsUptoRow : OpenClaim := { program := "ytdcpbjpghgbbiaadoor", sum := "32b6a8f594f362fb65a0d2288b76130c8dd69f57de086bb3db33268915f5a5ed", func := "diapause/diapauselaw4.IntsLaws", spec := "intsLaws", named := ["math/bits.deBruijn64tab"], apart := false, laid := [("math/bits.deBruijn64tab", laid_math_bits_deBruijn64tab)], narrowed := true }
def IntsLawsUptoSaid : Prop := intsLawsUptoRow.holds Tryd.pinned (OpenSpec.upto intsLawsSpec)

/-- 'diapauselaw4.IntsOrder', WHERE WHAT IT READS IS OF BULK AT MOST 1048576: true; the input reads as it did. -/
def intsOrderUptoRow : OpenClaim := { program := "ytdcpbjpghgbbiaadoor", sum := "32b6a8f594f362fb65a0d2288b76130c8dd69f57de086bb3db33268915f5a5ed", func := "diapause/diapauselaw4.IntsOrder", spec := "intsOrder", named := ["math/bits.deBruijn64tab"], apart := false, laid := [("math/bits.deBruijn64tab", laid_math_bits_deBruijn64tab)], narrowed := true }
def IntsOrderUptoSaid : Prop := intsOrderUptoRow.holds Tryd.pinned (OpenSpec.upto intsOrderSpec)

/-- 'diapauselaw4.IntsRest', WHERE WHAT IT READS IS OF BULK AT MOST 1048576: true; the input reads as it did. -/
def intsRestUptoRow : OpenClaim := { program := "ytdcpbjpghgbbiaadoor", sum := "32b6a8f594f362fb65a0d2288b76130c8dd69f57de086bb3db33268915f5a5ed", func := "diapause/diapauselaw4.IntsRest", spec := "intsRest", named := ["math/bits.deBruijn64tab"], apart := false, laid := [("math/bits.deBruijn64tab", laid_math_bits_deBruijn64tab)], narrowed := true }
def IntsRestUptoSaid : Prop := intsRestUptoRow.holds Tryd.pinned (OpenSpec.upto intsRestSpec)

/-- 'diapauselaw4.IntsMasks', WHERE WHAT IT READS IS OF BULK AT MOST 1048576: true; the input reads as it did. -/
def intsMasksUptoRow : OpenClaim := { program := "ytdcpbjpghgbbiaadoor", sum := "32b6a8f594f362fb65a0d2288b76130c8dd69f57de086bb3db33268915f5a5ed", func := "diapause/diapauselaw4.IntsMasks", spec := "intsMasks", named := ["math/bits.deBruijn64tab"], apart := false, laid := [("math/bits.deBruijn64tab", laid_math_bits_deBruijn64tab)], narrowed := true }
def IntsMasksUptoSaid : Prop := intsMasksUptoRow.holds Tryd.pinned (OpenSpec.upto intsMasksSpec)

/-- 'diapauselaw4.IntsOnes', WHERE WHAT IT READS IS OF BULK AT MOST 1048576: true; the input reads as it did. -/
def intsOnesUptoRow : OpenClaim := { program := "ytdcpbjpghgbbiaadoor", sum := "32b6a8f594f362fb65a0d2288b76130c8dd69f57de086bb3db33268915f5a5ed", func := "diapause/diapauselaw4.IntsOnes", spec := "intsOnes", named := ["math/bits.deBruijn64tab"], apart := false, laid := [("math/bits.deBruijn64tab", laid_math_bits_deBruijn64tab)], narrowed := true }
def IntsOnesUptoSaid : Prop := intsOnesUptoRow.holds Tryd.pinned (OpenSpec.upto intsOnesSpec)

/-- 'diapauselaw4.IntsUnsigned', WHERE WHAT IT READS IS OF BULK AT MOST 1048576: true; the input reads as it did. -/
def intsUnsignedUptoRow : OpenClaim := { program := "ytdcpbjpghgbbiaadoor", sum := "32b6a8f594f362fb65a0d2288b76130c8dd69f57de086bb3db33268915f5a5ed", func := "diapause/diapauselaw4.IntsUnsigned", spec := "intsUnsigned", named := ["math/bits.deBruijn64tab"], apart := false, laid := [("math/bits.deBruijn64tab", laid_math_bits_deBruijn64tab)], narrowed := true }
def IntsUnsignedUptoSaid : Prop := intsUnsignedUptoRow.holds Tryd.pinned (OpenSpec.upto intsUnsignedSpec)

/-- 'diapauselaw4.IntsBits', WHERE WHAT IT READS IS OF BULK AT MOST 1048576: true; the input reads as it did. -/
def intsBitsUptoRow : OpenClaim := { program := "ytdcpbjpghgbbiaadoor", sum := "32b6a8f594f362fb65a0d2288b76130c8dd69f57de086bb3db33268915f5a5ed", func := "diapause/diapauselaw4.IntsBits", spec := "intsBits", named := ["math/bits.deBruijn64tab"], apart := false, laid := [("math/bits.deBruijn64tab", laid_math_bits_deBruijn64tab)], narrowed := true }
def IntsBitsUptoSaid : Prop := intsBitsUptoRow.holds Tryd.pinned (OpenSpec.upto intsBitsSpec)

/-- 'diapauselaw4.IntsWide', WHERE WHAT IT READS IS OF BULK AT MOST 1048576: true; the input reads as it did. -/
def intsWideUptoRow : OpenClaim := { program := "ytdcpbjpghgbbiaadoor", sum := "32b6a8f594f362fb65a0d2288b76130c8dd69f57de086bb3db33268915f5a5ed", func := "diapause/diapauselaw4.IntsWide", spec := "intsWide", named := ["math/bits.deBruijn64tab"], apart := false, laid := [("math/bits.deBruijn64tab", laid_math_bits_deBruijn64tab)], narrowed := true }
def IntsWideUptoSaid : Prop := intsWideUptoRow.holds Tryd.pinned (OpenSpec.upto intsWideSpec)

end Rows
end Go.Proofs.YtdcpbjpghgbbiaaDoor
