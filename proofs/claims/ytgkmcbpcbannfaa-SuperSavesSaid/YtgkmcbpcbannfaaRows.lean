/-
  No cell of these rows narrows 'for every input' (looked for: loops, veiled, ifaces, maps, wideKeys, modest, calm, conditions, laid).
  DERIVED. THE GIVEN ROWS OF THIS SEAT. 9 by the template 'for every input the law returns true; each argument reads behind the call as it read before'; 0 by the template 'total and deterministic' (their statements: YtgkmcbpcbannfaaTotals.lean).
  GIVEN WITH THE SEED: the statements are not yours to turn. If you find one false, say at which input.
  Laid BY PROGRAM, IN A SANDBOX (cutbox-rows.mjs): the forced cells as the released guide's own fill.sh prints them over the translation 45361557b24cc5af… (all of the seat's roots in one cut). By AI agents, Wed Nov 11 2026. No macro, syntax, notation, axiom, sorry.
-/
import Derived.Test.YtgkmcbpcbannfaaChecked
import GoSem.Claim
import GoSem.ClaimJoined
import GoSem.ClaimMapViews
import Derived.JoinedTies
import Derived.KernelRfl
namespace Go.Proofs.Ytgkmcbpcbannfaa
/- THE CELL 'sum', in the pinned program and in every row, IS THE sha256 OF THE DUMP (.gsa) THAT YtgkmcbpcbannfaaProg.lean LOADS. Nothing in Lean hashes anything: it is a label: what it is worth is what the hold of that sum in a sandbox is worth. -/
noncomputable def Try.pinned : Pinned := { name := "ytgkmcbpcbannfaa", sum := "45361557b24cc5afbafa6f6cc552bc94e52289f609d435c797a447ee71e24365", checked := Try.checked }
namespace Rows
def none {H : Type} : Left H := { results := [], args := [] }

/-- 'diapauselaw17.DevOwn': WHATEVER THE INPUT: true; the input reads as it did. -/
def devOwnSpec : ChangeSpec := { name := "devOwn", fn := fun _ => fun
  | [d] => { results := [.lit (.bool true)], args := [d] }
  | _ => none }
def devOwnRow : OpenClaim := { program := "ytgkmcbpcbannfaa", sum := "45361557b24cc5afbafa6f6cc552bc94e52289f609d435c797a447ee71e24365", func := "diapause/diapauselaw17.DevOwn", spec := "devOwn", apart := false }
def DevOwnSaid : Prop := devOwnRow.holds Try.pinned (OpenSpec.ofChange devOwnSpec)

/-- ITS FALSE NEIGHBOUR: 'it returns false'. Refute it at one input. -/
def devOwnWrong : ChangeSpec := { name := "devOwn", fn := fun _ => fun
  | [d] => { results := [.lit (.bool false)], args := [d] }
  | _ => none }
def DevOwnWrongFalsely : Prop := devOwnRow.holds Try.pinned (OpenSpec.ofChange devOwnWrong)

/-- 'diapauselaw17.DevNone': WHATEVER THE INPUT: true; the input reads as it did. -/
def devNoneSpec : ChangeSpec := { name := "devNone", fn := fun _ => fun
  | [] => { results := [.lit (.bool true)], args := [] }
  | _ => none }
def devNoneRow : OpenClaim := { program := "ytgkmcbpcbannfaa", sum := "45361557b24cc5afbafa6f6cc552bc94e52289f609d435c797a447ee71e24365", func := "diapause/diapauselaw17.DevNone", spec := "devNone", apart := false }
def DevNoneSaid : Prop := devNoneRow.holds Try.pinned (OpenSpec.ofChange devNoneSpec)

/-- ITS FALSE NEIGHBOUR: 'it returns false'. Refute it at one input. -/
def devNoneWrong : ChangeSpec := { name := "devNone", fn := fun _ => fun
  | [] => { results := [.lit (.bool false)], args := [] }
  | _ => none }
def DevNoneWrongFalsely : Prop := devNoneRow.holds Try.pinned (OpenSpec.ofChange devNoneWrong)

/-- 'diapauselaw17.DevTwice': WHATEVER THE INPUT: true; the input reads as it did. -/
def devTwiceSpec : ChangeSpec := { name := "devTwice", fn := fun _ => fun
  | [d1, d2, d3, d4] => { results := [.lit (.bool true)], args := [d1, d2, d3, d4] }
  | _ => none }
def devTwiceRow : OpenClaim := { program := "ytgkmcbpcbannfaa", sum := "45361557b24cc5afbafa6f6cc552bc94e52289f609d435c797a447ee71e24365", func := "diapause/diapauselaw17.DevTwice", spec := "devTwice", apart := false }
def DevTwiceSaid : Prop := devTwiceRow.holds Try.pinned (OpenSpec.ofChange devTwiceSpec)

/-- ITS FALSE NEIGHBOUR: 'it returns false'. Refute it at one input. -/
def devTwiceWrong : ChangeSpec := { name := "devTwice", fn := fun _ => fun
  | [d1, d2, d3, d4] => { results := [.lit (.bool false)], args := [d1, d2, d3, d4] }
  | _ => none }
def DevTwiceWrongFalsely : Prop := devTwiceRow.holds Try.pinned (OpenSpec.ofChange devTwiceWrong)

/-- 'diapauselaw17.DevFuse': WHATEVER THE INPUT: true; the input reads as it did. -/
def devFuseSpec : ChangeSpec := { name := "devFuse", fn := fun _ => fun
  | [d1, d2] => { results := [.lit (.bool true)], args := [d1, d2] }
  | _ => none }
def devFuseRow : OpenClaim := { program := "ytgkmcbpcbannfaa", sum := "45361557b24cc5afbafa6f6cc552bc94e52289f609d435c797a447ee71e24365", func := "diapause/diapauselaw17.DevFuse", spec := "devFuse", apart := false }
def DevFuseSaid : Prop := devFuseRow.holds Try.pinned (OpenSpec.ofChange devFuseSpec)

/-- ITS FALSE NEIGHBOUR: 'it returns false'. Refute it at one input. -/
def devFuseWrong : ChangeSpec := { name := "devFuse", fn := fun _ => fun
  | [d1, d2] => { results := [.lit (.bool false)], args := [d1, d2] }
  | _ => none }
def DevFuseWrongFalsely : Prop := devFuseRow.holds Try.pinned (OpenSpec.ofChange devFuseWrong)

/-- 'diapauselaw17.DevKeeps': WHATEVER THE INPUT: true; the input reads as it did. -/
def devKeepsSpec : ChangeSpec := { name := "devKeeps", fn := fun _ => fun
  | [d1, d2] => { results := [.lit (.bool true)], args := [d1, d2] }
  | _ => none }
def devKeepsRow : OpenClaim := { program := "ytgkmcbpcbannfaa", sum := "45361557b24cc5afbafa6f6cc552bc94e52289f609d435c797a447ee71e24365", func := "diapause/diapauselaw17.DevKeeps", spec := "devKeeps", apart := false }
def DevKeepsSaid : Prop := devKeepsRow.holds Try.pinned (OpenSpec.ofChange devKeepsSpec)

/-- ITS FALSE NEIGHBOUR: 'it returns false'. Refute it at one input. -/
def devKeepsWrong : ChangeSpec := { name := "devKeeps", fn := fun _ => fun
  | [d1, d2] => { results := [.lit (.bool false)], args := [d1, d2] }
  | _ => none }
def DevKeepsWrongFalsely : Prop := devKeepsRow.holds Try.pinned (OpenSpec.ofChange devKeepsWrong)

/-- 'diapauselaw18.SuperNone': WHATEVER THE INPUT: true; the input reads as it did. -/
def superNoneSpec : ChangeSpec := { name := "superNone", fn := fun _ => fun
  | [] => { results := [.lit (.bool true)], args := [] }
  | _ => none }
def superNoneRow : OpenClaim := { program := "ytgkmcbpcbannfaa", sum := "45361557b24cc5afbafa6f6cc552bc94e52289f609d435c797a447ee71e24365", func := "diapause/diapauselaw18.SuperNone", spec := "superNone", apart := false }
def SuperNoneSaid : Prop := superNoneRow.holds Try.pinned (OpenSpec.ofChange superNoneSpec)

/-- ITS FALSE NEIGHBOUR: 'it returns false'. Refute it at one input. -/
def superNoneWrong : ChangeSpec := { name := "superNone", fn := fun _ => fun
  | [] => { results := [.lit (.bool false)], args := [] }
  | _ => none }
def SuperNoneWrongFalsely : Prop := superNoneRow.holds Try.pinned (OpenSpec.ofChange superNoneWrong)

/-- 'diapauselaw18.SuperTwo': WHATEVER THE INPUT: true; the input reads as it did. -/
def superTwoSpec : ChangeSpec := { name := "superTwo", fn := fun _ => fun
  | [d1, d2, d3] => { results := [.lit (.bool true)], args := [d1, d2, d3] }
  | _ => none }
def superTwoRow : OpenClaim := { program := "ytgkmcbpcbannfaa", sum := "45361557b24cc5afbafa6f6cc552bc94e52289f609d435c797a447ee71e24365", func := "diapause/diapauselaw18.SuperTwo", spec := "superTwo", apart := false }
def SuperTwoSaid : Prop := superTwoRow.holds Try.pinned (OpenSpec.ofChange superTwoSpec)

/-- ITS FALSE NEIGHBOUR: 'it returns false'. Refute it at one input. -/
def superTwoWrong : ChangeSpec := { name := "superTwo", fn := fun _ => fun
  | [d1, d2, d3] => { results := [.lit (.bool false)], args := [d1, d2, d3] }
  | _ => none }
def SuperTwoWrongFalsely : Prop := superTwoRow.holds Try.pinned (OpenSpec.ofChange superTwoWrong)

/-- 'diapauselaw18.SuperCrash': WHATEVER THE INPUT: true; the input reads as it did. -/
def superCrashSpec : ChangeSpec := { name := "superCrash", fn := fun _ => fun
  | [d1, d2, d3, d4, d5] => { results := [.lit (.bool true)], args := [d1, d2, d3, d4, d5] }
  | _ => none }
def superCrashRow : OpenClaim := { program := "ytgkmcbpcbannfaa", sum := "45361557b24cc5afbafa6f6cc552bc94e52289f609d435c797a447ee71e24365", func := "diapause/diapauselaw18.SuperCrash", spec := "superCrash", apart := false }
def SuperCrashSaid : Prop := superCrashRow.holds Try.pinned (OpenSpec.ofChange superCrashSpec)

/-- ITS FALSE NEIGHBOUR: 'it returns false'. Refute it at one input. -/
def superCrashWrong : ChangeSpec := { name := "superCrash", fn := fun _ => fun
  | [d1, d2, d3, d4, d5] => { results := [.lit (.bool false)], args := [d1, d2, d3, d4, d5] }
  | _ => none }
def SuperCrashWrongFalsely : Prop := superCrashRow.holds Try.pinned (OpenSpec.ofChange superCrashWrong)

/-- 'diapauselaw18.SuperSaves': WHATEVER THE INPUT: true; the input reads as it did. -/
def superSavesSpec : ChangeSpec := { name := "superSaves", fn := fun _ => fun
  | [d1, d2, d3] => { results := [.lit (.bool true)], args := [d1, d2, d3] }
  | _ => none }
def superSavesRow : OpenClaim := { program := "ytgkmcbpcbannfaa", sum := "45361557b24cc5afbafa6f6cc552bc94e52289f609d435c797a447ee71e24365", func := "diapause/diapauselaw18.SuperSaves", spec := "superSaves", apart := false }
def SuperSavesSaid : Prop := superSavesRow.holds Try.pinned (OpenSpec.ofChange superSavesSpec)

/-- ITS FALSE NEIGHBOUR: 'it returns false'. Refute it at one input. -/
def superSavesWrong : ChangeSpec := { name := "superSaves", fn := fun _ => fun
  | [d1, d2, d3] => { results := [.lit (.bool false)], args := [d1, d2, d3] }
  | _ => none }
def SuperSavesWrongFalsely : Prop := superSavesRow.holds Try.pinned (OpenSpec.ofChange superSavesWrong)

/- THE SECOND FORM. 'bulk': how many values and letters a reading holds, each counted each time it is reached (what is shared counts as often as it is met; a slice's spare places count too). A statement '..UptoSaid' is the law's where the arguments, and the package variables that the reading takes, are together of bulk at most 1048576: NARROWER than '..Said'. Prove '..Said' where nothing that the law and all that it calls make is longer than what came in: it says more and counts as full. Else prove '..UptoSaid'. A law counts once. -/
mutual
def uptoBulk {H : Type} : DataW H → Nat
  | .lit (.string bytes) => bytes.length + 1
  | .lit _ => 1
  | .nil => 1
  | .ptr d => uptoBulk d + 1
  | .slice elems spare => uptoBulkAll elems + uptoBulkAll spare + 1
  | .agg parts => uptoBulkAll parts + 1
  | .iface _ d => uptoBulk d + 1
  | .map entries => uptoBulkEntries entries + 1
  | .held _ => 1
def uptoBulkAll {H : Type} : List (DataW H) → Nat
  | [] => 0
  | d :: r => uptoBulk d + uptoBulkAll r
def uptoBulkEntries {H : Type} : List (Lit × DataW H) → Nat
  | [] => 0
  | x :: r => uptoBulkEntry x + uptoBulkEntries r
def uptoBulkEntry {H : Type} : Lit × DataW H → Nat
  | (.string bytes, d) => bytes.length + uptoBulk d + 1
  | (_, d) => uptoBulk d + 1
 end
def uptoSmall : (H : Type) → List (DataW H) → Bool := fun _ ds => decide (uptoBulkAll ds ≤ 1048576)
def OpenSpec.upto (s : _root_.Go.ChangeSpec) : _root_.Go.OpenSpec := { _root_.Go.OpenSpec.ofChange s with cond := some uptoSmall }

/-- 'diapauselaw17.DevOwn', WHERE WHAT IT READS IS OF BULK AT MOST 1048576: true; the input reads as it did. -/
def devOwnUptoRow : OpenClaim := { program := "ytgkmcbpcbannfaa", sum := "45361557b24cc5afbafa6f6cc552bc94e52289f609d435c797a447ee71e24365", func := "diapause/diapauselaw17.DevOwn", spec := "devOwn", apart := false, narrowed := true }
def DevOwnUptoSaid : Prop := devOwnUptoRow.holds Try.pinned (OpenSpec.upto devOwnSpec)

/-- 'diapauselaw17.DevNone', WHERE WHAT IT READS IS OF BULK AT MOST 1048576: true; the input reads as it did. -/
def devNoneUptoRow : OpenClaim := { program := "ytgkmcbpcbannfaa", sum := "45361557b24cc5afbafa6f6cc552bc94e52289f609d435c797a447ee71e24365", func := "diapause/diapauselaw17.DevNone", spec := "devNone", apart := false, narrowed := true }
def DevNoneUptoSaid : Prop := devNoneUptoRow.holds Try.pinned (OpenSpec.upto devNoneSpec)

/-- 'diapauselaw17.DevTwice', WHERE WHAT IT READS IS OF BULK AT MOST 1048576: true; the input reads as it did. -/
def devTwiceUptoRow : OpenClaim := { program := "ytgkmcbpcbannfaa", sum := "45361557b24cc5afbafa6f6cc552bc94e52289f609d435c797a447ee71e24365", func := "diapause/diapauselaw17.DevTwice", spec := "devTwice", apart := false, narrowed := true }
def DevTwiceUptoSaid : Prop := devTwiceUptoRow.holds Try.pinned (OpenSpec.upto devTwiceSpec)

/-- 'diapauselaw17.DevFuse', WHERE WHAT IT READS IS OF BULK AT MOST 1048576: true; the input reads as it did. -/
def devFuseUptoRow : OpenClaim := { program := "ytgkmcbpcbannfaa", sum := "45361557b24cc5afbafa6f6cc552bc94e52289f609d435c797a447ee71e24365", func := "diapause/diapauselaw17.DevFuse", spec := "devFuse", apart := false, narrowed := true }
def DevFuseUptoSaid : Prop := devFuseUptoRow.holds Try.pinned (OpenSpec.upto devFuseSpec)

/-- 'diapauselaw17.DevKeeps', WHERE WHAT IT READS IS OF BULK AT MOST 1048576: true; the input reads as it did. -/
def devKeepsUptoRow : OpenClaim := { program := "ytgkmcbpcbannfaa", sum := "45361557b24cc5afbafa6f6cc552bc94e52289f609d435c797a447ee71e24365", func := "diapause/diapauselaw17.DevKeeps", spec := "devKeeps", apart := false, narrowed := true }
def DevKeepsUptoSaid : Prop := devKeepsUptoRow.holds Try.pinned (OpenSpec.upto devKeepsSpec)

/-- 'diapauselaw18.SuperNone', WHERE WHAT IT READS IS OF BULK AT MOST 1048576: true; the input reads as it did. -/
def superNoneUptoRow : OpenClaim := { program := "ytgkmcbpcbannfaa", sum := "45361557b24cc5afbafa6f6cc552bc94e52289f609d435c797a447ee71e24365", func := "diapause/diapauselaw18.SuperNone", spec := "superNone", apart := false, narrowed := true }
def SuperNoneUptoSaid : Prop := superNoneUptoRow.holds Try.pinned (OpenSpec.upto superNoneSpec)

/-- 'diapauselaw18.SuperTwo', WHERE WHAT IT READS IS OF BULK AT MOST 1048576: true; the input reads as it did. -/
def superTwoUptoRow : OpenClaim := { program := "ytgkmcbpcbannfaa", sum := "45361557b24cc5afbafa6f6cc552bc94e52289f609d435c797a447ee71e24365", func := "diapause/diapauselaw18.SuperTwo", spec := "superTwo", apart := false, narrowed := true }
def SuperTwoUptoSaid : Prop := superTwoUptoRow.holds Try.pinned (OpenSpec.upto superTwoSpec)

/-- 'diapauselaw18.SuperCrash', WHERE WHAT IT READS IS OF BULK AT MOST 1048576: true; the input reads as it did. -/
def superCrashUptoRow : OpenClaim := { program := "ytgkmcbpcbannfaa", sum := "45361557b24cc5afbafa6f6cc552bc94e52289f609d435c797a447ee71e24365", func := "diapause/diapauselaw18.SuperCrash", spec := "superCrash", apart := false, narrowed := true }
def SuperCrashUptoSaid : Prop := superCrashUptoRow.holds Try.pinned (OpenSpec.upto superCrashSpec)

/-- 'diapauselaw18.SuperSaves', WHERE WHAT IT READS IS OF BULK AT MOST 1048576: true; the input reads as it did. -/
def superSavesUptoRow : OpenClaim := { program := "ytgkmcbpcbannfaa", sum := "45361557b24cc5afbafa6f6cc552bc94e52289f609d435c797a447ee71e24365", func := "diapause/diapauselaw18.SuperSaves", spec := "superSaves", apart := false, narrowed := true }
def SuperSavesUptoSaid : Prop := superSavesUptoRow.holds Try.pinned (OpenSpec.upto superSavesSpec)

end Rows
end Go.Proofs.Ytgkmcbpcbannfaa
