/-
  No cell of these rows narrows 'for every input' (looked for: loops, veiled, ifaces, maps, wideKeys, modest, calm, conditions, laid).
  DERIVED. THE GIVEN ROWS OF THIS SEAT. 5 by the template 'for every input the law returns true; each argument reads behind the call as it read before'; 0 by the template 'total and deterministic' (their statements: YtdnfncbinhbioaaTotals.lean).
  GIVEN WITH THE SEED: the statements are not yours to turn. If you find one false, say at which input.
  Laid BY PROGRAM, IN A SANDBOX (cutbox-rows.mjs): the forced cells as the released guide's own fill.sh prints them over the translation 5824bfc446d47939… (all of the seat's roots in one cut). By AI agents, Wed Nov 11 2026. No macro, syntax, notation, axiom, sorry.
-/
import Derived.Test.YtdnfncbinhbioaaChecked
import GoSem.Claim
import GoSem.ClaimJoined
import GoSem.ClaimMapViews
import Derived.JoinedTies
import Derived.KernelRfl
namespace Go.Proofs.Ytdnfncbinhbioaa
/- THE CELL 'sum', in the pinned program and in every row, IS THE sha256 OF THE DUMP (.gsa) THAT YtdnfncbinhbioaaProg.lean LOADS. Nothing in Lean hashes anything: it is a label: what it is worth is what the hold of that sum in a sandbox is worth. -/
noncomputable def Try.pinned : Pinned := { name := "ytdnfncbinhbioaa", sum := "5824bfc446d47939bcf0078e7f9283aa27c556d426d37dff558cee83bac75ba6", checked := Try.checked }
namespace Rows
def none {H : Type} : Left H := { results := [], args := [] }

/-- 'diapauselaw3.MeterAll': WHATEVER THE INPUT: true; the input reads as it did. -/
def meterAllSpec : ChangeSpec := { name := "meterAll", fn := fun _ => fun
  | [d1, d2, d3] => { results := [.lit (.bool true)], args := [d1, d2, d3] }
  | _ => none }
def meterAllRow : OpenClaim := { program := "ytdnfncbinhbioaa", sum := "5824bfc446d47939bcf0078e7f9283aa27c556d426d37dff558cee83bac75ba6", func := "diapause/diapauselaw3.MeterAll", spec := "meterAll", apart := false }
def MeterAllSaid : Prop := meterAllRow.holds Try.pinned (OpenSpec.ofChange meterAllSpec)

/-- ITS FALSE NEIGHBOUR: 'it returns false'. Refute it at one input. -/
def meterAllWrong : ChangeSpec := { name := "meterAll", fn := fun _ => fun
  | [d1, d2, d3] => { results := [.lit (.bool false)], args := [d1, d2, d3] }
  | _ => none }
def MeterAllWrongFalsely : Prop := meterAllRow.holds Try.pinned (OpenSpec.ofChange meterAllWrong)

/-- 'diapauselaw3.MeterTurn': WHATEVER THE INPUT: true; the input reads as it did. -/
def meterTurnSpec : ChangeSpec := { name := "meterTurn", fn := fun _ => fun
  | [d1, d2, d3, d4] => { results := [.lit (.bool true)], args := [d1, d2, d3, d4] }
  | _ => none }
def meterTurnRow : OpenClaim := { program := "ytdnfncbinhbioaa", sum := "5824bfc446d47939bcf0078e7f9283aa27c556d426d37dff558cee83bac75ba6", func := "diapause/diapauselaw3.MeterTurn", spec := "meterTurn", apart := false }
def MeterTurnSaid : Prop := meterTurnRow.holds Try.pinned (OpenSpec.ofChange meterTurnSpec)

/-- ITS FALSE NEIGHBOUR: 'it returns false'. Refute it at one input. -/
def meterTurnWrong : ChangeSpec := { name := "meterTurn", fn := fun _ => fun
  | [d1, d2, d3, d4] => { results := [.lit (.bool false)], args := [d1, d2, d3, d4] }
  | _ => none }
def MeterTurnWrongFalsely : Prop := meterTurnRow.holds Try.pinned (OpenSpec.ofChange meterTurnWrong)

/-- 'diapauselaw3.MeterMark': WHATEVER THE INPUT: true; the input reads as it did. -/
def meterMarkSpec : ChangeSpec := { name := "meterMark", fn := fun _ => fun
  | [d1, d2, d3, d4] => { results := [.lit (.bool true)], args := [d1, d2, d3, d4] }
  | _ => none }
def meterMarkRow : OpenClaim := { program := "ytdnfncbinhbioaa", sum := "5824bfc446d47939bcf0078e7f9283aa27c556d426d37dff558cee83bac75ba6", func := "diapause/diapauselaw3.MeterMark", spec := "meterMark", apart := false }
def MeterMarkSaid : Prop := meterMarkRow.holds Try.pinned (OpenSpec.ofChange meterMarkSpec)

/-- ITS FALSE NEIGHBOUR: 'it returns false'. Refute it at one input. -/
def meterMarkWrong : ChangeSpec := { name := "meterMark", fn := fun _ => fun
  | [d1, d2, d3, d4] => { results := [.lit (.bool false)], args := [d1, d2, d3, d4] }
  | _ => none }
def MeterMarkWrongFalsely : Prop := meterMarkRow.holds Try.pinned (OpenSpec.ofChange meterMarkWrong)

/-- 'diapauselaw3.MeterSums': WHATEVER THE INPUT: true; the input reads as it did. -/
def meterSumsSpec : ChangeSpec := { name := "meterSums", fn := fun _ => fun
  | [d1, d2, d3] => { results := [.lit (.bool true)], args := [d1, d2, d3] }
  | _ => none }
def meterSumsRow : OpenClaim := { program := "ytdnfncbinhbioaa", sum := "5824bfc446d47939bcf0078e7f9283aa27c556d426d37dff558cee83bac75ba6", func := "diapause/diapauselaw3.MeterSums", spec := "meterSums", apart := false }
def MeterSumsSaid : Prop := meterSumsRow.holds Try.pinned (OpenSpec.ofChange meterSumsSpec)

/-- ITS FALSE NEIGHBOUR: 'it returns false'. Refute it at one input. -/
def meterSumsWrong : ChangeSpec := { name := "meterSums", fn := fun _ => fun
  | [d1, d2, d3] => { results := [.lit (.bool false)], args := [d1, d2, d3] }
  | _ => none }
def MeterSumsWrongFalsely : Prop := meterSumsRow.holds Try.pinned (OpenSpec.ofChange meterSumsWrong)

/-- 'diapauselaw3.MeterApart': WHATEVER THE INPUT: true; the input reads as it did. -/
def meterApartSpec : ChangeSpec := { name := "meterApart", fn := fun _ => fun
  | [d1, d2, d3, d4, d5, d6] => { results := [.lit (.bool true)], args := [d1, d2, d3, d4, d5, d6] }
  | _ => none }
def meterApartRow : OpenClaim := { program := "ytdnfncbinhbioaa", sum := "5824bfc446d47939bcf0078e7f9283aa27c556d426d37dff558cee83bac75ba6", func := "diapause/diapauselaw3.MeterApart", spec := "meterApart", apart := false }
def MeterApartSaid : Prop := meterApartRow.holds Try.pinned (OpenSpec.ofChange meterApartSpec)

/-- ITS FALSE NEIGHBOUR: 'it returns false'. Refute it at one input. -/
def meterApartWrong : ChangeSpec := { name := "meterApart", fn := fun _ => fun
  | [d1, d2, d3, d4, d5, d6] => { results := [.lit (.bool false)], args := [d1, d2, d3, d4, d5, d6] }
  | _ => none }
def MeterApartWrongFalsely : Prop := meterApartRow.holds Try.pinned (OpenSpec.ofChange meterApartWrong)

/- THE SECOND FORM. 'bulk': how many values and letters a reading holds, each counted each time it is reached (what is shared counts as often as it is met; a slice's spare places count too). A statement '..UptoSaid' is the law's where the arguments, and the package variables that the reading takes, are together of bulk at most 1048576: NARROWER than '..Said'. Prove '..Said' where nothing that the law and all that it calls make is longer than what came in: it says more and counts as full. Else prove '..UptoSaid'. A law counts once. -/
mutual
def uptoBulk {H : Type} : DataW H → Nat
  | .lit (.string bytes) => bytes.length + 1
  | .lit _ => 1
  | .nil => 1
  | .ptr d => uptoBulk d + 1
  | .slice elems spare => uptoBulkAll elems + uptoBulkAll spare + 1
  | .agg parts => uptoBulkAll parts + 1
  | .iface _ d => uptoBulk d + 1
  | .map entries => uptoBulkEntries entries + 1
  | .held _ => 1
def uptoBulkAll {H : Type} : List (DataW H) → Nat
  | [] => 0
  | d :: r => uptoBulk d + uptoBulkAll r
def uptoBulkEntries {H : Type} : List (Lit × DataW H) → Nat
  | [] => 0
  | x :: r => uptoBulkEntry x + uptoBulkEntries r
def uptoBulkEntry {H : Type} : Lit × DataW H → Nat
  | (.string bytes, d) => bytes.length + uptoBulk d + 1
  | (_, d) => uptoBulk d + 1
 end
def uptoSmall : (H : Type) → List (DataW H) → Bool := fun _ ds => decide (uptoBulkAll ds ≤ 1048576)
def OpenSpec.upto (s : _root_.Go.ChangeSpec) : _root_.Go.OpenSpec := { _root_.Go.OpenSpec.ofChange s with cond := some uptoSmall }

/-- 'diapauselaw3.MeterAll', WHERE WHAT IT READS IS OF BULK AT MOST 1048576: true; the input reads as it did. -/
def meterAllUptoRow : OpenClaim := { program := "ytdnfncbinhbioaa", sum := "5824bfc446d47939bcf0078e7f9283aa27c556d426d37dff558cee83bac75ba6", func := "diapause/diapauselaw3.MeterAll", spec := "meterAll", apart := false, narrowed := true }
def MeterAllUptoSaid : Prop := meterAllUptoRow.holds Try.pinned (OpenSpec.upto meterAllSpec)

/-- 'diapauselaw3.MeterTurn', WHERE WHAT IT READS IS OF BULK AT MOST 1048576: true; the input reads as it did. -/
def meterTurnUptoRow : OpenClaim := { program := "ytdnfncbinhbioaa", sum := "5824bfc446d47939bcf0078e7f9283aa27c556d426d37dff558cee83bac75ba6", func := "diapause/diapauselaw3.MeterTurn", spec := "meterTurn", apart := false, narrowed := true }
def MeterTurnUptoSaid : Prop := meterTurnUptoRow.holds Try.pinned (OpenSpec.upto meterTurnSpec)

/-- 'diapauselaw3.MeterMark', WHERE WHAT IT READS IS OF BULK AT MOST 1048576: true; the input reads as it did. -/
def meterMarkUptoRow : OpenClaim := { program := "ytdnfncbinhbioaa", sum := "5824bfc446d47939bcf0078e7f9283aa27c556d426d37dff558cee83bac75ba6", func := "diapause/diapauselaw3.MeterMark", spec := "meterMark", apart := false, narrowed := true }
def MeterMarkUptoSaid : Prop := meterMarkUptoRow.holds Try.pinned (OpenSpec.upto meterMarkSpec)

/-- 'diapauselaw3.MeterSums', WHERE WHAT IT READS IS OF BULK AT MOST 1048576: true; the input reads as it did. -/
def meterSumsUptoRow : OpenClaim := { program := "ytdnfncbinhbioaa", sum := "5824bfc446d47939bcf0078e7f9283aa27c556d426d37dff558cee83bac75ba6", func := "diapause/diapauselaw3.MeterSums", spec := "meterSums", apart := false, narrowed := true }
def MeterSumsUptoSaid : Prop := meterSumsUptoRow.holds Try.pinned (OpenSpec.upto meterSumsSpec)

/-- 'diapauselaw3.MeterApart', WHERE WHAT IT READS IS OF BULK AT MOST 1048576: true; the input reads as it did. -/
def meterApartUptoRow : OpenClaim := { program := "ytdnfncbinhbioaa", sum := "5824bfc446d47939bcf0078e7f9283aa27c556d426d37dff558cee83bac75ba6", func := "diapause/diapauselaw3.MeterApart", spec := "meterApart", apart := false, narrowed := true }
def MeterApartUptoSaid : Prop := meterApartUptoRow.holds Try.pinned (OpenSpec.upto meterApartSpec)

end Rows
end Go.Proofs.Ytdnfncbinhbioaa
