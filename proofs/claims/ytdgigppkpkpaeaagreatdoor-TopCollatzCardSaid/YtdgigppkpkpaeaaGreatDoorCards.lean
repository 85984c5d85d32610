/-
  DERIVED. GIVEN WITH THE SEED: THE CARDS: each row of YtdgigppkpkpaeaaGreatDoorRows.lean that lists a variable, with what it lists TIED to the program's text (the seventh form; the later family's looks); each row that meets fmt, with fmt's text TOLD by the authors' own Lean function (tested against real Go, not proved from fmt's source: count such statements apart). THE CARD IS WHAT COUNTS. Prove the row's statement (the work); the ties are given (YtdgigppkpkpaeaaGreatDoorTie.lean); close each card by the builder's one call (the guide's Derived/Test/ToyasCard.lean, 'card_holds'). Laid BY PROGRAM, IN A SANDBOX (cutbox-door.mjs). By AI agents, Wed Nov 11 2026. No macro, syntax, notation, axiom, sorry.
-/
import Derived.Test.YtdgigppkpkpaeaaGreatDoorRows
import GoSem.ClaimSeven
namespace Go.Proofs.YtdgigppkpkpaeaaGreatDoor
namespace Rows

/-- THE TIED CARD OF 'diapausetop.TopCollatz'. -/
def topCollatzCard : Claim7 := { stood := { row := topCollatzRow, standIns := [], harness := (true, "ba3a9370505f3a41f0b98065b489f57d7ad6e456739f0b11f2f0e1b9b805599a"), looks := true }, kinds := [], alts := [], laidByText := true, laidKinds := [.data], laidTests := true, laidLooks := .later }
def TopCollatzCardSaid : Prop := Claim7.holds Tryz.pinned (.plain (OpenSpec.ofChange topCollatzSpec)) topCollatzCard

/-- THE TIED CARD OF 'diapausetop.TopEven'. -/
def topEvenCard : Claim7 := { stood := { row := topEvenRow, standIns := [], harness := (true, "ba3a9370505f3a41f0b98065b489f57d7ad6e456739f0b11f2f0e1b9b805599a"), looks := true }, kinds := [], alts := [], laidByText := true, laidKinds := [.data], laidTests := true, laidLooks := .later }
def TopEvenCardSaid : Prop := Claim7.holds Tryz.pinned (.plain (OpenSpec.ofChange topEvenSpec)) topEvenCard

/-- THE TIED CARD OF 'diapausetop.TopNever'. -/
def topNeverCard : Claim7 := { stood := { row := topNeverRow, standIns := [], harness := (true, "ba3a9370505f3a41f0b98065b489f57d7ad6e456739f0b11f2f0e1b9b805599a"), looks := true }, kinds := [], alts := [], laidByText := true, laidKinds := [.data], laidTests := true, laidLooks := .later }
def TopNeverCardSaid : Prop := Claim7.holds Tryz.pinned (.plain (OpenSpec.ofChange topNeverSpec)) topNeverCard

/-- THE TIED CARD OF 'diapausetop.TopLimit'. -/
def topLimitCard : Claim7 := { stood := { row := topLimitRow, standIns := [], harness := (true, "ba3a9370505f3a41f0b98065b489f57d7ad6e456739f0b11f2f0e1b9b805599a"), looks := true }, kinds := [], alts := [], laidByText := true, laidKinds := [.data], laidTests := true, laidLooks := .later }
def TopLimitCardSaid : Prop := Claim7.holds Tryz.pinned (.plain (OpenSpec.ofChange topLimitSpec)) topLimitCard

/-- THE SECOND FORM's CARD OF 'diapausetop.TopCollatz'. -/
def topCollatzUptoCard : Claim7 := { stood := { row := topCollatzUptoRow, standIns := [], harness := (true, "ba3a9370505f3a41f0b98065b489f57d7ad6e456739f0b11f2f0e1b9b805599a"), looks := true }, kinds := [], alts := [], laidByText := true, laidKinds := [.data], laidTests := true, laidLooks := .later }
def TopCollatzUptoCardSaid : Prop := Claim7.holds Tryz.pinned (.plain (OpenSpec.upto topCollatzSpec)) topCollatzUptoCard

/-- THE SECOND FORM's CARD OF 'diapausetop.TopEven'. -/
def topEvenUptoCard : Claim7 := { stood := { row := topEvenUptoRow, standIns := [], harness := (true, "ba3a9370505f3a41f0b98065b489f57d7ad6e456739f0b11f2f0e1b9b805599a"), looks := true }, kinds := [], alts := [], laidByText := true, laidKinds := [.data], laidTests := true, laidLooks := .later }
def TopEvenUptoCardSaid : Prop := Claim7.holds Tryz.pinned (.plain (OpenSpec.upto topEvenSpec)) topEvenUptoCard

/-- THE SECOND FORM's CARD OF 'diapausetop.TopNever'. -/
def topNeverUptoCard : Claim7 := { stood := { row := topNeverUptoRow, standIns := [], harness := (true, "ba3a9370505f3a41f0b98065b489f57d7ad6e456739f0b11f2f0e1b9b805599a"), looks := true }, kinds := [], alts := [], laidByText := true, laidKinds := [.data], laidTests := true, laidLooks := .later }
def TopNeverUptoCardSaid : Prop := Claim7.holds Tryz.pinned (.plain (OpenSpec.upto topNeverSpec)) topNeverUptoCard

/-- THE SECOND FORM's CARD OF 'diapausetop.TopLimit'. -/
def topLimitUptoCard : Claim7 := { stood := { row := topLimitUptoRow, standIns := [], harness := (true, "ba3a9370505f3a41f0b98065b489f57d7ad6e456739f0b11f2f0e1b9b805599a"), looks := true }, kinds := [], alts := [], laidByText := true, laidKinds := [.data], laidTests := true, laidLooks := .later }
def TopLimitUptoCardSaid : Prop := Claim7.holds Tryz.pinned (.plain (OpenSpec.upto topLimitSpec)) topLimitUptoCard
end Rows
end Go.Proofs.YtdgigppkpkpaeaaGreatDoor
