/-
  DERIVED. GIVEN WITH THE SEED: THE CARDS: each row of YteefpemaeecicaaGreatDoorRows.lean that lists a variable, with what it lists TIED to the program's text (the seventh form; the later family's looks); each row that meets fmt, with fmt's text TOLD by the authors' own Lean function (tested against real Go, not proved from fmt's source: count such statements apart). THE CARD IS WHAT COUNTS. Prove the row's statement (the work); the ties are given (YteefpemaeecicaaGreatDoorTie.lean); close each card by the builder's one call (the guide's Derived/Test/ToyasCard.lean, 'card_holds'). Laid BY PROGRAM, IN A SANDBOX (cutbox-door.mjs). By AI agents, Wed Nov 11 2026. No macro, syntax, notation, axiom, sorry.
-/
import Derived.Test.YteefpemaeecicaaGreatDoorRows
import GoSem.ClaimSeven
namespace Go.Proofs.YteefpemaeecicaaGreatDoor
namespace Rows

/-- THE TIED CARD OF 'diapausetop.TopWhere'. -/
def topWhereCard : Claim7 := { stood := { row := topWhereRow, standIns := [], harness := (true, "4f0b13d228ab72ffb323d979a2ae5f77d801fe1e6f4cb37519243f26a54b483b"), looks := true }, kinds := [], alts := [], laidByText := true, laidKinds := [.data], laidTests := true, laidLooks := .later }
def TopWhereCardSaid : Prop := Claim7.holds Tryz.pinned (.plain (OpenSpec.ofChange topWhereSpec)) topWhereCard

/-- THE TIED CARD OF 'diapausetop.TopGlobals'. -/
def topGlobalsCard : Claim7 := { stood := { row := topGlobalsRow, standIns := [], harness := (true, "4f0b13d228ab72ffb323d979a2ae5f77d801fe1e6f4cb37519243f26a54b483b"), looks := true }, kinds := [], alts := [], laidByText := true, laidKinds := [.data], laidTests := true, laidLooks := .later }
def TopGlobalsCardSaid : Prop := Claim7.holds Tryz.pinned (.plain (OpenSpec.ofChange topGlobalsSpec)) topGlobalsCard

/-- THE TIED CARD OF 'diapausetop.TopSort'. -/
def topSortCard : Claim7 := { stood := { row := topSortRow, standIns := [], harness := (true, "4f0b13d228ab72ffb323d979a2ae5f77d801fe1e6f4cb37519243f26a54b483b"), looks := true }, kinds := [], alts := [], laidByText := true, laidKinds := [.data], laidTests := true, laidLooks := .later }
def TopSortCardSaid : Prop := Claim7.holds Tryz.pinned (.plain (OpenSpec.ofChange topSortSpec)) topSortCard

/-- THE TIED CARD OF 'diapausetop.TopHash'. -/
def topHashCard : Claim7 := { stood := { row := topHashRow, standIns := [], harness := (true, "4f0b13d228ab72ffb323d979a2ae5f77d801fe1e6f4cb37519243f26a54b483b"), looks := true }, kinds := [], alts := [], laidByText := true, laidKinds := [.data], laidTests := true, laidLooks := .later }
def TopHashCardSaid : Prop := Claim7.holds Tryz.pinned (.plain (OpenSpec.ofChange topHashSpec)) topHashCard

/-- THE TIED CARD OF 'diapausetop.TopNever'. -/
def topNeverCard : Claim7 := { stood := { row := topNeverRow, standIns := [], harness := (true, "4f0b13d228ab72ffb323d979a2ae5f77d801fe1e6f4cb37519243f26a54b483b"), looks := true }, kinds := [], alts := [], laidByText := true, laidKinds := [.data], laidTests := true, laidLooks := .later }
def TopNeverCardSaid : Prop := Claim7.holds Tryz.pinned (.plain (OpenSpec.ofChange topNeverSpec)) topNeverCard

/-- THE SECOND FORM's CARD OF 'diapausetop.TopWhere'. -/
def topWhereUptoCard : Claim7 := { stood := { row := topWhereUptoRow, standIns := [], harness := (true, "4f0b13d228ab72ffb323d979a2ae5f77d801fe1e6f4cb37519243f26a54b483b"), looks := true }, kinds := [], alts := [], laidByText := true, laidKinds := [.data], laidTests := true, laidLooks := .later }
def TopWhereUptoCardSaid : Prop := Claim7.holds Tryz.pinned (.plain (OpenSpec.upto topWhereSpec)) topWhereUptoCard

/-- THE SECOND FORM's CARD OF 'diapausetop.TopGlobals'. -/
def topGlobalsUptoCard : Claim7 := { stood := { row := topGlobalsUptoRow, standIns := [], harness := (true, "4f0b13d228ab72ffb323d979a2ae5f77d801fe1e6f4cb37519243f26a54b483b"), looks := true }, kinds := [], alts := [], laidByText := true, laidKinds := [.data], laidTests := true, laidLooks := .later }
def TopGlobalsUptoCardSaid : Prop := Claim7.holds Tryz.pinned (.plain (OpenSpec.upto topGlobalsSpec)) topGlobalsUptoCard

/-- THE SECOND FORM's CARD OF 'diapausetop.TopSort'. -/
def topSortUptoCard : Claim7 := { stood := { row := topSortUptoRow, standIns := [], harness := (true, "4f0b13d228ab72ffb323d979a2ae5f77d801fe1e6f4cb37519243f26a54b483b"), looks := true }, kinds := [], alts := [], laidByText := true, laidKinds := [.data], laidTests := true, laidLooks := .later }
def TopSortUptoCardSaid : Prop := Claim7.holds Tryz.pinned (.plain (OpenSpec.upto topSortSpec)) topSortUptoCard

/-- THE SECOND FORM's CARD OF 'diapausetop.TopHash'. -/
def topHashUptoCard : Claim7 := { stood := { row := topHashUptoRow, standIns := [], harness := (true, "4f0b13d228ab72ffb323d979a2ae5f77d801fe1e6f4cb37519243f26a54b483b"), looks := true }, kinds := [], alts := [], laidByText := true, laidKinds := [.data], laidTests := true, laidLooks := .later }
def TopHashUptoCardSaid : Prop := Claim7.holds Tryz.pinned (.plain (OpenSpec.upto topHashSpec)) topHashUptoCard

/-- THE SECOND FORM's CARD OF 'diapausetop.TopNever'. -/
def topNeverUptoCard : Claim7 := { stood := { row := topNeverUptoRow, standIns := [], harness := (true, "4f0b13d228ab72ffb323d979a2ae5f77d801fe1e6f4cb37519243f26a54b483b"), looks := true }, kinds := [], alts := [], laidByText := true, laidKinds := [.data], laidTests := true, laidLooks := .later }
def TopNeverUptoCardSaid : Prop := Claim7.holds Tryz.pinned (.plain (OpenSpec.upto topNeverSpec)) topNeverUptoCard
end Rows
end Go.Proofs.YteefpemaeecicaaGreatDoor
