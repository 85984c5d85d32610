/-
  DERIVED. GIVEN WITH THE SEED: THE CARDS: each row of YtdcpbjpghgbbiaaDoorRows.lean that lists a variable, with what it lists TIED to the program's text (the seventh form; the later family's looks); each row that meets fmt, with fmt's text TOLD by the authors' own Lean function (tested against real Go, not proved from fmt's source: count such statements apart). THE CARD IS WHAT COUNTS. Prove the row's statement (the work); the ties are given (YtdcpbjpghgbbiaaDoorTie.lean); close each card by the builder's one call (the guide's Derived/Test/ToyasCard.lean, 'card_holds'). Laid BY PROGRAM, IN A SANDBOX (cutbox-door.mjs). By AI agents, Wed Nov 11 2026. No macro, syntax, notation, axiom, sorry.
-/
import Derived.Test.YtdcpbjpghgbbiaaDoorRows
import GoSem.ClaimSeven
namespace Go.Proofs.YtdcpbjpghgbbiaaDoor
namespace Rows

/-- THE TIED CARD OF 'diapauselaw4.IntsAll'. -/
def intsAllCard : Claim7 := { stood := { row := intsAllRow, standIns := [], harness := (true, "c562965cdb76e62644e21726ec0475385770d94d4ca072c8a86add1c153192ff"), looks := false }, kinds := [], alts := [], laidByText := true, laidKinds := [.data], laidTests := true, laidLooks := .later }
def IntsAllCardSaid : Prop := Claim7.holds Tryd.pinned (.plain (OpenSpec.ofChange intsAllSpec)) intsAllCard

/-- THE TIED CARD OF 'diapauselaw4.IntsEach'. -/
def intsEachCard : Claim7 := { stood := { row := intsEachRow, standIns := [], harness := (true, "c562965cdb76e62644e21726ec0475385770d94d4ca072c8a86add1c153192ff"), looks := false }, kinds := [], alts := [], laidByText := true, laidKinds := [.data], laidTests := true, laidLooks := .later }
def IntsEachCardSaid : Prop := Claim7.holds Tryd.pinned (.plain (OpenSpec.ofChange intsEachSpec)) intsEachCard

/-- THE TIED CARD OF 'diapauselaw4.IntsWrap'. -/
def intsWrapCard : Claim7 := { stood := { row := intsWrapRow, standIns := [], harness := (true, "c562965cdb76e62644e21726ec0475385770d94d4ca072c8a86add1c153192ff"), looks := false }, kinds := [], alts := [], laidByText := true, laidKinds := [.data], laidTests := true, laidLooks := .later }
def IntsWrapCardSaid : Prop := Claim7.holds Tryd.pinned (.plain (OpenSpec.ofChange intsWrapSpec)) intsWrapCard

/-- THE TIED CARD OF 'diapauselaw4.IntsLaws'. -/
def intsLawsCard : Claim7 := { stood := { row := intsLawsRow, standIns := [], harness := (true, "c562965cdb76e62644e21726ec0475385770d94d4ca072c8a86add1c153192ff"), looks := false }, kinds := [], alts := [], laidByText := true, laidKinds := [.data], laidTests := true, laidLooks := .later }
def IntsLawsCardSaid : Prop := Claim7.holds Tryd.pinned (.plain (OpenSpec.ofChange intsLawsSpec)) intsLawsCard

/-- THE TIED CARD OF 'diapauselaw4.IntsOrder'. -/
def intsOrderCard : Claim7 := { stood := { row := intsOrderRow, standIns := [], harness := (true, "c562965cdb76e62644e21726ec0475385770d94d4ca072c8a86add1c153192ff"), looks := false }, kinds := [], alts := [], laidByText := true, laidKinds := [.data], laidTests := true, laidLooks := .later }
def IntsOrderCardSaid : Prop := Claim7.holds Tryd.pinned (.plain (OpenSpec.ofChange intsOrderSpec)) intsOrderCard

/-- THE TIED CARD OF 'diapauselaw4.IntsRest'. -/
def intsRestCard : Claim7 := { stood := { row := intsRestRow, standIns := [], harness := (true, "c562965cdb76e62644e21726ec0475385770d94d4ca072c8a86add1c153192ff"), looks := false }, kinds := [], alts := [], laidByText := true, laidKinds := [.data], laidTests := true, laidLooks := .later }
def IntsRestCardSaid : Prop := Claim7.holds Tryd.pinned (.plain (OpenSpec.ofChange intsRestSpec)) intsRestCard

/-- THE TIED CARD OF 'diapauselaw4.IntsMasks'. -/
def intsMasksCard : Claim7 := { stood := { row := intsMasksRow, standIns := [], harness := (true, "c562965cdb76e62644e21726ec0475385770d94d4ca072c8a86add1c153192ff"), looks := false }, kinds := [], alts := [], laidByText := true, laidKinds := [.data], laidTests := true, laidLooks := .later }
def IntsMasksCardSaid : Prop := Claim7.holds Tryd.pinned (.plain (OpenSpec.ofChange intsMasksSpec)) intsMasksCard

/-- THE TIED CARD OF 'diapauselaw4.IntsOnes'. -/
def intsOnesCard : Claim7 := { stood := { row := intsOnesRow, standIns := [], harness := (true, "c562965cdb76e62644e21726ec0475385770d94d4ca072c8a86add1c153192ff"), looks := false }, kinds := [], alts := [], laidByText := true, laidKinds := [.data], laidTests := true, laidLooks := .later }
def IntsOnesCardSaid : Prop := Claim7.holds Tryd.pinned (.plain (OpenSpec.ofChange intsOnesSpec)) intsOnesCard

/-- THE TIED CARD OF 'diapauselaw4.IntsUnsigned'. -/
def intsUnsignedCard : Claim7 := { stood := { row := intsUnsignedRow, standIns := [], harness := (true, "c562965cdb76e62644e21726ec0475385770d94d4ca072c8a86add1c153192ff"), looks := false }, kinds := [], alts := [], laidByText := true, laidKinds := [.data], laidTests := true, laidLooks := .later }
def IntsUnsignedCardSaid : Prop := Claim7.holds Tryd.pinned (.plain (OpenSpec.ofChange intsUnsignedSpec)) intsUnsignedCard

/-- THE TIED CARD OF 'diapauselaw4.IntsBits'. -/
def intsBitsCard : Claim7 := { stood := { row := intsBitsRow, standIns := [], harness := (true, "c562965cdb76e62644e21726ec0475385770d94d4ca072c8a86add1c153192ff"), looks := false }, kinds := [], alts := [], laidByText := true, laidKinds := [.data], laidTests := true, laidLooks := .later }
def IntsBitsCardSaid : Prop := Claim7.holds Tryd.pinned (.plain (OpenSpec.ofChange intsBitsSpec)) intsBitsCard

/-- THE TIED CARD OF 'diapauselaw4.IntsWide'. -/
def intsWideCard : Claim7 := { stood := { row := intsWideRow, standIns := [], harness := (true, "c562965cdb76e62644e21726ec0475385770d94d4ca072c8a86add1c153192ff"), looks := false }, kinds := [], alts := [], laidByText := true, laidKinds := [.data], laidTests := true, laidLooks := .later }
def IntsWideCardSaid : Prop := Claim7.holds Tryd.pinned (.plain (OpenSpec.ofChange intsWideSpec)) intsWideCard

/-- THE SECOND FORM's CARD OF 'diapauselaw4.IntsAll'. -/
def intsAllUptoCard : Claim7 := { stood := { row := intsAllUptoRow, standIns := [], harness := (true, "c562965cdb76e62644e21726ec0475385770d94d4ca072c8a86add1c153192ff"), looks := false }, kinds := [], alts := [], laidByText := true, laidKinds := [.data], laidTests := true, laidLooks := .later }
def IntsAllUptoCardSaid : Prop := Claim7.holds Tryd.pinned (.plain (OpenSpec.upto intsAllSpec)) intsAllUptoCard

/-- THE SECOND FORM's CARD OF 'diapauselaw4.IntsEach'. -/
def intsEachUptoCard : Claim7 := { stood := { row := intsEachUptoRow, standIns := [], harness := (true, "c562965cdb76e62644e21726ec0475385770d94d4ca072c8a86add1c153192ff"), looks := false }, kinds := [], alts := [], laidByText := true, laidKinds := [.data], laidTests := true, laidLooks := .later }
def IntsEachUptoCardSaid : Prop := Claim7.holds Tryd.pinned (.plain (OpenSpec.upto intsEachSpec)) intsEachUptoCard

/-- THE SECOND FORM's CARD OF 'diapauselaw4.IntsWrap'. -/
def intsWrapUptoCard : Claim7 := { stood := { row := intsWrapUptoRow, standIns := [], harness := (true, "c562965cdb76e62644e21726ec0475385770d94d4ca072c8a86add1c153192ff"), looks := false }, kinds := [], alts := [], laidByText := true, laidKinds := [.data], laidTests := true, laidLooks := .later }
def IntsWrapUptoCardSaid : Prop := Claim7.holds Tryd.pinned (.plain (OpenSpec.upto intsWrapSpec)) intsWrapUptoCard

/-- THE SECOND FORM's CARD OF 'diapauselaw4.IntsLaws'. -/
def intsLawsUptoCard : Claim7 := { stood := { row := intsLawsUptoRow, standIns := [], harness := (true, "c562965cdb76e62644e21726ec0475385770d94d4ca072c8a86add1c153192ff"), looks := false }, kinds := [], alts := [], laidByText := true, laidKinds := [.data], laidTests := true, laidLooks := .later }
def IntsLawsUptoCardSaid : Prop := Claim7.holds Tryd.pinned (.plain (OpenSpec.upto intsLawsSpec)) intsLawsUptoCard

/-- THE SECOND FORM's CARD OF 'diapauselaw4.IntsOrder'. -/
def intsOrderUptoCard : Claim7 := { stood := { row := intsOrderUptoRow, standIns := [], harness := (true, "c562965cdb76e62644e21726ec0475385770d94d4ca072c8a86add1c153192ff"), looks := false }, kinds := [], alts := [], laidByText := true, laidKinds := [.data], laidTests := true, laidLooks := .later }
def IntsOrderUptoCardSaid : Prop := Claim7.holds Tryd.pinned (.plain (OpenSpec.upto intsOrderSpec)) intsOrderUptoCard

/-- THE SECOND FORM's CARD OF 'diapauselaw4.IntsRest'. -/
def intsRestUptoCard : Claim7 := { stood := { row := intsRestUptoRow, standIns := [], harness := (true, "c562965cdb76e62644e21726ec0475385770d94d4ca072c8a86add1c153192ff"), looks := false }, kinds := [], alts := [], laidByText := true, laidKinds := [.data], laidTests := true, laidLooks := .later }
def IntsRestUptoCardSaid : Prop := Claim7.holds Tryd.pinned (.plain (OpenSpec.upto intsRestSpec)) intsRestUptoCard

/-- THE SECOND FORM's CARD OF 'diapauselaw4.IntsMasks'. -/
def intsMasksUptoCard : Claim7 := { stood := { row := intsMasksUptoRow, standIns := [], harness := (true, "c562965cdb76e62644e21726ec0475385770d94d4ca072c8a86add1c153192ff"), looks := false }, kinds := [], alts := [], laidByText := true, laidKinds := [.data], laidTests := true, laidLooks := .later }
def IntsMasksUptoCardSaid : Prop := Claim7.holds Tryd.pinned (.plain (OpenSpec.upto intsMasksSpec)) intsMasksUptoCard

/-- THE SECOND FORM's CARD OF 'diapauselaw4.IntsOnes'. -/
def intsOnesUptoCard : Claim7 := { stood := { row := intsOnesUptoRow, standIns := [], harness := (true, "c562965cdb76e62644e21726ec0475385770d94d4ca072c8a86add1c153192ff"), looks := false }, kinds := [], alts := [], laidByText := true, laidKinds := [.data], laidTests := true, laidLooks := .later }
def IntsOnesUptoCardSaid : Prop := Claim7.holds Tryd.pinned (.plain (OpenSpec.upto intsOnesSpec)) intsOnesUptoCard

/-- THE SECOND FORM's CARD OF 'diapauselaw4.IntsUnsigned'. -/
def intsUnsignedUptoCard : Claim7 := { stood := { row := intsUnsignedUptoRow, standIns := [], harness := (true, "c562965cdb76e62644e21726ec0475385770d94d4ca072c8a86add1c153192ff"), looks := false }, kinds := [], alts := [], laidByText := true, laidKinds := [.data], laidTests := true, laidLooks := .later }
def IntsUnsignedUptoCardSaid : Prop := Claim7.holds Tryd.pinned (.plain (OpenSpec.upto intsUnsignedSpec)) intsUnsignedUptoCard

/-- THE SECOND FORM's CARD OF 'diapauselaw4.IntsBits'. -/
def intsBitsUptoCard : Claim7 := { stood := { row := intsBitsUptoRow, standIns := [], harness := (true, "c562965cdb76e62644e21726ec0475385770d94d4ca072c8a86add1c153192ff"), looks := false }, kinds := [], alts := [], laidByText := true, laidKinds := [.data], laidTests := true, laidLooks := .later }
def IntsBitsUptoCardSaid : Prop := Claim7.holds Tryd.pinned (.plain (OpenSpec.upto intsBitsSpec)) intsBitsUptoCard

/-- THE SECOND FORM's CARD OF 'diapauselaw4.IntsWide'. -/
def intsWideUptoCard : Claim7 := { stood := { row := intsWideUptoRow, standIns := [], harness := (true, "c562965cdb76e62644e21726ec0475385770d94d4ca072c8a86add1c153192ff"), looks := false }, kinds := [], alts := [], laidByText := true, laidKinds := [.data], laidTests := true, laidLooks := .later }
def IntsWideUptoCardSaid : Prop := Claim7.holds Tryd.pinned (.plain (OpenSpec.upto intsWideSpec)) intsWideUptoCard
end Rows
end Go.Proofs.YtdcpbjpghgbbiaaDoor
