/-
  DERIVED. GIVEN WITH THE SEED: THE CARDS: each row of YthmlibimhdeocaaDoorRows.lean that lists a variable, with what it lists TIED to the program's text (the seventh form; the later family's looks); each row that meets fmt, with fmt's text TOLD by the authors' own Lean function (tested against real Go, not proved from fmt's source: count such statements apart). THE CARD IS WHAT COUNTS. Prove the row's statement (the work); the ties are given (YthmlibimhdeocaaDoorTie.lean); close each card by the builder's one call (the guide's Derived/Test/ToyasCard.lean, 'card_holds'). Laid BY PROGRAM, IN A SANDBOX (cutbox-door.mjs). By AI agents, Wed Nov 11 2026. No macro, syntax, notation, axiom, sorry.
-/
import Derived.Test.YthmlibimhdeocaaDoorRows
import GoSem.ClaimSeven
namespace Go.Proofs.YthmlibimhdeocaaDoor
namespace Rows

/-- THE TIED CARD OF 'corebanklaw43.MessageChecks'. -/
def messageChecksCard : Claim7 := { stood := { row := messageChecksRow, standIns := [], harness := (true, "84b8c6c23a0130a5f30bb562ec27577f566a4b60941d8db3248fcbca1f5b1aa5"), looks := true }, kinds := [], alts := [], laidByText := true, laidKinds := [.data, .data, .data, .sentinel, .sentinel], laidTests := true, laidLooks := .later }
def MessageChecksCardSaid : Prop := Claim7.holds Tryd.pinned (.plain (OpenSpec.ofChange messageChecksSpec)) messageChecksCard

/-- THE TIED CARD OF 'corebanklaw43.MessageReceives'. -/
def messageReceivesCard : Claim7 := { stood := { row := messageReceivesRow, standIns := [], harness := (true, "84b8c6c23a0130a5f30bb562ec27577f566a4b60941d8db3248fcbca1f5b1aa5"), looks := true }, kinds := [], alts := [], laidByText := true, laidKinds := [.data, .data, .data, .sentinel, .sentinel], laidTests := true, laidLooks := .later }
def MessageReceivesCardSaid : Prop := Claim7.holds Tryd.pinned (.plain (OpenSpec.ofChange messageReceivesSpec)) messageReceivesCard

/-- THE TIED CARD OF 'corebanklaw43.MessageMissing'. -/
def messageMissingCard : Claim7 := { stood := { row := messageMissingRow, standIns := [], harness := (true, "84b8c6c23a0130a5f30bb562ec27577f566a4b60941d8db3248fcbca1f5b1aa5"), looks := true }, kinds := [], alts := [], laidByText := true, laidKinds := [.data, .data, .data, .sentinel, .sentinel], laidTests := true, laidLooks := .later }
def MessageMissingCardSaid : Prop := Claim7.holds Tryd.pinned (.plain (OpenSpec.ofChange messageMissingSpec)) messageMissingCard

/-- THE TIED CARD OF 'corebanklaw43.MessageRoundTrips'. -/
def messageRoundTripsCard : Claim7 := { stood := { row := messageRoundTripsRow, standIns := [], harness := (true, "84b8c6c23a0130a5f30bb562ec27577f566a4b60941d8db3248fcbca1f5b1aa5"), looks := true }, kinds := [], alts := [], laidByText := true, laidKinds := [.data, .data, .data, .sentinel, .sentinel], laidTests := true, laidLooks := .later }
def MessageRoundTripsCardSaid : Prop := Claim7.holds Tryd.pinned (.plain (OpenSpec.ofChange messageRoundTripsSpec)) messageRoundTripsCard

/-- THE TIED CARD OF 'corebanklaw43.MessageOrders'. -/
def messageOrdersCard : Claim7 := { stood := { row := messageOrdersRow, standIns := [], harness := (true, "84b8c6c23a0130a5f30bb562ec27577f566a4b60941d8db3248fcbca1f5b1aa5"), looks := true }, kinds := [], alts := [], laidByText := true, laidKinds := [.data, .data, .data, .sentinel, .sentinel], laidTests := true, laidLooks := .later }
def MessageOrdersCardSaid : Prop := Claim7.holds Tryd.pinned (.plain (OpenSpec.ofChange messageOrdersSpec)) messageOrdersCard

/-- THE TIED CARD OF 'corebanklaw43.MessageOnce'. -/
def messageOnceCard : Claim7 := { stood := { row := messageOnceRow, standIns := [], harness := (true, "84b8c6c23a0130a5f30bb562ec27577f566a4b60941d8db3248fcbca1f5b1aa5"), looks := true }, kinds := [], alts := [], laidByText := true, laidKinds := [.data, .data, .data, .sentinel, .sentinel], laidTests := true, laidLooks := .later }
def MessageOnceCardSaid : Prop := Claim7.holds Tryd.pinned (.plain (OpenSpec.ofChange messageOnceSpec)) messageOnceCard

/-- THE SECOND FORM's CARD OF 'corebanklaw43.MessageChecks'. -/
def messageChecksUptoCard : Claim7 := { stood := { row := messageChecksUptoRow, standIns := [], harness := (true, "84b8c6c23a0130a5f30bb562ec27577f566a4b60941d8db3248fcbca1f5b1aa5"), looks := true }, kinds := [], alts := [], laidByText := true, laidKinds := [.data, .data, .data, .sentinel, .sentinel], laidTests := true, laidLooks := .later }
def MessageChecksUptoCardSaid : Prop := Claim7.holds Tryd.pinned (.plain (OpenSpec.upto messageChecksSpec)) messageChecksUptoCard

/-- THE SECOND FORM's CARD OF 'corebanklaw43.MessageReceives'. -/
def messageReceivesUptoCard : Claim7 := { stood := { row := messageReceivesUptoRow, standIns := [], harness := (true, "84b8c6c23a0130a5f30bb562ec27577f566a4b60941d8db3248fcbca1f5b1aa5"), looks := true }, kinds := [], alts := [], laidByText := true, laidKinds := [.data, .data, .data, .sentinel, .sentinel], laidTests := true, laidLooks := .later }
def MessageReceivesUptoCardSaid : Prop := Claim7.holds Tryd.pinned (.plain (OpenSpec.upto messageReceivesSpec)) messageReceivesUptoCard

/-- THE SECOND FORM's CARD OF 'corebanklaw43.MessageMissing'. -/
def messageMissingUptoCard : Claim7 := { stood := { row := messageMissingUptoRow, standIns := [], harness := (true, "84b8c6c23a0130a5f30bb562ec27577f566a4b60941d8db3248fcbca1f5b1aa5"), looks := true }, kinds := [], alts := [], laidByText := true, laidKinds := [.data, .data, .data, .sentinel, .sentinel], laidTests := true, laidLooks := .later }
def MessageMissingUptoCardSaid : Prop := Claim7.holds Tryd.pinned (.plain (OpenSpec.upto messageMissingSpec)) messageMissingUptoCard

/-- THE SECOND FORM's CARD OF 'corebanklaw43.MessageRoundTrips'. -/
def messageRoundTripsUptoCard : Claim7 := { stood := { row := messageRoundTripsUptoRow, standIns := [], harness := (true, "84b8c6c23a0130a5f30bb562ec27577f566a4b60941d8db3248fcbca1f5b1aa5"), looks := true }, kinds := [], alts := [], laidByText := true, laidKinds := [.data, .data, .data, .sentinel, .sentinel], laidTests := true, laidLooks := .later }
def MessageRoundTripsUptoCardSaid : Prop := Claim7.holds Tryd.pinned (.plain (OpenSpec.upto messageRoundTripsSpec)) messageRoundTripsUptoCard

/-- THE SECOND FORM's CARD OF 'corebanklaw43.MessageOrders'. -/
def messageOrdersUptoCard : Claim7 := { stood := { row := messageOrdersUptoRow, standIns := [], harness := (true, "84b8c6c23a0130a5f30bb562ec27577f566a4b60941d8db3248fcbca1f5b1aa5"), looks := true }, kinds := [], alts := [], laidByText := true, laidKinds := [.data, .data, .data, .sentinel, .sentinel], laidTests := true, laidLooks := .later }
def MessageOrdersUptoCardSaid : Prop := Claim7.holds Tryd.pinned (.plain (OpenSpec.upto messageOrdersSpec)) messageOrdersUptoCard

/-- THE SECOND FORM's CARD OF 'corebanklaw43.MessageOnce'. -/
def messageOnceUptoCard : Claim7 := { stood := { row := messageOnceUptoRow, standIns := [], harness := (true, "84b8c6c23a0130a5f30bb562ec27577f566a4b60941d8db3248fcbca1f5b1aa5"), looks := true }, kinds := [], alts := [], laidByText := true, laidKinds := [.data, .data, .data, .sentinel, .sentinel], laidTests := true, laidLooks := .later }
def MessageOnceUptoCardSaid : Prop := Claim7.holds Tryd.pinned (.plain (OpenSpec.upto messageOnceSpec)) messageOnceUptoCard
end Rows
end Go.Proofs.YthmlibimhdeocaaDoor
