/-
  DERIVED. GIVEN WITH THE SEED: THE CARDS: each row of YtmloobkgnefgcaaDoorRows.lean that lists a variable, with what it lists TIED to the program's text (the seventh form; the later family's looks); each row that meets fmt, with fmt's text TOLD by the authors' own Lean function (tested against real Go, not proved from fmt's source: count such statements apart). THE CARD IS WHAT COUNTS. Prove the row's statement (the work); the ties are given (YtmloobkgnefgcaaDoorTie.lean); close each card by the builder's one call (the guide's Derived/Test/ToyasCard.lean, 'card_holds'). Laid BY PROGRAM, IN A SANDBOX (cutbox-door.mjs). By AI agents, Wed Nov 11 2026. No macro, syntax, notation, axiom, sorry.
-/
import Derived.Test.YtmloobkgnefgcaaDoorRows
import GoSem.ClaimSeven
namespace Go.Proofs.YtmloobkgnefgcaaDoor
namespace Rows

/-- THE TIED CARD OF 'corebanklaw08.DigestHexes'. -/
def digestHexesCard : Claim7 := { stood := { row := digestHexesRow, standIns := [], harness := (true, "bbc8d489bb1eed1738a7a492ffb2666e6cfcf2b13b798b74aac809fc3a4201a7"), looks := true }, kinds := [], alts := [], laidByText := true, laidKinds := [.data, .data, .data, .sentinel, .sentinel], laidTests := true, laidLooks := .later }
def DigestHexesCardSaid : Prop := Claim7.holds Tryd.pinned (.plain (OpenSpec.ofChange digestHexesSpec)) digestHexesCard

/-- THE TIED CARD OF 'corebanklaw08.DigestRests'. -/
def digestRestsCard : Claim7 := { stood := { row := digestRestsRow, standIns := [], harness := (true, "bbc8d489bb1eed1738a7a492ffb2666e6cfcf2b13b798b74aac809fc3a4201a7"), looks := true }, kinds := [], alts := [], laidByText := true, laidKinds := [.data, .data, .data, .sentinel, .sentinel], laidTests := true, laidLooks := .later }
def DigestRestsCardSaid : Prop := Claim7.holds Tryd.pinned (.plain (OpenSpec.ofChange digestRestsSpec)) digestRestsCard

/-- THE TIED CARD OF 'corebanklaw08.DigestNumbers'. -/
def digestNumbersCard : Claim7 := { stood := { row := digestNumbersRow, standIns := [], harness := (true, "bbc8d489bb1eed1738a7a492ffb2666e6cfcf2b13b798b74aac809fc3a4201a7"), looks := true }, kinds := [], alts := [], laidByText := true, laidKinds := [.data, .data, .data, .sentinel, .sentinel], laidTests := true, laidLooks := .later }
def DigestNumbersCardSaid : Prop := Claim7.holds Tryd.pinned (.plain (OpenSpec.ofChange digestNumbersSpec)) digestNumbersCard

/-- THE TIED CARD OF 'corebanklaw08.DigestSeals'. -/
def digestSealsCard : Claim7 := { stood := { row := digestSealsRow, standIns := [], harness := (true, "bbc8d489bb1eed1738a7a492ffb2666e6cfcf2b13b798b74aac809fc3a4201a7"), looks := true }, kinds := [], alts := [], laidByText := true, laidKinds := [.data, .data, .data, .sentinel, .sentinel], laidTests := true, laidLooks := .later }
def DigestSealsCardSaid : Prop := Claim7.holds Tryd.pinned (.plain (OpenSpec.ofChange digestSealsSpec)) digestSealsCard

/-- THE TIED CARD OF 'corebanklaw08.DigestTexts'. -/
def digestTextsCard : Claim7 := { stood := { row := digestTextsRow, standIns := [], harness := (true, "bbc8d489bb1eed1738a7a492ffb2666e6cfcf2b13b798b74aac809fc3a4201a7"), looks := true }, kinds := [], alts := [], laidByText := true, laidKinds := [.data, .data, .data, .sentinel, .sentinel], laidTests := true, laidLooks := .later }
def DigestTextsCardSaid : Prop := Claim7.holds Tryd.pinned (.plain (OpenSpec.ofChange digestTextsSpec)) digestTextsCard

/-- THE TIED CARD OF 'corebanklaw08.DigestHashes'. -/
def digestHashesCard : Claim7 := { stood := { row := digestHashesRow, standIns := [], harness := (true, "bbc8d489bb1eed1738a7a492ffb2666e6cfcf2b13b798b74aac809fc3a4201a7"), looks := true }, kinds := [], alts := [], laidByText := true, laidKinds := [.data, .data, .data, .sentinel, .sentinel], laidTests := true, laidLooks := .later }
def DigestHashesCardSaid : Prop := Claim7.holds Tryd.pinned (.plain (OpenSpec.ofChange digestHashesSpec)) digestHashesCard

/-- THE SECOND FORM's CARD OF 'corebanklaw08.DigestHexes'. -/
def digestHexesUptoCard : Claim7 := { stood := { row := digestHexesUptoRow, standIns := [], harness := (true, "bbc8d489bb1eed1738a7a492ffb2666e6cfcf2b13b798b74aac809fc3a4201a7"), looks := true }, kinds := [], alts := [], laidByText := true, laidKinds := [.data, .data, .data, .sentinel, .sentinel], laidTests := true, laidLooks := .later }
def DigestHexesUptoCardSaid : Prop := Claim7.holds Tryd.pinned (.plain (OpenSpec.upto digestHexesSpec)) digestHexesUptoCard

/-- THE SECOND FORM's CARD OF 'corebanklaw08.DigestRests'. -/
def digestRestsUptoCard : Claim7 := { stood := { row := digestRestsUptoRow, standIns := [], harness := (true, "bbc8d489bb1eed1738a7a492ffb2666e6cfcf2b13b798b74aac809fc3a4201a7"), looks := true }, kinds := [], alts := [], laidByText := true, laidKinds := [.data, .data, .data, .sentinel, .sentinel], laidTests := true, laidLooks := .later }
def DigestRestsUptoCardSaid : Prop := Claim7.holds Tryd.pinned (.plain (OpenSpec.upto digestRestsSpec)) digestRestsUptoCard

/-- THE SECOND FORM's CARD OF 'corebanklaw08.DigestNumbers'. -/
def digestNumbersUptoCard : Claim7 := { stood := { row := digestNumbersUptoRow, standIns := [], harness := (true, "bbc8d489bb1eed1738a7a492ffb2666e6cfcf2b13b798b74aac809fc3a4201a7"), looks := true }, kinds := [], alts := [], laidByText := true, laidKinds := [.data, .data, .data, .sentinel, .sentinel], laidTests := true, laidLooks := .later }
def DigestNumbersUptoCardSaid : Prop := Claim7.holds Tryd.pinned (.plain (OpenSpec.upto digestNumbersSpec)) digestNumbersUptoCard

/-- THE SECOND FORM's CARD OF 'corebanklaw08.DigestSeals'. -/
def digestSealsUptoCard : Claim7 := { stood := { row := digestSealsUptoRow, standIns := [], harness := (true, "bbc8d489bb1eed1738a7a492ffb2666e6cfcf2b13b798b74aac809fc3a4201a7"), looks := true }, kinds := [], alts := [], laidByText := true, laidKinds := [.data, .data, .data, .sentinel, .sentinel], laidTests := true, laidLooks := .later }
def DigestSealsUptoCardSaid : Prop := Claim7.holds Tryd.pinned (.plain (OpenSpec.upto digestSealsSpec)) digestSealsUptoCard

/-- THE SECOND FORM's CARD OF 'corebanklaw08.DigestTexts'. -/
def digestTextsUptoCard : Claim7 := { stood := { row := digestTextsUptoRow, standIns := [], harness := (true, "bbc8d489bb1eed1738a7a492ffb2666e6cfcf2b13b798b74aac809fc3a4201a7"), looks := true }, kinds := [], alts := [], laidByText := true, laidKinds := [.data, .data, .data, .sentinel, .sentinel], laidTests := true, laidLooks := .later }
def DigestTextsUptoCardSaid : Prop := Claim7.holds Tryd.pinned (.plain (OpenSpec.upto digestTextsSpec)) digestTextsUptoCard

/-- THE SECOND FORM's CARD OF 'corebanklaw08.DigestHashes'. -/
def digestHashesUptoCard : Claim7 := { stood := { row := digestHashesUptoRow, standIns := [], harness := (true, "bbc8d489bb1eed1738a7a492ffb2666e6cfcf2b13b798b74aac809fc3a4201a7"), looks := true }, kinds := [], alts := [], laidByText := true, laidKinds := [.data, .data, .data, .sentinel, .sentinel], laidTests := true, laidLooks := .later }
def DigestHashesUptoCardSaid : Prop := Claim7.holds Tryd.pinned (.plain (OpenSpec.upto digestHashesSpec)) digestHashesUptoCard
end Rows
end Go.Proofs.YtmloobkgnefgcaaDoor
