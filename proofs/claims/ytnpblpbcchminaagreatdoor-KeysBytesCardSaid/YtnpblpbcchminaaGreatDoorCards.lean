/-
  DERIVED. GIVEN WITH THE SEED: THE CARDS: each row of YtnpblpbcchminaaGreatDoorRows.lean that lists a variable, with what it lists TIED to the program's text (the seventh form; the later family's looks); each row that meets fmt, with fmt's text TOLD by the authors' own Lean function (tested against real Go, not proved from fmt's source: count such statements apart). THE CARD IS WHAT COUNTS. Prove the row's statement (the work); the ties are given (YtnpblpbcchminaaGreatDoorTie.lean); close each card by the builder's one call (the guide's Derived/Test/ToyasCard.lean, 'card_holds'). Laid BY PROGRAM, IN A SANDBOX (cutbox-door.mjs). By AI agents, Wed Nov 11 2026. No macro, syntax, notation, axiom, sorry.
-/
import Derived.Test.YtnpblpbcchminaaGreatDoorRows
import GoSem.ClaimSeven
namespace Go.Proofs.YtnpblpbcchminaaGreatDoor
namespace Rows

/-- THE TIED CARD OF 'cartularylaw23.KeysVerifies'. -/
def keysVerifiesCard : Claim7 := { stood := { row := keysVerifiesRow, standIns := [], harness := (true, "b41f517faacc2ad3ba40944263bba7d159367f5fee2c612e739169dcaec05cde"), looks := true }, kinds := [], alts := [], laidByText := true, laidKinds := [.handle, .sentinel, .sentinel, .sentinel, .sentinel, .sentinel, .sentinel, .sentinel, .sentinel, .sentinel, .sentinel, .sentinel, .sentinel, .sentinel, .sentinel, .sentinel, .sentinel, .data], laidTests := true, laidLooks := .later }
def KeysVerifiesCardSaid : Prop := Claim7.holds Tryz.pinned (.plain (OpenSpec.ofChange keysVerifiesSpec)) keysVerifiesCard

/-- THE TIED CARD OF 'cartularylaw23.KeysPlays'. -/
def keysPlaysCard : Claim7 := { stood := { row := keysPlaysRow, standIns := [], harness := (true, "b41f517faacc2ad3ba40944263bba7d159367f5fee2c612e739169dcaec05cde"), looks := true }, kinds := [], alts := [], laidByText := true, laidKinds := [.data, .data, .data, .handle, .sentinel, .sentinel, .sentinel, .sentinel, .sentinel, .sentinel, .sentinel, .sentinel, .sentinel, .sentinel, .sentinel, .sentinel, .sentinel, .sentinel, .sentinel, .sentinel, .data], laidTests := true, laidLooks := .later }
def KeysPlaysCardSaid : Prop := Claim7.holds Tryz.pinned (.plain (OpenSpec.ofChange keysPlaysSpec)) keysPlaysCard

/-- THE TIED CARD OF 'cartularylaw23.KeysBytes'. -/
def keysBytesCard : Claim7 := { stood := { row := keysBytesRow, standIns := [], harness := (true, "b41f517faacc2ad3ba40944263bba7d159367f5fee2c612e739169dcaec05cde"), looks := true }, kinds := [], alts := [], laidByText := true, laidKinds := [.data, .data, .data, .handle, .sentinel, .sentinel, .sentinel, .sentinel, .sentinel, .sentinel, .sentinel, .sentinel, .sentinel, .sentinel, .sentinel, .sentinel, .sentinel, .sentinel, .sentinel, .sentinel, .data], laidTests := true, laidLooks := .later }
def KeysBytesCardSaid : Prop := Claim7.holds Tryz.pinned (.plain (OpenSpec.ofChange keysBytesSpec)) keysBytesCard

/-- THE SECOND FORM's CARD OF 'cartularylaw23.KeysVerifies'. -/
def keysVerifiesUptoCard : Claim7 := { stood := { row := keysVerifiesUptoRow, standIns := [], harness := (true, "b41f517faacc2ad3ba40944263bba7d159367f5fee2c612e739169dcaec05cde"), looks := true }, kinds := [], alts := [], laidByText := true, laidKinds := [.handle, .sentinel, .sentinel, .sentinel, .sentinel, .sentinel, .sentinel, .sentinel, .sentinel, .sentinel, .sentinel, .sentinel, .sentinel, .sentinel, .sentinel, .sentinel, .sentinel, .data], laidTests := true, laidLooks := .later }
def KeysVerifiesUptoCardSaid : Prop := Claim7.holds Tryz.pinned (.plain (OpenSpec.upto keysVerifiesSpec)) keysVerifiesUptoCard

/-- THE SECOND FORM's CARD OF 'cartularylaw23.KeysPlays'. -/
def keysPlaysUptoCard : Claim7 := { stood := { row := keysPlaysUptoRow, standIns := [], harness := (true, "b41f517faacc2ad3ba40944263bba7d159367f5fee2c612e739169dcaec05cde"), looks := true }, kinds := [], alts := [], laidByText := true, laidKinds := [.data, .data, .data, .handle, .sentinel, .sentinel, .sentinel, .sentinel, .sentinel, .sentinel, .sentinel, .sentinel, .sentinel, .sentinel, .sentinel, .sentinel, .sentinel, .sentinel, .sentinel, .sentinel, .data], laidTests := true, laidLooks := .later }
def KeysPlaysUptoCardSaid : Prop := Claim7.holds Tryz.pinned (.plain (OpenSpec.upto keysPlaysSpec)) keysPlaysUptoCard

/-- THE SECOND FORM's CARD OF 'cartularylaw23.KeysBytes'. -/
def keysBytesUptoCard : Claim7 := { stood := { row := keysBytesUptoRow, standIns := [], harness := (true, "b41f517faacc2ad3ba40944263bba7d159367f5fee2c612e739169dcaec05cde"), looks := true }, kinds := [], alts := [], laidByText := true, laidKinds := [.data, .data, .data, .handle, .sentinel, .sentinel, .sentinel, .sentinel, .sentinel, .sentinel, .sentinel, .sentinel, .sentinel, .sentinel, .sentinel, .sentinel, .sentinel, .sentinel, .sentinel, .sentinel, .data], laidTests := true, laidLooks := .later }
def KeysBytesUptoCardSaid : Prop := Claim7.holds Tryz.pinned (.plain (OpenSpec.upto keysBytesSpec)) keysBytesUptoCard
end Rows
end Go.Proofs.YtnpblpbcchminaaGreatDoor
