/-
  DERIVED. GIVEN WITH THE SEED: THE CARDS: each row of YtjhlgkjgodjmhaaDoorRows.lean that lists a variable, with what it lists TIED to the program's text (the seventh form; the later family's looks); each row that meets fmt, with fmt's text TOLD by the authors' own Lean function (tested against real Go, not proved from fmt's source: count such statements apart). THE CARD IS WHAT COUNTS. Prove the row's statement (the work); the ties are given (YtjhlgkjgodjmhaaDoorTie.lean); close each card by the builder's one call (the guide's Derived/Test/ToyasCard.lean, 'card_holds'). Laid BY PROGRAM, IN A SANDBOX (cutbox-door.mjs). By AI agents, Wed Nov 11 2026. No macro, syntax, notation, axiom, sorry.
-/
import Derived.Test.YtjhlgkjgodjmhaaDoorRows
import GoSem.ClaimSeven
namespace Go.Proofs.YtjhlgkjgodjmhaaDoor
namespace Rows

/-- THE TIED CARD OF 'cartularytop.TopProven'. -/
def topProvenCard : Claim7 := { stood := { row := topProvenRow, standIns := [], harness := (true, "8462edf6daedc9e02ec8c166d08dd5b4a8acfd6bc6ad83bcd472d773bf2b7b2f"), looks := true }, kinds := [], alts := [], laidByText := true, laidKinds := [.sentinel, .sentinel, .sentinel, .sentinel, .sentinel, .data], laidTests := true, laidLooks := .later }
def TopProvenCardSaid : Prop := Claim7.holds Tryd.pinned (.plain (OpenSpec.ofChange topProvenSpec)) topProvenCard

/-- THE SECOND FORM's CARD OF 'cartularytop.TopProven'. -/
def topProvenUptoCard : Claim7 := { stood := { row := topProvenUptoRow, standIns := [], harness := (true, "8462edf6daedc9e02ec8c166d08dd5b4a8acfd6bc6ad83bcd472d773bf2b7b2f"), looks := true }, kinds := [], alts := [], laidByText := true, laidKinds := [.sentinel, .sentinel, .sentinel, .sentinel, .sentinel, .data], laidTests := true, laidLooks := .later }
def TopProvenUptoCardSaid : Prop := Claim7.holds Tryd.pinned (.plain (OpenSpec.upto topProvenSpec)) topProvenUptoCard
end Rows
end Go.Proofs.YtjhlgkjgodjmhaaDoor
