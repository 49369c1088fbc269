/-
  DERIVED. GIVEN WITH THE SEED: THE CARDS: each row of YtchfbdbgmlcfiaaGreatDoorRows.lean that lists a variable, with what it lists TIED to the program's text (the seventh form; the later family's looks); each row that meets fmt, with fmt's text TOLD by the authors' own Lean function (tested against real Go, not proved from fmt's source: count such statements apart). THE CARD IS WHAT COUNTS. Prove the row's statement (the work); the ties are given (YtchfbdbgmlcfiaaGreatDoorTie.lean); close each card by the builder's one call (the guide's Derived/Test/ToyasCard.lean, 'card_holds'). Laid BY PROGRAM, IN A SANDBOX (cutbox-door.mjs). By AI agents, Wed Nov 11 2026. No macro, syntax, notation, axiom, sorry.
-/
import Derived.Test.YtchfbdbgmlcfiaaGreatDoorRows
import GoSem.ClaimSeven
namespace Go.Proofs.YtchfbdbgmlcfiaaGreatDoor
namespace Rows

/-- THE TIED CARD OF 'cartularylaw19.BatchPaths'. -/
def batchPathsCard : Claim7 := { stood := { row := batchPathsRow, standIns := [], harness := (true, "5af1434db887785a2fcce2173e6748283dcd09489542dbd53ec376f45b0da67c"), looks := true }, kinds := [], alts := [], laidByText := true, laidKinds := [.data, .data, .data, .handle, .sentinel, .sentinel, .sentinel, .sentinel, .sentinel, .sentinel, .sentinel, .sentinel, .sentinel, .sentinel, .sentinel, .sentinel, .sentinel, .sentinel, .sentinel, .sentinel, .data], laidTests := true, laidLooks := .later }
def BatchPathsCardSaid : Prop := Claim7.holds Tryz.pinned (.plain (OpenSpec.ofChange batchPathsSpec)) batchPathsCard

/-- THE TIED CARD OF 'cartularylaw08.NaivePlays'. -/
def naivePlaysCard : Claim7 := { stood := { row := naivePlaysRow, standIns := [], harness := (true, "5af1434db887785a2fcce2173e6748283dcd09489542dbd53ec376f45b0da67c"), looks := true }, kinds := [], alts := [], laidByText := true, laidKinds := [.data, .data, .data, .handle, .sentinel, .sentinel, .sentinel, .sentinel, .sentinel, .sentinel, .sentinel, .sentinel, .sentinel, .sentinel, .sentinel, .sentinel, .sentinel, .sentinel, .sentinel, .sentinel, .data], laidTests := true, laidLooks := .later }
def NaivePlaysCardSaid : Prop := Claim7.holds Tryz.pinned (.plain (OpenSpec.ofChange naivePlaysSpec)) naivePlaysCard

/-- THE SECOND FORM's CARD OF 'cartularylaw19.BatchPaths'. -/
def batchPathsUptoCard : Claim7 := { stood := { row := batchPathsUptoRow, standIns := [], harness := (true, "5af1434db887785a2fcce2173e6748283dcd09489542dbd53ec376f45b0da67c"), looks := true }, kinds := [], alts := [], laidByText := true, laidKinds := [.data, .data, .data, .handle, .sentinel, .sentinel, .sentinel, .sentinel, .sentinel, .sentinel, .sentinel, .sentinel, .sentinel, .sentinel, .sentinel, .sentinel, .sentinel, .sentinel, .sentinel, .sentinel, .data], laidTests := true, laidLooks := .later }
def BatchPathsUptoCardSaid : Prop := Claim7.holds Tryz.pinned (.plain (OpenSpec.upto batchPathsSpec)) batchPathsUptoCard

/-- THE SECOND FORM's CARD OF 'cartularylaw08.NaivePlays'. -/
def naivePlaysUptoCard : Claim7 := { stood := { row := naivePlaysUptoRow, standIns := [], harness := (true, "5af1434db887785a2fcce2173e6748283dcd09489542dbd53ec376f45b0da67c"), looks := true }, kinds := [], alts := [], laidByText := true, laidKinds := [.data, .data, .data, .handle, .sentinel, .sentinel, .sentinel, .sentinel, .sentinel, .sentinel, .sentinel, .sentinel, .sentinel, .sentinel, .sentinel, .sentinel, .sentinel, .sentinel, .sentinel, .sentinel, .data], laidTests := true, laidLooks := .later }
def NaivePlaysUptoCardSaid : Prop := Claim7.holds Tryz.pinned (.plain (OpenSpec.upto naivePlaysSpec)) naivePlaysUptoCard
end Rows
end Go.Proofs.YtchfbdbgmlcfiaaGreatDoor
