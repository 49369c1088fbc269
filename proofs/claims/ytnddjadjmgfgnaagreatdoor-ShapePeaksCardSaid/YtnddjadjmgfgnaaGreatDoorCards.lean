/-
  DERIVED. GIVEN WITH THE SEED: THE CARDS: each row of YtnddjadjmgfgnaaGreatDoorRows.lean that lists a variable, with what it lists TIED to the program's text (the seventh form; the later family's looks); each row that meets fmt, with fmt's text TOLD by the authors' own Lean function (tested against real Go, not proved from fmt's source: count such statements apart). THE CARD IS WHAT COUNTS. Prove the row's statement (the work); the ties are given (YtnddjadjmgfgnaaGreatDoorTie.lean); close each card by the builder's one call (the guide's Derived/Test/ToyasCard.lean, 'card_holds'). Laid BY PROGRAM, IN A SANDBOX (cutbox-door.mjs). By AI agents, Wed Nov 11 2026. No macro, syntax, notation, axiom, sorry.
-/
import Derived.Test.YtnddjadjmgfgnaaGreatDoorRows
import GoSem.ClaimSeven
namespace Go.Proofs.YtnddjadjmgfgnaaGreatDoor
namespace Rows

/-- THE TIED CARD OF 'cartularylaw07.ShapePeaks'. -/
def shapePeaksCard : Claim7 := { stood := { row := shapePeaksRow, standIns := [], harness := (true, "fc485b9e67d16e9105953dfa8601984d9e45729fc832ab9aa3caab22bcf7c5c7"), looks := true }, kinds := [], alts := [], laidByText := true, laidKinds := [.data, .data, .data, .handle, .sentinel, .sentinel, .sentinel, .sentinel, .sentinel, .sentinel, .sentinel, .sentinel, .sentinel, .sentinel, .sentinel, .sentinel, .sentinel, .sentinel, .sentinel, .sentinel], laidTests := true, laidLooks := .later }
def ShapePeaksCardSaid : Prop := Claim7.holds Tryz.pinned (.plain (OpenSpec.ofChange shapePeaksSpec)) shapePeaksCard

/-- THE TIED CARD OF 'cartularylaw07.ShapeBatches'. -/
def shapeBatchesCard : Claim7 := { stood := { row := shapeBatchesRow, standIns := [], harness := (true, "fc485b9e67d16e9105953dfa8601984d9e45729fc832ab9aa3caab22bcf7c5c7"), looks := true }, kinds := [], alts := [], laidByText := true, laidKinds := [.data, .data, .data, .handle, .sentinel, .sentinel, .sentinel, .sentinel, .sentinel, .sentinel, .sentinel, .sentinel, .sentinel, .sentinel, .sentinel, .sentinel, .sentinel, .sentinel, .sentinel, .sentinel], laidTests := true, laidLooks := .later }
def ShapeBatchesCardSaid : Prop := Claim7.holds Tryz.pinned (.plain (OpenSpec.ofChange shapeBatchesSpec)) shapeBatchesCard

/-- THE TIED CARD OF 'cartularylaw07.ShapePaths'. -/
def shapePathsCard : Claim7 := { stood := { row := shapePathsRow, standIns := [], harness := (true, "fc485b9e67d16e9105953dfa8601984d9e45729fc832ab9aa3caab22bcf7c5c7"), looks := true }, kinds := [], alts := [], laidByText := true, laidKinds := [.data, .data, .data, .handle, .sentinel, .sentinel, .sentinel, .sentinel, .sentinel, .sentinel, .sentinel, .sentinel, .sentinel, .sentinel, .sentinel, .sentinel, .sentinel, .sentinel, .sentinel, .sentinel], laidTests := true, laidLooks := .later }
def ShapePathsCardSaid : Prop := Claim7.holds Tryz.pinned (.plain (OpenSpec.ofChange shapePathsSpec)) shapePathsCard

/-- THE TIED CARD OF 'cartularylaw07.ShapeProofs'. -/
def shapeProofsCard : Claim7 := { stood := { row := shapeProofsRow, standIns := [], harness := (true, "fc485b9e67d16e9105953dfa8601984d9e45729fc832ab9aa3caab22bcf7c5c7"), looks := true }, kinds := [], alts := [], laidByText := true, laidKinds := [.data, .data, .data, .handle, .sentinel, .sentinel, .sentinel, .sentinel, .sentinel, .sentinel, .sentinel, .sentinel, .sentinel, .sentinel, .sentinel, .sentinel, .sentinel, .sentinel, .sentinel, .sentinel], laidTests := true, laidLooks := .later }
def ShapeProofsCardSaid : Prop := Claim7.holds Tryz.pinned (.plain (OpenSpec.ofChange shapeProofsSpec)) shapeProofsCard

/-- THE SECOND FORM's CARD OF 'cartularylaw07.ShapePeaks'. -/
def shapePeaksUptoCard : Claim7 := { stood := { row := shapePeaksUptoRow, standIns := [], harness := (true, "fc485b9e67d16e9105953dfa8601984d9e45729fc832ab9aa3caab22bcf7c5c7"), looks := true }, kinds := [], alts := [], laidByText := true, laidKinds := [.data, .data, .data, .handle, .sentinel, .sentinel, .sentinel, .sentinel, .sentinel, .sentinel, .sentinel, .sentinel, .sentinel, .sentinel, .sentinel, .sentinel, .sentinel, .sentinel, .sentinel, .sentinel], laidTests := true, laidLooks := .later }
def ShapePeaksUptoCardSaid : Prop := Claim7.holds Tryz.pinned (.plain (OpenSpec.upto shapePeaksSpec)) shapePeaksUptoCard

/-- THE SECOND FORM's CARD OF 'cartularylaw07.ShapeBatches'. -/
def shapeBatchesUptoCard : Claim7 := { stood := { row := shapeBatchesUptoRow, standIns := [], harness := (true, "fc485b9e67d16e9105953dfa8601984d9e45729fc832ab9aa3caab22bcf7c5c7"), looks := true }, kinds := [], alts := [], laidByText := true, laidKinds := [.data, .data, .data, .handle, .sentinel, .sentinel, .sentinel, .sentinel, .sentinel, .sentinel, .sentinel, .sentinel, .sentinel, .sentinel, .sentinel, .sentinel, .sentinel, .sentinel, .sentinel, .sentinel], laidTests := true, laidLooks := .later }
def ShapeBatchesUptoCardSaid : Prop := Claim7.holds Tryz.pinned (.plain (OpenSpec.upto shapeBatchesSpec)) shapeBatchesUptoCard

/-- THE SECOND FORM's CARD OF 'cartularylaw07.ShapePaths'. -/
def shapePathsUptoCard : Claim7 := { stood := { row := shapePathsUptoRow, standIns := [], harness := (true, "fc485b9e67d16e9105953dfa8601984d9e45729fc832ab9aa3caab22bcf7c5c7"), looks := true }, kinds := [], alts := [], laidByText := true, laidKinds := [.data, .data, .data, .handle, .sentinel, .sentinel, .sentinel, .sentinel, .sentinel, .sentinel, .sentinel, .sentinel, .sentinel, .sentinel, .sentinel, .sentinel, .sentinel, .sentinel, .sentinel, .sentinel], laidTests := true, laidLooks := .later }
def ShapePathsUptoCardSaid : Prop := Claim7.holds Tryz.pinned (.plain (OpenSpec.upto shapePathsSpec)) shapePathsUptoCard

/-- THE SECOND FORM's CARD OF 'cartularylaw07.ShapeProofs'. -/
def shapeProofsUptoCard : Claim7 := { stood := { row := shapeProofsUptoRow, standIns := [], harness := (true, "fc485b9e67d16e9105953dfa8601984d9e45729fc832ab9aa3caab22bcf7c5c7"), looks := true }, kinds := [], alts := [], laidByText := true, laidKinds := [.data, .data, .data, .handle, .sentinel, .sentinel, .sentinel, .sentinel, .sentinel, .sentinel, .sentinel, .sentinel, .sentinel, .sentinel, .sentinel, .sentinel, .sentinel, .sentinel, .sentinel, .sentinel], laidTests := true, laidLooks := .later }
def ShapeProofsUptoCardSaid : Prop := Claim7.holds Tryz.pinned (.plain (OpenSpec.upto shapeProofsSpec)) shapeProofsUptoCard
end Rows
end Go.Proofs.YtnddjadjmgfgnaaGreatDoor
