/-
  DERIVED. GIVEN WITH THE SEED: THE CARDS: each row of YtnddjadjmgfgnaaDoorRows.lean that lists a variable, with what it lists TIED to the program's text (the seventh form; the later family's looks); each row that meets fmt, with fmt's text TOLD by the authors' own Lean function (tested against real Go, not proved from fmt's source: count such statements apart). THE CARD IS WHAT COUNTS. Prove the row's statement (the work); the ties are given (YtnddjadjmgfgnaaDoorTie.lean); close each card by the builder's one call (the guide's Derived/Test/ToyasCard.lean, 'card_holds'). Laid BY PROGRAM, IN A SANDBOX (cutbox-door.mjs). By AI agents, Wed Nov 11 2026. No macro, syntax, notation, axiom, sorry.
-/
import Derived.Test.YtnddjadjmgfgnaaDoorRows
import GoSem.ClaimSeven
namespace Go.Proofs.YtnddjadjmgfgnaaDoor
namespace Rows

/-- THE TIED CARD OF 'cartularylaw07.ShapeRising'. -/
def shapeRisingCard : Claim7 := { stood := { row := shapeRisingRow, standIns := [], harness := (true, "1038909c501d3efde6279979c87ab9fce3a28e3e0a044dbac4f986d0281a8cdd"), looks := true }, kinds := [], alts := [], laidByText := true, laidKinds := [.data, .handle, .sentinel, .sentinel, .sentinel, .sentinel, .sentinel, .sentinel, .sentinel, .sentinel, .sentinel, .sentinel, .sentinel, .sentinel, .sentinel, .sentinel, .sentinel, .sentinel], laidTests := true, laidLooks := .later }
def ShapeRisingCardSaid : Prop := Claim7.holds Tryd.pinned (.plain (OpenSpec.ofChange shapeRisingSpec)) shapeRisingCard

/-- THE TIED CARD OF 'cartularylaw07.ShapeAll'. -/
def shapeAllCard : Claim7 := { stood := { row := shapeAllRow, standIns := [], harness := (true, "1038909c501d3efde6279979c87ab9fce3a28e3e0a044dbac4f986d0281a8cdd"), looks := true }, kinds := [], alts := [], laidByText := true, laidKinds := [.data, .handle, .sentinel, .sentinel, .sentinel, .sentinel, .sentinel, .sentinel, .sentinel, .sentinel, .sentinel, .sentinel, .sentinel, .sentinel, .sentinel, .sentinel, .sentinel, .sentinel], laidTests := true, laidLooks := .later }
def ShapeAllCardSaid : Prop := Claim7.holds Tryd.pinned (.plain (OpenSpec.ofChange shapeAllSpec)) shapeAllCard

/-- THE TIED CARD OF 'cartularylaw07.ShapeOld'. -/
def shapeOldCard : Claim7 := { stood := { row := shapeOldRow, standIns := [], harness := (true, "1038909c501d3efde6279979c87ab9fce3a28e3e0a044dbac4f986d0281a8cdd"), looks := true }, kinds := [], alts := [], laidByText := true, laidKinds := [.data, .handle, .sentinel, .sentinel, .sentinel, .sentinel, .sentinel, .sentinel, .sentinel, .sentinel, .sentinel, .sentinel, .sentinel, .sentinel, .sentinel, .sentinel, .sentinel, .sentinel], laidTests := true, laidLooks := .later }
def ShapeOldCardSaid : Prop := Claim7.holds Tryd.pinned (.plain (OpenSpec.ofChange shapeOldSpec)) shapeOldCard

/-- THE TIED CARD OF 'cartularylaw07.ShapeSums'. -/
def shapeSumsCard : Claim7 := { stood := { row := shapeSumsRow, standIns := [], harness := (true, "1038909c501d3efde6279979c87ab9fce3a28e3e0a044dbac4f986d0281a8cdd"), looks := true }, kinds := [], alts := [], laidByText := true, laidKinds := [.data, .handle, .sentinel, .sentinel, .sentinel, .sentinel, .sentinel, .sentinel, .sentinel, .sentinel, .sentinel, .sentinel, .sentinel, .sentinel, .sentinel, .sentinel, .sentinel, .sentinel], laidTests := true, laidLooks := .later }
def ShapeSumsCardSaid : Prop := Claim7.holds Tryd.pinned (.plain (OpenSpec.ofChange shapeSumsSpec)) shapeSumsCard

/-- THE SECOND FORM's CARD OF 'cartularylaw07.ShapeRising'. -/
def shapeRisingUptoCard : Claim7 := { stood := { row := shapeRisingUptoRow, standIns := [], harness := (true, "1038909c501d3efde6279979c87ab9fce3a28e3e0a044dbac4f986d0281a8cdd"), looks := true }, kinds := [], alts := [], laidByText := true, laidKinds := [.data, .handle, .sentinel, .sentinel, .sentinel, .sentinel, .sentinel, .sentinel, .sentinel, .sentinel, .sentinel, .sentinel, .sentinel, .sentinel, .sentinel, .sentinel, .sentinel, .sentinel], laidTests := true, laidLooks := .later }
def ShapeRisingUptoCardSaid : Prop := Claim7.holds Tryd.pinned (.plain (OpenSpec.upto shapeRisingSpec)) shapeRisingUptoCard

/-- THE SECOND FORM's CARD OF 'cartularylaw07.ShapeAll'. -/
def shapeAllUptoCard : Claim7 := { stood := { row := shapeAllUptoRow, standIns := [], harness := (true, "1038909c501d3efde6279979c87ab9fce3a28e3e0a044dbac4f986d0281a8cdd"), looks := true }, kinds := [], alts := [], laidByText := true, laidKinds := [.data, .handle, .sentinel, .sentinel, .sentinel, .sentinel, .sentinel, .sentinel, .sentinel, .sentinel, .sentinel, .sentinel, .sentinel, .sentinel, .sentinel, .sentinel, .sentinel, .sentinel], laidTests := true, laidLooks := .later }
def ShapeAllUptoCardSaid : Prop := Claim7.holds Tryd.pinned (.plain (OpenSpec.upto shapeAllSpec)) shapeAllUptoCard

/-- THE SECOND FORM's CARD OF 'cartularylaw07.ShapeOld'. -/
def shapeOldUptoCard : Claim7 := { stood := { row := shapeOldUptoRow, standIns := [], harness := (true, "1038909c501d3efde6279979c87ab9fce3a28e3e0a044dbac4f986d0281a8cdd"), looks := true }, kinds := [], alts := [], laidByText := true, laidKinds := [.data, .handle, .sentinel, .sentinel, .sentinel, .sentinel, .sentinel, .sentinel, .sentinel, .sentinel, .sentinel, .sentinel, .sentinel, .sentinel, .sentinel, .sentinel, .sentinel, .sentinel], laidTests := true, laidLooks := .later }
def ShapeOldUptoCardSaid : Prop := Claim7.holds Tryd.pinned (.plain (OpenSpec.upto shapeOldSpec)) shapeOldUptoCard

/-- THE SECOND FORM's CARD OF 'cartularylaw07.ShapeSums'. -/
def shapeSumsUptoCard : Claim7 := { stood := { row := shapeSumsUptoRow, standIns := [], harness := (true, "1038909c501d3efde6279979c87ab9fce3a28e3e0a044dbac4f986d0281a8cdd"), looks := true }, kinds := [], alts := [], laidByText := true, laidKinds := [.data, .handle, .sentinel, .sentinel, .sentinel, .sentinel, .sentinel, .sentinel, .sentinel, .sentinel, .sentinel, .sentinel, .sentinel, .sentinel, .sentinel, .sentinel, .sentinel, .sentinel], laidTests := true, laidLooks := .later }
def ShapeSumsUptoCardSaid : Prop := Claim7.holds Tryd.pinned (.plain (OpenSpec.upto shapeSumsSpec)) shapeSumsUptoCard
end Rows
end Go.Proofs.YtnddjadjmgfgnaaDoor
