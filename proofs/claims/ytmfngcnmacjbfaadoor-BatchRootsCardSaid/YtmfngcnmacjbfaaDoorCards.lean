/-
  DERIVED. GIVEN WITH THE SEED: THE CARDS: each row of YtmfngcnmacjbfaaDoorRows.lean that lists a variable, with what it lists TIED to the program's text (the seventh form; the later family's looks); each row that meets fmt, with fmt's text TOLD by the authors' own Lean function (tested against real Go, not proved from fmt's source: count such statements apart). THE CARD IS WHAT COUNTS. Prove the row's statement (the work); the ties are given (YtmfngcnmacjbfaaDoorTie.lean); close each card by the builder's one call (the guide's Derived/Test/ToyasCard.lean, 'card_holds'). Laid BY PROGRAM, IN A SANDBOX (cutbox-door.mjs). By AI agents, Wed Nov 11 2026. No macro, syntax, notation, axiom, sorry.
-/
import Derived.Test.YtmfngcnmacjbfaaDoorRows
import GoSem.ClaimSeven
namespace Go.Proofs.YtmfngcnmacjbfaaDoor
namespace Rows

/-- THE TIED CARD OF 'cartularylaw19.BatchRoots'. -/
def batchRootsCard : Claim7 := { stood := { row := batchRootsRow, standIns := [], harness := (true, "8cad7191b8b60303b1cf6bc55e69d7406794fb1cc647d595122d47824431faf4"), looks := true }, kinds := [], alts := [], laidByText := true, laidKinds := [.handle, .sentinel, .sentinel, .sentinel, .sentinel, .sentinel, .sentinel, .sentinel, .sentinel, .sentinel, .sentinel, .sentinel, .sentinel, .sentinel, .sentinel, .sentinel, .sentinel, .data], laidTests := true, laidLooks := .later }
def BatchRootsCardSaid : Prop := Claim7.holds Tryd.pinned (.plain (OpenSpec.ofChange batchRootsSpec)) batchRootsCard

/-- THE TIED CARD OF 'cartularylaw19.BatchCounts'. -/
def batchCountsCard : Claim7 := { stood := { row := batchCountsRow, standIns := [], harness := (true, "8cad7191b8b60303b1cf6bc55e69d7406794fb1cc647d595122d47824431faf4"), looks := true }, kinds := [], alts := [], laidByText := true, laidKinds := [.handle, .sentinel, .sentinel, .sentinel, .sentinel, .sentinel, .sentinel, .sentinel, .sentinel, .sentinel, .sentinel, .sentinel, .sentinel, .sentinel, .sentinel, .sentinel, .sentinel, .data], laidTests := true, laidLooks := .later }
def BatchCountsCardSaid : Prop := Claim7.holds Tryd.pinned (.plain (OpenSpec.ofChange batchCountsSpec)) batchCountsCard

/-- THE TIED CARD OF 'cartularylaw08.NaiveTrees'. -/
def naiveTreesCard : Claim7 := { stood := { row := naiveTreesRow, standIns := [], harness := (true, "8cad7191b8b60303b1cf6bc55e69d7406794fb1cc647d595122d47824431faf4"), looks := true }, kinds := [], alts := [], laidByText := true, laidKinds := [.handle, .sentinel, .sentinel, .sentinel, .sentinel, .sentinel, .sentinel, .sentinel, .sentinel, .sentinel, .sentinel, .sentinel, .sentinel, .sentinel, .sentinel, .sentinel, .sentinel, .data], laidTests := true, laidLooks := .later }
def NaiveTreesCardSaid : Prop := Claim7.holds Tryd.pinned (.plain (OpenSpec.ofChange naiveTreesSpec)) naiveTreesCard

/-- THE TIED CARD OF 'cartularytop.TopProven'. -/
def topProvenCard : Claim7 := { stood := { row := topProvenRow, standIns := [], harness := (true, "8cad7191b8b60303b1cf6bc55e69d7406794fb1cc647d595122d47824431faf4"), looks := true }, kinds := [], alts := [], laidByText := true, laidKinds := [.sentinel, .sentinel, .sentinel, .sentinel, .sentinel, .data], laidTests := true, laidLooks := .later }
def TopProvenCardSaid : Prop := Claim7.holds Tryd.pinned (.plain (OpenSpec.ofChange topProvenSpec)) topProvenCard

/-- THE TIED CARD OF 'cartularylaw19.BatchProves'. -/
def batchProvesCard : Claim7 := { stood := { row := batchProvesRow, standIns := [], harness := (true, "8cad7191b8b60303b1cf6bc55e69d7406794fb1cc647d595122d47824431faf4"), looks := true }, kinds := [], alts := [], laidByText := true, laidKinds := [.handle, .sentinel, .sentinel, .sentinel, .sentinel, .sentinel, .sentinel, .sentinel, .sentinel, .sentinel, .sentinel, .sentinel, .sentinel, .sentinel, .sentinel, .sentinel, .sentinel, .data], laidTests := true, laidLooks := .later }
def BatchProvesCardSaid : Prop := Claim7.holds Tryd.pinned (.plain (OpenSpec.ofChange batchProvesSpec)) batchProvesCard

/-- THE TIED CARD OF 'cartularylaw08.NaiveShapes'. -/
def naiveShapesCard : Claim7 := { stood := { row := naiveShapesRow, standIns := [], harness := (true, "8cad7191b8b60303b1cf6bc55e69d7406794fb1cc647d595122d47824431faf4"), looks := true }, kinds := [], alts := [], laidByText := true, laidKinds := [.handle, .sentinel, .sentinel, .sentinel, .sentinel, .sentinel, .sentinel, .sentinel, .sentinel, .sentinel, .sentinel, .sentinel, .sentinel, .sentinel, .sentinel, .sentinel, .sentinel, .data], laidTests := true, laidLooks := .later }
def NaiveShapesCardSaid : Prop := Claim7.holds Tryd.pinned (.plain (OpenSpec.ofChange naiveShapesSpec)) naiveShapesCard

/-- THE TIED CARD OF 'cartularylaw08.NaiveStays'. -/
def naiveStaysCard : Claim7 := { stood := { row := naiveStaysRow, standIns := [], harness := (true, "8cad7191b8b60303b1cf6bc55e69d7406794fb1cc647d595122d47824431faf4"), looks := true }, kinds := [], alts := [], laidByText := true, laidKinds := [.handle, .sentinel, .sentinel, .sentinel, .sentinel, .sentinel, .sentinel, .sentinel, .sentinel, .sentinel, .sentinel, .sentinel, .sentinel, .sentinel, .sentinel, .sentinel, .sentinel, .data], laidTests := true, laidLooks := .later }
def NaiveStaysCardSaid : Prop := Claim7.holds Tryd.pinned (.plain (OpenSpec.ofChange naiveStaysSpec)) naiveStaysCard

/-- THE TIED CARD OF 'cartularylaw08.NaiveNames'. -/
def naiveNamesCard : Claim7 := { stood := { row := naiveNamesRow, standIns := [], harness := (true, "8cad7191b8b60303b1cf6bc55e69d7406794fb1cc647d595122d47824431faf4"), looks := true }, kinds := [], alts := [], laidByText := true, laidKinds := [.handle, .sentinel, .sentinel, .sentinel, .sentinel, .sentinel, .sentinel, .sentinel, .sentinel, .sentinel, .sentinel, .sentinel, .sentinel, .sentinel, .sentinel, .sentinel, .sentinel, .data], laidTests := true, laidLooks := .later }
def NaiveNamesCardSaid : Prop := Claim7.holds Tryd.pinned (.plain (OpenSpec.ofChange naiveNamesSpec)) naiveNamesCard

/-- THE TIED CARD OF 'cartularylaw19.BatchLogs'. -/
def batchLogsCard : Claim7 := { stood := { row := batchLogsRow, standIns := [], harness := (true, "8cad7191b8b60303b1cf6bc55e69d7406794fb1cc647d595122d47824431faf4"), looks := true }, kinds := [], alts := [], laidByText := true, laidKinds := [.handle, .sentinel, .sentinel, .sentinel, .sentinel, .sentinel, .sentinel, .sentinel, .sentinel, .sentinel, .sentinel, .sentinel, .sentinel, .sentinel, .sentinel, .sentinel, .sentinel, .data], laidTests := true, laidLooks := .later }
def BatchLogsCardSaid : Prop := Claim7.holds Tryd.pinned (.plain (OpenSpec.ofChange batchLogsSpec)) batchLogsCard

/-- THE SECOND FORM's CARD OF 'cartularylaw19.BatchRoots'. -/
def batchRootsUptoCard : Claim7 := { stood := { row := batchRootsUptoRow, standIns := [], harness := (true, "8cad7191b8b60303b1cf6bc55e69d7406794fb1cc647d595122d47824431faf4"), looks := true }, kinds := [], alts := [], laidByText := true, laidKinds := [.handle, .sentinel, .sentinel, .sentinel, .sentinel, .sentinel, .sentinel, .sentinel, .sentinel, .sentinel, .sentinel, .sentinel, .sentinel, .sentinel, .sentinel, .sentinel, .sentinel, .data], laidTests := true, laidLooks := .later }
def BatchRootsUptoCardSaid : Prop := Claim7.holds Tryd.pinned (.plain (OpenSpec.upto batchRootsSpec)) batchRootsUptoCard

/-- THE SECOND FORM's CARD OF 'cartularylaw19.BatchCounts'. -/
def batchCountsUptoCard : Claim7 := { stood := { row := batchCountsUptoRow, standIns := [], harness := (true, "8cad7191b8b60303b1cf6bc55e69d7406794fb1cc647d595122d47824431faf4"), looks := true }, kinds := [], alts := [], laidByText := true, laidKinds := [.handle, .sentinel, .sentinel, .sentinel, .sentinel, .sentinel, .sentinel, .sentinel, .sentinel, .sentinel, .sentinel, .sentinel, .sentinel, .sentinel, .sentinel, .sentinel, .sentinel, .data], laidTests := true, laidLooks := .later }
def BatchCountsUptoCardSaid : Prop := Claim7.holds Tryd.pinned (.plain (OpenSpec.upto batchCountsSpec)) batchCountsUptoCard

/-- THE SECOND FORM's CARD OF 'cartularylaw08.NaiveTrees'. -/
def naiveTreesUptoCard : Claim7 := { stood := { row := naiveTreesUptoRow, standIns := [], harness := (true, "8cad7191b8b60303b1cf6bc55e69d7406794fb1cc647d595122d47824431faf4"), looks := true }, kinds := [], alts := [], laidByText := true, laidKinds := [.handle, .sentinel, .sentinel, .sentinel, .sentinel, .sentinel, .sentinel, .sentinel, .sentinel, .sentinel, .sentinel, .sentinel, .sentinel, .sentinel, .sentinel, .sentinel, .sentinel, .data], laidTests := true, laidLooks := .later }
def NaiveTreesUptoCardSaid : Prop := Claim7.holds Tryd.pinned (.plain (OpenSpec.upto naiveTreesSpec)) naiveTreesUptoCard

/-- THE SECOND FORM's CARD OF 'cartularytop.TopProven'. -/
def topProvenUptoCard : Claim7 := { stood := { row := topProvenUptoRow, standIns := [], harness := (true, "8cad7191b8b60303b1cf6bc55e69d7406794fb1cc647d595122d47824431faf4"), looks := true }, kinds := [], alts := [], laidByText := true, laidKinds := [.sentinel, .sentinel, .sentinel, .sentinel, .sentinel, .data], laidTests := true, laidLooks := .later }
def TopProvenUptoCardSaid : Prop := Claim7.holds Tryd.pinned (.plain (OpenSpec.upto topProvenSpec)) topProvenUptoCard

/-- THE SECOND FORM's CARD OF 'cartularylaw19.BatchProves'. -/
def batchProvesUptoCard : Claim7 := { stood := { row := batchProvesUptoRow, standIns := [], harness := (true, "8cad7191b8b60303b1cf6bc55e69d7406794fb1cc647d595122d47824431faf4"), looks := true }, kinds := [], alts := [], laidByText := true, laidKinds := [.handle, .sentinel, .sentinel, .sentinel, .sentinel, .sentinel, .sentinel, .sentinel, .sentinel, .sentinel, .sentinel, .sentinel, .sentinel, .sentinel, .sentinel, .sentinel, .sentinel, .data], laidTests := true, laidLooks := .later }
def BatchProvesUptoCardSaid : Prop := Claim7.holds Tryd.pinned (.plain (OpenSpec.upto batchProvesSpec)) batchProvesUptoCard

/-- THE SECOND FORM's CARD OF 'cartularylaw08.NaiveShapes'. -/
def naiveShapesUptoCard : Claim7 := { stood := { row := naiveShapesUptoRow, standIns := [], harness := (true, "8cad7191b8b60303b1cf6bc55e69d7406794fb1cc647d595122d47824431faf4"), looks := true }, kinds := [], alts := [], laidByText := true, laidKinds := [.handle, .sentinel, .sentinel, .sentinel, .sentinel, .sentinel, .sentinel, .sentinel, .sentinel, .sentinel, .sentinel, .sentinel, .sentinel, .sentinel, .sentinel, .sentinel, .sentinel, .data], laidTests := true, laidLooks := .later }
def NaiveShapesUptoCardSaid : Prop := Claim7.holds Tryd.pinned (.plain (OpenSpec.upto naiveShapesSpec)) naiveShapesUptoCard

/-- THE SECOND FORM's CARD OF 'cartularylaw08.NaiveStays'. -/
def naiveStaysUptoCard : Claim7 := { stood := { row := naiveStaysUptoRow, standIns := [], harness := (true, "8cad7191b8b60303b1cf6bc55e69d7406794fb1cc647d595122d47824431faf4"), looks := true }, kinds := [], alts := [], laidByText := true, laidKinds := [.handle, .sentinel, .sentinel, .sentinel, .sentinel, .sentinel, .sentinel, .sentinel, .sentinel, .sentinel, .sentinel, .sentinel, .sentinel, .sentinel, .sentinel, .sentinel, .sentinel, .data], laidTests := true, laidLooks := .later }
def NaiveStaysUptoCardSaid : Prop := Claim7.holds Tryd.pinned (.plain (OpenSpec.upto naiveStaysSpec)) naiveStaysUptoCard

/-- THE SECOND FORM's CARD OF 'cartularylaw08.NaiveNames'. -/
def naiveNamesUptoCard : Claim7 := { stood := { row := naiveNamesUptoRow, standIns := [], harness := (true, "8cad7191b8b60303b1cf6bc55e69d7406794fb1cc647d595122d47824431faf4"), looks := true }, kinds := [], alts := [], laidByText := true, laidKinds := [.handle, .sentinel, .sentinel, .sentinel, .sentinel, .sentinel, .sentinel, .sentinel, .sentinel, .sentinel, .sentinel, .sentinel, .sentinel, .sentinel, .sentinel, .sentinel, .sentinel, .data], laidTests := true, laidLooks := .later }
def NaiveNamesUptoCardSaid : Prop := Claim7.holds Tryd.pinned (.plain (OpenSpec.upto naiveNamesSpec)) naiveNamesUptoCard

/-- THE SECOND FORM's CARD OF 'cartularylaw19.BatchLogs'. -/
def batchLogsUptoCard : Claim7 := { stood := { row := batchLogsUptoRow, standIns := [], harness := (true, "8cad7191b8b60303b1cf6bc55e69d7406794fb1cc647d595122d47824431faf4"), looks := true }, kinds := [], alts := [], laidByText := true, laidKinds := [.handle, .sentinel, .sentinel, .sentinel, .sentinel, .sentinel, .sentinel, .sentinel, .sentinel, .sentinel, .sentinel, .sentinel, .sentinel, .sentinel, .sentinel, .sentinel, .sentinel, .data], laidTests := true, laidLooks := .later }
def BatchLogsUptoCardSaid : Prop := Claim7.holds Tryd.pinned (.plain (OpenSpec.upto batchLogsSpec)) batchLogsUptoCard
end Rows
end Go.Proofs.YtmfngcnmacjbfaaDoor
