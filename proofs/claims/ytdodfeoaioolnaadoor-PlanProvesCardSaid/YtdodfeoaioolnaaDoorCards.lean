/-
  DERIVED. GIVEN WITH THE SEED: THE CARDS: each row of YtdodfeoaioolnaaDoorRows.lean that lists a variable, with what it lists TIED to the program's text (the seventh form; the later family's looks); each row that meets fmt, with fmt's text TOLD by the authors' own Lean function (tested against real Go, not proved from fmt's source: count such statements apart). THE CARD IS WHAT COUNTS. Prove the row's statement (the work); the ties are given (YtdodfeoaioolnaaDoorTie.lean); close each card by the builder's one call (the guide's Derived/Test/ToyasCard.lean, 'card_holds'). Laid BY PROGRAM, IN A SANDBOX (cutbox-door.mjs). By AI agents, Wed Nov 11 2026. No macro, syntax, notation, axiom, sorry.
-/
import Derived.Test.YtdodfeoaioolnaaDoorRows
import GoSem.ClaimSeven
namespace Go.Proofs.YtdodfeoaioolnaaDoor
namespace Rows

/-- THE TIED CARD OF 'cartularylaw15.PlanFolds'. -/
def planFoldsCard : Claim7 := { stood := { row := planFoldsRow, standIns := [], harness := (true, "c96cab2e37e33c632af31cf8592f8d7c0dc0462ecf8655a0e40965a816e48b6a"), looks := true }, kinds := [], alts := [], laidByText := true, laidKinds := [.data, .handle, .sentinel, .sentinel, .sentinel, .sentinel, .sentinel, .sentinel, .sentinel, .sentinel, .sentinel, .sentinel, .sentinel, .sentinel, .sentinel, .sentinel, .sentinel, .sentinel, .data], laidTests := true, laidLooks := .later }
def PlanFoldsCardSaid : Prop := Claim7.holds Tryd.pinned (.plain (OpenSpec.ofChange planFoldsSpec)) planFoldsCard

/-- THE TIED CARD OF 'cartularylaw15.PlanFew'. -/
def planFewCard : Claim7 := { stood := { row := planFewRow, standIns := [], harness := (true, "c96cab2e37e33c632af31cf8592f8d7c0dc0462ecf8655a0e40965a816e48b6a"), looks := true }, kinds := [], alts := [], laidByText := true, laidKinds := [.data, .handle, .sentinel, .sentinel, .sentinel, .sentinel, .sentinel, .sentinel, .sentinel, .sentinel, .sentinel, .sentinel, .sentinel, .sentinel, .sentinel, .sentinel, .sentinel, .sentinel, .data], laidTests := true, laidLooks := .later }
def PlanFewCardSaid : Prop := Claim7.holds Tryd.pinned (.plain (OpenSpec.ofChange planFewSpec)) planFewCard

/-- THE TIED CARD OF 'cartularylaw15.PlanRows'. -/
def planRowsCard : Claim7 := { stood := { row := planRowsRow, standIns := [], harness := (true, "c96cab2e37e33c632af31cf8592f8d7c0dc0462ecf8655a0e40965a816e48b6a"), looks := true }, kinds := [], alts := [], laidByText := true, laidKinds := [.data, .handle, .sentinel, .sentinel, .sentinel, .sentinel, .sentinel, .sentinel, .sentinel, .sentinel, .sentinel, .sentinel, .sentinel, .sentinel, .sentinel, .sentinel, .sentinel, .sentinel, .data], laidTests := true, laidLooks := .later }
def PlanRowsCardSaid : Prop := Claim7.holds Tryd.pinned (.plain (OpenSpec.ofChange planRowsSpec)) planRowsCard

/-- THE TIED CARD OF 'cartularylaw15.PlanProves'. -/
def planProvesCard : Claim7 := { stood := { row := planProvesRow, standIns := [], harness := (true, "c96cab2e37e33c632af31cf8592f8d7c0dc0462ecf8655a0e40965a816e48b6a"), looks := true }, kinds := [], alts := [], laidByText := true, laidKinds := [.data, .handle, .sentinel, .sentinel, .sentinel, .sentinel, .sentinel, .sentinel, .sentinel, .sentinel, .sentinel, .sentinel, .sentinel, .sentinel, .sentinel, .sentinel, .sentinel, .sentinel, .data], laidTests := true, laidLooks := .later }
def PlanProvesCardSaid : Prop := Claim7.holds Tryd.pinned (.plain (OpenSpec.ofChange planProvesSpec)) planProvesCard

/-- THE SECOND FORM's CARD OF 'cartularylaw15.PlanFolds'. -/
def planFoldsUptoCard : Claim7 := { stood := { row := planFoldsUptoRow, standIns := [], harness := (true, "c96cab2e37e33c632af31cf8592f8d7c0dc0462ecf8655a0e40965a816e48b6a"), looks := true }, kinds := [], alts := [], laidByText := true, laidKinds := [.data, .handle, .sentinel, .sentinel, .sentinel, .sentinel, .sentinel, .sentinel, .sentinel, .sentinel, .sentinel, .sentinel, .sentinel, .sentinel, .sentinel, .sentinel, .sentinel, .sentinel, .data], laidTests := true, laidLooks := .later }
def PlanFoldsUptoCardSaid : Prop := Claim7.holds Tryd.pinned (.plain (OpenSpec.upto planFoldsSpec)) planFoldsUptoCard

/-- THE SECOND FORM's CARD OF 'cartularylaw15.PlanFew'. -/
def planFewUptoCard : Claim7 := { stood := { row := planFewUptoRow, standIns := [], harness := (true, "c96cab2e37e33c632af31cf8592f8d7c0dc0462ecf8655a0e40965a816e48b6a"), looks := true }, kinds := [], alts := [], laidByText := true, laidKinds := [.data, .handle, .sentinel, .sentinel, .sentinel, .sentinel, .sentinel, .sentinel, .sentinel, .sentinel, .sentinel, .sentinel, .sentinel, .sentinel, .sentinel, .sentinel, .sentinel, .sentinel, .data], laidTests := true, laidLooks := .later }
def PlanFewUptoCardSaid : Prop := Claim7.holds Tryd.pinned (.plain (OpenSpec.upto planFewSpec)) planFewUptoCard

/-- THE SECOND FORM's CARD OF 'cartularylaw15.PlanRows'. -/
def planRowsUptoCard : Claim7 := { stood := { row := planRowsUptoRow, standIns := [], harness := (true, "c96cab2e37e33c632af31cf8592f8d7c0dc0462ecf8655a0e40965a816e48b6a"), looks := true }, kinds := [], alts := [], laidByText := true, laidKinds := [.data, .handle, .sentinel, .sentinel, .sentinel, .sentinel, .sentinel, .sentinel, .sentinel, .sentinel, .sentinel, .sentinel, .sentinel, .sentinel, .sentinel, .sentinel, .sentinel, .sentinel, .data], laidTests := true, laidLooks := .later }
def PlanRowsUptoCardSaid : Prop := Claim7.holds Tryd.pinned (.plain (OpenSpec.upto planRowsSpec)) planRowsUptoCard

/-- THE SECOND FORM's CARD OF 'cartularylaw15.PlanProves'. -/
def planProvesUptoCard : Claim7 := { stood := { row := planProvesUptoRow, standIns := [], harness := (true, "c96cab2e37e33c632af31cf8592f8d7c0dc0462ecf8655a0e40965a816e48b6a"), looks := true }, kinds := [], alts := [], laidByText := true, laidKinds := [.data, .handle, .sentinel, .sentinel, .sentinel, .sentinel, .sentinel, .sentinel, .sentinel, .sentinel, .sentinel, .sentinel, .sentinel, .sentinel, .sentinel, .sentinel, .sentinel, .sentinel, .data], laidTests := true, laidLooks := .later }
def PlanProvesUptoCardSaid : Prop := Claim7.holds Tryd.pinned (.plain (OpenSpec.upto planProvesSpec)) planProvesUptoCard
end Rows
end Go.Proofs.YtdodfeoaioolnaaDoor
