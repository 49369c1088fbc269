/-
  DERIVED. GIVEN WITH THE SEED: THE CARDS: each row of YtaekabhcgdjhfaaDoorRows.lean that lists a variable, with what it lists TIED to the program's text (the seventh form; the later family's looks); each row that meets fmt, with fmt's text TOLD by the authors' own Lean function (tested against real Go, not proved from fmt's source: count such statements apart). THE CARD IS WHAT COUNTS. Prove the row's statement (the work); the ties are given (YtaekabhcgdjhfaaDoorTie.lean); close each card by the builder's one call (the guide's Derived/Test/ToyasCard.lean, 'card_holds'). Laid BY PROGRAM, IN A SANDBOX (cutbox-door.mjs). By AI agents, Wed Nov 11 2026. No macro, syntax, notation, axiom, sorry.
-/
import Derived.Test.YtaekabhcgdjhfaaDoorRows
import GoSem.ClaimSeven
namespace Go.Proofs.YtaekabhcgdjhfaaDoor
namespace Rows

/-- THE TIED CARD OF 'cartularylaw20.ForgeInclusion'. -/
def forgeInclusionCard : Claim7 := { stood := { row := forgeInclusionRow, standIns := [], harness := (true, "d5c6611d1ddb979c316c0ed34e2ed6fee5db04ca35e8726349da0cb9d89b51f3"), looks := true }, kinds := [], alts := [], laidByText := true, laidKinds := [.handle, .sentinel, .sentinel, .sentinel, .sentinel, .sentinel, .sentinel, .sentinel, .sentinel, .sentinel, .sentinel, .sentinel, .sentinel, .sentinel, .sentinel, .sentinel, .sentinel, .data], laidTests := true, laidLooks := .later }
def ForgeInclusionCardSaid : Prop := Claim7.holds Tryd.pinned (.plain (OpenSpec.ofChange forgeInclusionSpec)) forgeInclusionCard

/-- THE TIED CARD OF 'cartularylaw20.ForgeConsistency'. -/
def forgeConsistencyCard : Claim7 := { stood := { row := forgeConsistencyRow, standIns := [], harness := (true, "d5c6611d1ddb979c316c0ed34e2ed6fee5db04ca35e8726349da0cb9d89b51f3"), looks := true }, kinds := [], alts := [], laidByText := true, laidKinds := [.handle, .sentinel, .sentinel, .sentinel, .sentinel, .sentinel, .sentinel, .sentinel, .sentinel, .sentinel, .sentinel, .sentinel, .sentinel, .sentinel, .sentinel, .sentinel, .sentinel, .data], laidTests := true, laidLooks := .later }
def ForgeConsistencyCardSaid : Prop := Claim7.holds Tryd.pinned (.plain (OpenSpec.ofChange forgeConsistencySpec)) forgeConsistencyCard

/-- THE TIED CARD OF 'cartularylaw20.ForgeBatch'. -/
def forgeBatchCard : Claim7 := { stood := { row := forgeBatchRow, standIns := [], harness := (true, "d5c6611d1ddb979c316c0ed34e2ed6fee5db04ca35e8726349da0cb9d89b51f3"), looks := true }, kinds := [], alts := [], laidByText := true, laidKinds := [.handle, .sentinel, .sentinel, .sentinel, .sentinel, .sentinel, .sentinel, .sentinel, .sentinel, .sentinel, .sentinel, .sentinel, .sentinel, .sentinel, .sentinel, .sentinel, .sentinel, .data], laidTests := true, laidLooks := .later }
def ForgeBatchCardSaid : Prop := Claim7.holds Tryd.pinned (.plain (OpenSpec.ofChange forgeBatchSpec)) forgeBatchCard

/-- THE TIED CARD OF 'cartularylaw20.ForgeNone'. -/
def forgeNoneCard : Claim7 := { stood := { row := forgeNoneRow, standIns := [], harness := (true, "d5c6611d1ddb979c316c0ed34e2ed6fee5db04ca35e8726349da0cb9d89b51f3"), looks := true }, kinds := [], alts := [], laidByText := true, laidKinds := [.handle, .sentinel, .sentinel, .sentinel, .sentinel, .sentinel, .sentinel, .sentinel, .sentinel, .sentinel, .sentinel, .sentinel, .sentinel, .sentinel, .sentinel, .sentinel, .sentinel, .data], laidTests := true, laidLooks := .later }
def ForgeNoneCardSaid : Prop := Claim7.holds Tryd.pinned (.plain (OpenSpec.ofChange forgeNoneSpec)) forgeNoneCard

/-- THE SECOND FORM's CARD OF 'cartularylaw20.ForgeInclusion'. -/
def forgeInclusionUptoCard : Claim7 := { stood := { row := forgeInclusionUptoRow, standIns := [], harness := (true, "d5c6611d1ddb979c316c0ed34e2ed6fee5db04ca35e8726349da0cb9d89b51f3"), looks := true }, kinds := [], alts := [], laidByText := true, laidKinds := [.handle, .sentinel, .sentinel, .sentinel, .sentinel, .sentinel, .sentinel, .sentinel, .sentinel, .sentinel, .sentinel, .sentinel, .sentinel, .sentinel, .sentinel, .sentinel, .sentinel, .data], laidTests := true, laidLooks := .later }
def ForgeInclusionUptoCardSaid : Prop := Claim7.holds Tryd.pinned (.plain (OpenSpec.upto forgeInclusionSpec)) forgeInclusionUptoCard

/-- THE SECOND FORM's CARD OF 'cartularylaw20.ForgeConsistency'. -/
def forgeConsistencyUptoCard : Claim7 := { stood := { row := forgeConsistencyUptoRow, standIns := [], harness := (true, "d5c6611d1ddb979c316c0ed34e2ed6fee5db04ca35e8726349da0cb9d89b51f3"), looks := true }, kinds := [], alts := [], laidByText := true, laidKinds := [.handle, .sentinel, .sentinel, .sentinel, .sentinel, .sentinel, .sentinel, .sentinel, .sentinel, .sentinel, .sentinel, .sentinel, .sentinel, .sentinel, .sentinel, .sentinel, .sentinel, .data], laidTests := true, laidLooks := .later }
def ForgeConsistencyUptoCardSaid : Prop := Claim7.holds Tryd.pinned (.plain (OpenSpec.upto forgeConsistencySpec)) forgeConsistencyUptoCard

/-- THE SECOND FORM's CARD OF 'cartularylaw20.ForgeBatch'. -/
def forgeBatchUptoCard : Claim7 := { stood := { row := forgeBatchUptoRow, standIns := [], harness := (true, "d5c6611d1ddb979c316c0ed34e2ed6fee5db04ca35e8726349da0cb9d89b51f3"), looks := true }, kinds := [], alts := [], laidByText := true, laidKinds := [.handle, .sentinel, .sentinel, .sentinel, .sentinel, .sentinel, .sentinel, .sentinel, .sentinel, .sentinel, .sentinel, .sentinel, .sentinel, .sentinel, .sentinel, .sentinel, .sentinel, .data], laidTests := true, laidLooks := .later }
def ForgeBatchUptoCardSaid : Prop := Claim7.holds Tryd.pinned (.plain (OpenSpec.upto forgeBatchSpec)) forgeBatchUptoCard

/-- THE SECOND FORM's CARD OF 'cartularylaw20.ForgeNone'. -/
def forgeNoneUptoCard : Claim7 := { stood := { row := forgeNoneUptoRow, standIns := [], harness := (true, "d5c6611d1ddb979c316c0ed34e2ed6fee5db04ca35e8726349da0cb9d89b51f3"), looks := true }, kinds := [], alts := [], laidByText := true, laidKinds := [.handle, .sentinel, .sentinel, .sentinel, .sentinel, .sentinel, .sentinel, .sentinel, .sentinel, .sentinel, .sentinel, .sentinel, .sentinel, .sentinel, .sentinel, .sentinel, .sentinel, .data], laidTests := true, laidLooks := .later }
def ForgeNoneUptoCardSaid : Prop := Claim7.holds Tryd.pinned (.plain (OpenSpec.upto forgeNoneSpec)) forgeNoneUptoCard
end Rows
end Go.Proofs.YtaekabhcgdjhfaaDoor
