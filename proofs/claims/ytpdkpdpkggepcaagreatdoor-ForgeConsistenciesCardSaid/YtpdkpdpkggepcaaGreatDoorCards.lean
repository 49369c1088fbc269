/-
  DERIVED. GIVEN WITH THE SEED: THE CARDS: each row of YtpdkpdpkggepcaaGreatDoorRows.lean that lists a variable, with what it lists TIED to the program's text (the seventh form; the later family's looks); each row that meets fmt, with fmt's text TOLD by the authors' own Lean function (tested against real Go, not proved from fmt's source: count such statements apart). THE CARD IS WHAT COUNTS. Prove the row's statement (the work); the ties are given (YtpdkpdpkggepcaaGreatDoorTie.lean); close each card by the builder's one call (the guide's Derived/Test/ToyasCard.lean, 'card_holds'). Laid BY PROGRAM, IN A SANDBOX (cutbox-door.mjs). By AI agents, Wed Nov 11 2026. No macro, syntax, notation, axiom, sorry.
-/
import Derived.Test.YtpdkpdpkggepcaaGreatDoorRows
import GoSem.ClaimSeven
namespace Go.Proofs.YtpdkpdpkggepcaaGreatDoor
namespace Rows

/-- THE TIED CARD OF 'cartularylaw20.ForgeInclusions'. -/
def forgeInclusionsCard : Claim7 := { stood := { row := forgeInclusionsRow, standIns := [], harness := (true, "5071d643701929706a8e1a1dc251f36266524e53c5117a6ef76a71e9551df48f"), looks := true }, kinds := [], alts := [], laidByText := true, laidKinds := [.handle, .sentinel, .sentinel, .sentinel, .sentinel, .sentinel, .sentinel, .sentinel, .sentinel, .sentinel, .sentinel, .sentinel, .sentinel, .sentinel, .sentinel, .sentinel, .sentinel, .data], laidTests := true, laidLooks := .later }
def ForgeInclusionsCardSaid : Prop := Claim7.holds Tryz.pinned (.plain (OpenSpec.ofChange forgeInclusionsSpec)) forgeInclusionsCard

/-- THE TIED CARD OF 'cartularylaw20.ForgeConsistencies'. -/
def forgeConsistenciesCard : Claim7 := { stood := { row := forgeConsistenciesRow, standIns := [], harness := (true, "5071d643701929706a8e1a1dc251f36266524e53c5117a6ef76a71e9551df48f"), looks := true }, kinds := [], alts := [], laidByText := true, laidKinds := [.handle, .sentinel, .sentinel, .sentinel, .sentinel, .sentinel, .sentinel, .sentinel, .sentinel, .sentinel, .sentinel, .sentinel, .sentinel, .sentinel, .sentinel, .sentinel, .sentinel, .data], laidTests := true, laidLooks := .later }
def ForgeConsistenciesCardSaid : Prop := Claim7.holds Tryz.pinned (.plain (OpenSpec.ofChange forgeConsistenciesSpec)) forgeConsistenciesCard

/-- THE SECOND FORM's CARD OF 'cartularylaw20.ForgeInclusions'. -/
def forgeInclusionsUptoCard : Claim7 := { stood := { row := forgeInclusionsUptoRow, standIns := [], harness := (true, "5071d643701929706a8e1a1dc251f36266524e53c5117a6ef76a71e9551df48f"), looks := true }, kinds := [], alts := [], laidByText := true, laidKinds := [.handle, .sentinel, .sentinel, .sentinel, .sentinel, .sentinel, .sentinel, .sentinel, .sentinel, .sentinel, .sentinel, .sentinel, .sentinel, .sentinel, .sentinel, .sentinel, .sentinel, .data], laidTests := true, laidLooks := .later }
def ForgeInclusionsUptoCardSaid : Prop := Claim7.holds Tryz.pinned (.plain (OpenSpec.upto forgeInclusionsSpec)) forgeInclusionsUptoCard

/-- THE SECOND FORM's CARD OF 'cartularylaw20.ForgeConsistencies'. -/
def forgeConsistenciesUptoCard : Claim7 := { stood := { row := forgeConsistenciesUptoRow, standIns := [], harness := (true, "5071d643701929706a8e1a1dc251f36266524e53c5117a6ef76a71e9551df48f"), looks := true }, kinds := [], alts := [], laidByText := true, laidKinds := [.handle, .sentinel, .sentinel, .sentinel, .sentinel, .sentinel, .sentinel, .sentinel, .sentinel, .sentinel, .sentinel, .sentinel, .sentinel, .sentinel, .sentinel, .sentinel, .sentinel, .data], laidTests := true, laidLooks := .later }
def ForgeConsistenciesUptoCardSaid : Prop := Claim7.holds Tryz.pinned (.plain (OpenSpec.upto forgeConsistenciesSpec)) forgeConsistenciesUptoCard
end Rows
end Go.Proofs.YtpdkpdpkggepcaaGreatDoor
