import Derived.Test.YtnpblpbcchminaaGreatDoorRows
import Derived.Test.YtnpblpbcchminaaGreatDoorKbSameHashes
import Derived.Deep.MidRow
import Derived.BigRegion
import Derived.Deep.DeepCutAuto
import Derived.OwnWalk
import Derived.BigQuiet
import Derived.Deep.QuietTactic
import Derived.Deep.RegionHeld3
import Derived.Outline
import Derived.StillTailTactics
/- cartularylaw01.Book: fill.. of a kind of which the book holds no list. No condition. -/
namespace Go.Proofs.YtnpblpbcchminaaGreatDoor
open Go.ChangeShapes Go.WideShapes Go.ChangeAt Go.RowKit
set_option linter.unusedVariables false
theorem fill_nil_Int (K : Nat) (w : World) (hc : w.cell? ⟨K, 1, none⟩ = some (.slice none 0 0)) :
    Calls Tryz.prog 55 #[.pointer (some ⟨K, 0, none⟩)] w fun ev w' => ev = .returned (.tuple #[]) ∧ w = w' := by
  go_enter Tryz.func55, Tryz.ntmps55
  go_wp2
  go_loopw [2] (fun i wr => i = .int .i64 0 ∧ wr = w) (fun _ _ => 0)
  case atStart => exact ⟨rfl, rfl⟩
  case round =>
    obtain ⟨rfl, rfl⟩ := hrel
    go_wp2
    go_end0
    exact ⟨rfl, rfl⟩
theorem fill_nil_Byte (K : Nat) (w : World) (hc : w.cell? ⟨K, 2, none⟩ = some (.slice none 0 0)) :
    Calls Tryz.prog 56 #[.pointer (some ⟨K, 0, none⟩)] w fun ev w' => ev = .returned (.tuple #[]) ∧ w = w' := by
  go_enter Tryz.func56, Tryz.ntmps56
  go_wp2
  go_loopw [2] (fun i wr => i = .int .i64 0 ∧ wr = w) (fun _ _ => 0)
  case atStart => exact ⟨rfl, rfl⟩
  case round =>
    obtain ⟨rfl, rfl⟩ := hrel
    go_wp2
    go_end0
    exact ⟨rfl, rfl⟩
theorem fill_nil_Text (K : Nat) (w : World) (hc : w.cell? ⟨K, 3, none⟩ = some (.slice none 0 0)) :
    Calls Tryz.prog 57 #[.pointer (some ⟨K, 0, none⟩)] w fun ev w' => ev = .returned (.tuple #[]) ∧ w = w' := by
  go_enter Tryz.func57, Tryz.ntmps57
  go_wp2
  go_loopw [2] (fun i wr => i = .int .i64 0 ∧ wr = w) (fun _ _ => 0)
  case atStart => exact ⟨rfl, rfl⟩
  case round =>
    obtain ⟨rfl, rfl⟩ := hrel
    go_wp2
    go_end0
    exact ⟨rfl, rfl⟩
theorem fill_nil_Number (K : Nat) (w : World) (hc : w.cell? ⟨K, 4, none⟩ = some (.slice none 0 0)) :
    Calls Tryz.prog 58 #[.pointer (some ⟨K, 0, none⟩)] w fun ev w' => ev = .returned (.tuple #[]) ∧ w = w' := by
  go_enter Tryz.func58, Tryz.ntmps58
  go_wp2
  go_loopw [2] (fun i wr => i = .int .i64 0 ∧ wr = w) (fun _ _ => 0)
  case atStart => exact ⟨rfl, rfl⟩
  case round =>
    obtain ⟨rfl, rfl⟩ := hrel
    go_wp2
    go_end0
    exact ⟨rfl, rfl⟩
theorem fill_nil_Coord (K : Nat) (w : World) (hc : w.cell? ⟨K, 6, none⟩ = some (.slice none 0 0)) :
    Calls Tryz.prog 60 #[.pointer (some ⟨K, 0, none⟩)] w fun ev w' => ev = .returned (.tuple #[]) ∧ w = w' := by
  go_enter Tryz.func60, Tryz.ntmps60
  go_wp2
  go_loopw [2] (fun i wr => i = .int .i64 0 ∧ wr = w) (fun _ _ => 0)
  case atStart => exact ⟨rfl, rfl⟩
  case round =>
    obtain ⟨rfl, rfl⟩ := hrel
    go_wp2
    go_end0
    exact ⟨rfl, rfl⟩
theorem fill_nil_Span (K : Nat) (w : World) (hc : w.cell? ⟨K, 7, none⟩ = some (.slice none 0 0)) :
    Calls Tryz.prog 61 #[.pointer (some ⟨K, 0, none⟩)] w fun ev w' => ev = .returned (.tuple #[]) ∧ w = w' := by
  go_enter Tryz.func61, Tryz.ntmps61
  go_wp2
  go_loopw [2] (fun i wr => i = .int .i64 0 ∧ wr = w) (fun _ _ => 0)
  case atStart => exact ⟨rfl, rfl⟩
  case round =>
    obtain ⟨rfl, rfl⟩ := hrel
    go_wp2
    go_end0
    exact ⟨rfl, rfl⟩
theorem fill_nil_Node (K : Nat) (w : World) (hc : w.cell? ⟨K, 8, none⟩ = some (.slice none 0 0)) :
    Calls Tryz.prog 62 #[.pointer (some ⟨K, 0, none⟩)] w fun ev w' => ev = .returned (.tuple #[]) ∧ w = w' := by
  go_enter Tryz.func62, Tryz.ntmps62
  go_wp2
  go_loopw [2] (fun i wr => i = .int .i64 0 ∧ wr = w) (fun _ _ => 0)
  case atStart => exact ⟨rfl, rfl⟩
  case round =>
    obtain ⟨rfl, rfl⟩ := hrel
    go_wp2
    go_end0
    exact ⟨rfl, rfl⟩
theorem fill_nil_Tile (K : Nat) (w : World) (hc : w.cell? ⟨K, 9, none⟩ = some (.slice none 0 0)) :
    Calls Tryz.prog 63 #[.pointer (some ⟨K, 0, none⟩)] w fun ev w' => ev = .returned (.tuple #[]) ∧ w = w' := by
  go_enter Tryz.func63, Tryz.ntmps63
  go_wp2
  go_loopw [2] (fun i wr => i = .int .i64 0 ∧ wr = w) (fun _ _ => 0)
  case atStart => exact ⟨rfl, rfl⟩
  case round =>
    obtain ⟨rfl, rfl⟩ := hrel
    go_wp2
    go_end0
    exact ⟨rfl, rfl⟩
theorem fill_nil_Entry (K : Nat) (w : World) (hc : w.cell? ⟨K, 10, none⟩ = some (.slice none 0 0)) :
    Calls Tryz.prog 64 #[.pointer (some ⟨K, 0, none⟩)] w fun ev w' => ev = .returned (.tuple #[]) ∧ w = w' := by
  go_enter Tryz.func64, Tryz.ntmps64
  go_wp2
  go_loopw [2] (fun i wr => i = .int .i64 0 ∧ wr = w) (fun _ _ => 0)
  case atStart => exact ⟨rfl, rfl⟩
  case round =>
    obtain ⟨rfl, rfl⟩ := hrel
    go_wp2
    go_end0
    exact ⟨rfl, rfl⟩
theorem fill_nil_Found (K : Nat) (w : World) (hc : w.cell? ⟨K, 11, none⟩ = some (.slice none 0 0)) :
    Calls Tryz.prog 65 #[.pointer (some ⟨K, 0, none⟩)] w fun ev w' => ev = .returned (.tuple #[]) ∧ w = w' := by
  go_enter Tryz.func65, Tryz.ntmps65
  go_wp2
  go_loopw [2] (fun i wr => i = .int .i64 0 ∧ wr = w) (fun _ _ => 0)
  case atStart => exact ⟨rfl, rfl⟩
  case round =>
    obtain ⟨rfl, rfl⟩ := hrel
    go_wp2
    go_end0
    exact ⟨rfl, rfl⟩
theorem fill_nil_Known (K : Nat) (w : World) (hc : w.cell? ⟨K, 12, none⟩ = some (.slice none 0 0)) :
    Calls Tryz.prog 66 #[.pointer (some ⟨K, 0, none⟩)] w fun ev w' => ev = .returned (.tuple #[]) ∧ w = w' := by
  go_enter Tryz.func66, Tryz.ntmps66
  go_wp2
  go_loopw [2] (fun i wr => i = .int .i64 0 ∧ wr = w) (fun _ _ => 0)
  case atStart => exact ⟨rfl, rfl⟩
  case round =>
    obtain ⟨rfl, rfl⟩ := hrel
    go_wp2
    go_end0
    exact ⟨rfl, rfl⟩
theorem fill_nil_Vote (K : Nat) (w : World) (hc : w.cell? ⟨K, 13, none⟩ = some (.slice none 0 0)) :
    Calls Tryz.prog 67 #[.pointer (some ⟨K, 0, none⟩)] w fun ev w' => ev = .returned (.tuple #[]) ∧ w = w' := by
  go_enter Tryz.func67, Tryz.ntmps67
  go_wp2
  go_loopw [2] (fun i wr => i = .int .i64 0 ∧ wr = w) (fun _ _ => 0)
  case atStart => exact ⟨rfl, rfl⟩
  case round =>
    obtain ⟨rfl, rfl⟩ := hrel
    go_wp2
    go_end0
    exact ⟨rfl, rfl⟩
theorem fill_nil_Part (K : Nat) (w : World) (hc : w.cell? ⟨K, 14, none⟩ = some (.slice none 0 0)) :
    Calls Tryz.prog 68 #[.pointer (some ⟨K, 0, none⟩)] w fun ev w' => ev = .returned (.tuple #[]) ∧ w = w' := by
  go_enter Tryz.func68, Tryz.ntmps68
  go_wp2
  go_loopw [2] (fun i wr => i = .int .i64 0 ∧ wr = w) (fun _ _ => 0)
  case atStart => exact ⟨rfl, rfl⟩
  case round =>
    obtain ⟨rfl, rfl⟩ := hrel
    go_wp2
    go_end0
    exact ⟨rfl, rfl⟩
theorem fill_nil_HashList (K : Nat) (w : World) (hc : w.cell? ⟨K, 15, none⟩ = some (.slice none 0 0)) :
    Calls Tryz.prog 69 #[.pointer (some ⟨K, 0, none⟩)] w fun ev w' => ev = .returned (.tuple #[]) ∧ w = w' := by
  go_enter Tryz.func69, Tryz.ntmps69
  go_wp2
  go_loopw [2] (fun i wr => i = .int .i64 0 ∧ wr = w) (fun _ _ => 0)
  case atStart => exact ⟨rfl, rfl⟩
  case round =>
    obtain ⟨rfl, rfl⟩ := hrel
    go_wp2
    go_end0
    exact ⟨rfl, rfl⟩
theorem fill_nil_Query (K : Nat) (w : World) (hc : w.cell? ⟨K, 16, none⟩ = some (.slice none 0 0)) :
    Calls Tryz.prog 70 #[.pointer (some ⟨K, 0, none⟩)] w fun ev w' => ev = .returned (.tuple #[]) ∧ w = w' := by
  go_enter Tryz.func70, Tryz.ntmps70
  go_wp2
  go_loopw [2] (fun i wr => i = .int .i64 0 ∧ wr = w) (fun _ _ => 0)
  case atStart => exact ⟨rfl, rfl⟩
  case round =>
    obtain ⟨rfl, rfl⟩ := hrel
    go_wp2
    go_end0
    exact ⟨rfl, rfl⟩
end Go.Proofs.YtnpblpbcchminaaGreatDoor

/- cartularylaw01.Book: grow.. of a kind of which the book holds no list. No condition. -/
namespace Go.Proofs.YtnpblpbcchminaaGreatDoor
open Go.ChangeShapes Go.WideShapes Go.ChangeAt Go.RowKit
set_option linter.unusedVariables false
theorem grow_nil_Int (K : Nat) (w : World) (hc : w.cell? ⟨K, 1, none⟩ = some (.slice none 0 0)) :
    Calls Tryz.prog 71 #[.pointer (some ⟨K, 0, none⟩)] w fun ev w' => ev = .returned (.tuple #[]) ∧ w = w' := by
  go_enter Tryz.func71, Tryz.ntmps71
  go_wp2
  go_loopw [2] (fun i wr => i = .int .i64 0 ∧ wr = w) (fun _ _ => 0)
  case atStart => exact ⟨rfl, rfl⟩
  case round =>
    obtain ⟨rfl, rfl⟩ := hrel
    go_wp2
    go_end0
    exact ⟨rfl, rfl⟩
theorem grow_nil_Byte (K : Nat) (w : World) (hc : w.cell? ⟨K, 2, none⟩ = some (.slice none 0 0)) :
    Calls Tryz.prog 72 #[.pointer (some ⟨K, 0, none⟩)] w fun ev w' => ev = .returned (.tuple #[]) ∧ w = w' := by
  go_enter Tryz.func72, Tryz.ntmps72
  go_wp2
  go_loopw [2] (fun i wr => i = .int .i64 0 ∧ wr = w) (fun _ _ => 0)
  case atStart => exact ⟨rfl, rfl⟩
  case round =>
    obtain ⟨rfl, rfl⟩ := hrel
    go_wp2
    go_end0
    exact ⟨rfl, rfl⟩
theorem grow_nil_Text (K : Nat) (w : World) (hc : w.cell? ⟨K, 3, none⟩ = some (.slice none 0 0)) :
    Calls Tryz.prog 73 #[.pointer (some ⟨K, 0, none⟩)] w fun ev w' => ev = .returned (.tuple #[]) ∧ w = w' := by
  go_enter Tryz.func73, Tryz.ntmps73
  go_wp2
  go_loopw [2] (fun i wr => i = .int .i64 0 ∧ wr = w) (fun _ _ => 0)
  case atStart => exact ⟨rfl, rfl⟩
  case round =>
    obtain ⟨rfl, rfl⟩ := hrel
    go_wp2
    go_end0
    exact ⟨rfl, rfl⟩
theorem grow_nil_Number (K : Nat) (w : World) (hc : w.cell? ⟨K, 4, none⟩ = some (.slice none 0 0)) :
    Calls Tryz.prog 74 #[.pointer (some ⟨K, 0, none⟩)] w fun ev w' => ev = .returned (.tuple #[]) ∧ w = w' := by
  go_enter Tryz.func74, Tryz.ntmps74
  go_wp2
  go_loopw [2] (fun i wr => i = .int .i64 0 ∧ wr = w) (fun _ _ => 0)
  case atStart => exact ⟨rfl, rfl⟩
  case round =>
    obtain ⟨rfl, rfl⟩ := hrel
    go_wp2
    go_end0
    exact ⟨rfl, rfl⟩
theorem grow_nil_Coord (K : Nat) (w : World) (hc : w.cell? ⟨K, 6, none⟩ = some (.slice none 0 0)) :
    Calls Tryz.prog 76 #[.pointer (some ⟨K, 0, none⟩)] w fun ev w' => ev = .returned (.tuple #[]) ∧ w = w' := by
  go_enter Tryz.func76, Tryz.ntmps76
  go_wp2
  go_loopw [2] (fun i wr => i = .int .i64 0 ∧ wr = w) (fun _ _ => 0)
  case atStart => exact ⟨rfl, rfl⟩
  case round =>
    obtain ⟨rfl, rfl⟩ := hrel
    go_wp2
    go_end0
    exact ⟨rfl, rfl⟩
theorem grow_nil_Span (K : Nat) (w : World) (hc : w.cell? ⟨K, 7, none⟩ = some (.slice none 0 0)) :
    Calls Tryz.prog 77 #[.pointer (some ⟨K, 0, none⟩)] w fun ev w' => ev = .returned (.tuple #[]) ∧ w = w' := by
  go_enter Tryz.func77, Tryz.ntmps77
  go_wp2
  go_loopw [2] (fun i wr => i = .int .i64 0 ∧ wr = w) (fun _ _ => 0)
  case atStart => exact ⟨rfl, rfl⟩
  case round =>
    obtain ⟨rfl, rfl⟩ := hrel
    go_wp2
    go_end0
    exact ⟨rfl, rfl⟩
theorem grow_nil_Node (K : Nat) (w : World) (hc : w.cell? ⟨K, 8, none⟩ = some (.slice none 0 0)) :
    Calls Tryz.prog 78 #[.pointer (some ⟨K, 0, none⟩)] w fun ev w' => ev = .returned (.tuple #[]) ∧ w = w' := by
  go_enter Tryz.func78, Tryz.ntmps78
  go_wp2
  go_loopw [2] (fun i wr => i = .int .i64 0 ∧ wr = w) (fun _ _ => 0)
  case atStart => exact ⟨rfl, rfl⟩
  case round =>
    obtain ⟨rfl, rfl⟩ := hrel
    go_wp2
    go_end0
    exact ⟨rfl, rfl⟩
theorem grow_nil_Tile (K : Nat) (w : World) (hc : w.cell? ⟨K, 9, none⟩ = some (.slice none 0 0)) :
    Calls Tryz.prog 79 #[.pointer (some ⟨K, 0, none⟩)] w fun ev w' => ev = .returned (.tuple #[]) ∧ w = w' := by
  go_enter Tryz.func79, Tryz.ntmps79
  go_wp2
  go_loopw [2] (fun i wr => i = .int .i64 0 ∧ wr = w) (fun _ _ => 0)
  case atStart => exact ⟨rfl, rfl⟩
  case round =>
    obtain ⟨rfl, rfl⟩ := hrel
    go_wp2
    go_end0
    exact ⟨rfl, rfl⟩
theorem grow_nil_Entry (K : Nat) (w : World) (hc : w.cell? ⟨K, 10, none⟩ = some (.slice none 0 0)) :
    Calls Tryz.prog 80 #[.pointer (some ⟨K, 0, none⟩)] w fun ev w' => ev = .returned (.tuple #[]) ∧ w = w' := by
  go_enter Tryz.func80, Tryz.ntmps80
  go_wp2
  go_loopw [2] (fun i wr => i = .int .i64 0 ∧ wr = w) (fun _ _ => 0)
  case atStart => exact ⟨rfl, rfl⟩
  case round =>
    obtain ⟨rfl, rfl⟩ := hrel
    go_wp2
    go_end0
    exact ⟨rfl, rfl⟩
theorem grow_nil_Found (K : Nat) (w : World) (hc : w.cell? ⟨K, 11, none⟩ = some (.slice none 0 0)) :
    Calls Tryz.prog 81 #[.pointer (some ⟨K, 0, none⟩)] w fun ev w' => ev = .returned (.tuple #[]) ∧ w = w' := by
  go_enter Tryz.func81, Tryz.ntmps81
  go_wp2
  go_loopw [2] (fun i wr => i = .int .i64 0 ∧ wr = w) (fun _ _ => 0)
  case atStart => exact ⟨rfl, rfl⟩
  case round =>
    obtain ⟨rfl, rfl⟩ := hrel
    go_wp2
    go_end0
    exact ⟨rfl, rfl⟩
theorem grow_nil_Known (K : Nat) (w : World) (hc : w.cell? ⟨K, 12, none⟩ = some (.slice none 0 0)) :
    Calls Tryz.prog 82 #[.pointer (some ⟨K, 0, none⟩)] w fun ev w' => ev = .returned (.tuple #[]) ∧ w = w' := by
  go_enter Tryz.func82, Tryz.ntmps82
  go_wp2
  go_loopw [2] (fun i wr => i = .int .i64 0 ∧ wr = w) (fun _ _ => 0)
  case atStart => exact ⟨rfl, rfl⟩
  case round =>
    obtain ⟨rfl, rfl⟩ := hrel
    go_wp2
    go_end0
    exact ⟨rfl, rfl⟩
theorem grow_nil_Vote (K : Nat) (w : World) (hc : w.cell? ⟨K, 13, none⟩ = some (.slice none 0 0)) :
    Calls Tryz.prog 83 #[.pointer (some ⟨K, 0, none⟩)] w fun ev w' => ev = .returned (.tuple #[]) ∧ w = w' := by
  go_enter Tryz.func83, Tryz.ntmps83
  go_wp2
  go_loopw [2] (fun i wr => i = .int .i64 0 ∧ wr = w) (fun _ _ => 0)
  case atStart => exact ⟨rfl, rfl⟩
  case round =>
    obtain ⟨rfl, rfl⟩ := hrel
    go_wp2
    go_end0
    exact ⟨rfl, rfl⟩
theorem grow_nil_Part (K : Nat) (w : World) (hc : w.cell? ⟨K, 14, none⟩ = some (.slice none 0 0)) :
    Calls Tryz.prog 84 #[.pointer (some ⟨K, 0, none⟩)] w fun ev w' => ev = .returned (.tuple #[]) ∧ w = w' := by
  go_enter Tryz.func84, Tryz.ntmps84
  go_wp2
  go_loopw [2] (fun i wr => i = .int .i64 0 ∧ wr = w) (fun _ _ => 0)
  case atStart => exact ⟨rfl, rfl⟩
  case round =>
    obtain ⟨rfl, rfl⟩ := hrel
    go_wp2
    go_end0
    exact ⟨rfl, rfl⟩
theorem grow_nil_HashList (K : Nat) (w : World) (hc : w.cell? ⟨K, 15, none⟩ = some (.slice none 0 0)) :
    Calls Tryz.prog 85 #[.pointer (some ⟨K, 0, none⟩)] w fun ev w' => ev = .returned (.tuple #[]) ∧ w = w' := by
  go_enter Tryz.func85, Tryz.ntmps85
  go_wp2
  go_loopw [2] (fun i wr => i = .int .i64 0 ∧ wr = w) (fun _ _ => 0)
  case atStart => exact ⟨rfl, rfl⟩
  case round =>
    obtain ⟨rfl, rfl⟩ := hrel
    go_wp2
    go_end0
    exact ⟨rfl, rfl⟩
theorem grow_nil_Query (K : Nat) (w : World) (hc : w.cell? ⟨K, 16, none⟩ = some (.slice none 0 0)) :
    Calls Tryz.prog 86 #[.pointer (some ⟨K, 0, none⟩)] w fun ev w' => ev = .returned (.tuple #[]) ∧ w = w' := by
  go_enter Tryz.func86, Tryz.ntmps86
  go_wp2
  go_loopw [2] (fun i wr => i = .int .i64 0 ∧ wr = w) (fun _ _ => 0)
  case atStart => exact ⟨rfl, rfl⟩
  case round =>
    obtain ⟨rfl, rfl⟩ := hrel
    go_wp2
    go_end0
    exact ⟨rfl, rfl⟩
end Go.Proofs.YtnpblpbcchminaaGreatDoor

/- cartularylaw01.Book: look.. of a kind of which the book holds no list. No condition. -/
namespace Go.Proofs.YtnpblpbcchminaaGreatDoor
open Go.ChangeShapes Go.WideShapes Go.ChangeAt Go.RowKit
set_option linter.unusedVariables false
theorem look_nil_Int (K : Nat) (w : World) (hc : w.cell? ⟨K, 1, none⟩ = some (.slice none 0 0)) :
    Calls Tryz.prog 87 #[.pointer (some ⟨K, 0, none⟩)] w fun ev w' => ev = .returned (.bool true) ∧ w = w' := by
  go_enter Tryz.func87, Tryz.ntmps87
  go_wp2
  go_loopw [3] (fun i wr => i = .int .i64 0 ∧ wr = w) (fun _ _ => 0)
  case atStart => exact ⟨rfl, rfl⟩
  case round =>
    obtain ⟨rfl, rfl⟩ := hrel
    go_wp2
    go_ret
    exact ⟨rfl, rfl⟩
theorem look_nil_Byte (K : Nat) (w : World) (hc : w.cell? ⟨K, 2, none⟩ = some (.slice none 0 0)) :
    Calls Tryz.prog 88 #[.pointer (some ⟨K, 0, none⟩)] w fun ev w' => ev = .returned (.bool true) ∧ w = w' := by
  go_enter Tryz.func88, Tryz.ntmps88
  go_wp2
  go_loopw [3] (fun i wr => i = .int .i64 0 ∧ wr = w) (fun _ _ => 0)
  case atStart => exact ⟨rfl, rfl⟩
  case round =>
    obtain ⟨rfl, rfl⟩ := hrel
    go_wp2
    go_ret
    exact ⟨rfl, rfl⟩
theorem look_nil_Text (K : Nat) (w : World) (hc : w.cell? ⟨K, 3, none⟩ = some (.slice none 0 0)) :
    Calls Tryz.prog 89 #[.pointer (some ⟨K, 0, none⟩)] w fun ev w' => ev = .returned (.bool true) ∧ w = w' := by
  go_enter Tryz.func89, Tryz.ntmps89
  go_wp2
  go_loopw [3] (fun i wr => i = .int .i64 0 ∧ wr = w) (fun _ _ => 0)
  case atStart => exact ⟨rfl, rfl⟩
  case round =>
    obtain ⟨rfl, rfl⟩ := hrel
    go_wp2
    go_ret
    exact ⟨rfl, rfl⟩
theorem look_nil_Number (K : Nat) (w : World) (hc : w.cell? ⟨K, 4, none⟩ = some (.slice none 0 0)) :
    Calls Tryz.prog 90 #[.pointer (some ⟨K, 0, none⟩)] w fun ev w' => ev = .returned (.bool true) ∧ w = w' := by
  go_enter Tryz.func90, Tryz.ntmps90
  go_wp2
  go_loopw [3] (fun i wr => i = .int .i64 0 ∧ wr = w) (fun _ _ => 0)
  case atStart => exact ⟨rfl, rfl⟩
  case round =>
    obtain ⟨rfl, rfl⟩ := hrel
    go_wp2
    go_ret
    exact ⟨rfl, rfl⟩
theorem look_nil_Coord (K : Nat) (w : World) (hc : w.cell? ⟨K, 6, none⟩ = some (.slice none 0 0)) :
    Calls Tryz.prog 92 #[.pointer (some ⟨K, 0, none⟩)] w fun ev w' => ev = .returned (.bool true) ∧ w = w' := by
  go_enter Tryz.func92, Tryz.ntmps92
  go_wp2
  go_loopw [3] (fun i wr => i = .int .i64 0 ∧ wr = w) (fun _ _ => 0)
  case atStart => exact ⟨rfl, rfl⟩
  case round =>
    obtain ⟨rfl, rfl⟩ := hrel
    go_wp2
    go_ret
    exact ⟨rfl, rfl⟩
theorem look_nil_Span (K : Nat) (w : World) (hc : w.cell? ⟨K, 7, none⟩ = some (.slice none 0 0)) :
    Calls Tryz.prog 93 #[.pointer (some ⟨K, 0, none⟩)] w fun ev w' => ev = .returned (.bool true) ∧ w = w' := by
  go_enter Tryz.func93, Tryz.ntmps93
  go_wp2
  go_loopw [3] (fun i wr => i = .int .i64 0 ∧ wr = w) (fun _ _ => 0)
  case atStart => exact ⟨rfl, rfl⟩
  case round =>
    obtain ⟨rfl, rfl⟩ := hrel
    go_wp2
    go_ret
    exact ⟨rfl, rfl⟩
theorem look_nil_Node (K : Nat) (w : World) (hc : w.cell? ⟨K, 8, none⟩ = some (.slice none 0 0)) :
    Calls Tryz.prog 94 #[.pointer (some ⟨K, 0, none⟩)] w fun ev w' => ev = .returned (.bool true) ∧ w = w' := by
  go_enter Tryz.func94, Tryz.ntmps94
  go_wp2
  go_loopw [3] (fun i wr => i = .int .i64 0 ∧ wr = w) (fun _ _ => 0)
  case atStart => exact ⟨rfl, rfl⟩
  case round =>
    obtain ⟨rfl, rfl⟩ := hrel
    go_wp2
    go_ret
    exact ⟨rfl, rfl⟩
theorem look_nil_Tile (K : Nat) (w : World) (hc : w.cell? ⟨K, 9, none⟩ = some (.slice none 0 0)) :
    Calls Tryz.prog 95 #[.pointer (some ⟨K, 0, none⟩)] w fun ev w' => ev = .returned (.bool true) ∧ w = w' := by
  go_enter Tryz.func95, Tryz.ntmps95
  go_wp2
  go_loopw [3] (fun i wr => i = .int .i64 0 ∧ wr = w) (fun _ _ => 0)
  case atStart => exact ⟨rfl, rfl⟩
  case round =>
    obtain ⟨rfl, rfl⟩ := hrel
    go_wp2
    go_ret
    exact ⟨rfl, rfl⟩
theorem look_nil_Entry (K : Nat) (w : World) (hc : w.cell? ⟨K, 10, none⟩ = some (.slice none 0 0)) :
    Calls Tryz.prog 96 #[.pointer (some ⟨K, 0, none⟩)] w fun ev w' => ev = .returned (.bool true) ∧ w = w' := by
  go_enter Tryz.func96, Tryz.ntmps96
  go_wp2
  go_loopw [3] (fun i wr => i = .int .i64 0 ∧ wr = w) (fun _ _ => 0)
  case atStart => exact ⟨rfl, rfl⟩
  case round =>
    obtain ⟨rfl, rfl⟩ := hrel
    go_wp2
    go_ret
    exact ⟨rfl, rfl⟩
theorem look_nil_Found (K : Nat) (w : World) (hc : w.cell? ⟨K, 11, none⟩ = some (.slice none 0 0)) :
    Calls Tryz.prog 97 #[.pointer (some ⟨K, 0, none⟩)] w fun ev w' => ev = .returned (.bool true) ∧ w = w' := by
  go_enter Tryz.func97, Tryz.ntmps97
  go_wp2
  go_loopw [3] (fun i wr => i = .int .i64 0 ∧ wr = w) (fun _ _ => 0)
  case atStart => exact ⟨rfl, rfl⟩
  case round =>
    obtain ⟨rfl, rfl⟩ := hrel
    go_wp2
    go_ret
    exact ⟨rfl, rfl⟩
theorem look_nil_Known (K : Nat) (w : World) (hc : w.cell? ⟨K, 12, none⟩ = some (.slice none 0 0)) :
    Calls Tryz.prog 98 #[.pointer (some ⟨K, 0, none⟩)] w fun ev w' => ev = .returned (.bool true) ∧ w = w' := by
  go_enter Tryz.func98, Tryz.ntmps98
  go_wp2
  go_loopw [3] (fun i wr => i = .int .i64 0 ∧ wr = w) (fun _ _ => 0)
  case atStart => exact ⟨rfl, rfl⟩
  case round =>
    obtain ⟨rfl, rfl⟩ := hrel
    go_wp2
    go_ret
    exact ⟨rfl, rfl⟩
theorem look_nil_Vote (K : Nat) (w : World) (hc : w.cell? ⟨K, 13, none⟩ = some (.slice none 0 0)) :
    Calls Tryz.prog 99 #[.pointer (some ⟨K, 0, none⟩)] w fun ev w' => ev = .returned (.bool true) ∧ w = w' := by
  go_enter Tryz.func99, Tryz.ntmps99
  go_wp2
  go_loopw [3] (fun i wr => i = .int .i64 0 ∧ wr = w) (fun _ _ => 0)
  case atStart => exact ⟨rfl, rfl⟩
  case round =>
    obtain ⟨rfl, rfl⟩ := hrel
    go_wp2
    go_ret
    exact ⟨rfl, rfl⟩
theorem look_nil_Part (K : Nat) (w : World) (hc : w.cell? ⟨K, 14, none⟩ = some (.slice none 0 0)) :
    Calls Tryz.prog 100 #[.pointer (some ⟨K, 0, none⟩)] w fun ev w' => ev = .returned (.bool true) ∧ w = w' := by
  go_enter Tryz.func100, Tryz.ntmps100
  go_wp2
  go_loopw [3] (fun i wr => i = .int .i64 0 ∧ wr = w) (fun _ _ => 0)
  case atStart => exact ⟨rfl, rfl⟩
  case round =>
    obtain ⟨rfl, rfl⟩ := hrel
    go_wp2
    go_ret
    exact ⟨rfl, rfl⟩
theorem look_nil_HashList (K : Nat) (w : World) (hc : w.cell? ⟨K, 15, none⟩ = some (.slice none 0 0)) :
    Calls Tryz.prog 101 #[.pointer (some ⟨K, 0, none⟩)] w fun ev w' => ev = .returned (.bool true) ∧ w = w' := by
  go_enter Tryz.func101, Tryz.ntmps101
  go_wp2
  go_loopw [3] (fun i wr => i = .int .i64 0 ∧ wr = w) (fun _ _ => 0)
  case atStart => exact ⟨rfl, rfl⟩
  case round =>
    obtain ⟨rfl, rfl⟩ := hrel
    go_wp2
    go_ret
    exact ⟨rfl, rfl⟩
theorem look_nil_Query (K : Nat) (w : World) (hc : w.cell? ⟨K, 16, none⟩ = some (.slice none 0 0)) :
    Calls Tryz.prog 102 #[.pointer (some ⟨K, 0, none⟩)] w fun ev w' => ev = .returned (.bool true) ∧ w = w' := by
  go_enter Tryz.func102, Tryz.ntmps102
  go_wp2
  go_loopw [3] (fun i wr => i = .int .i64 0 ∧ wr = w) (fun _ _ => 0)
  case atStart => exact ⟨rfl, rfl⟩
  case round =>
    obtain ⟨rfl, rfl⟩ := hrel
    go_wp2
    go_ret
    exact ⟨rfl, rfl⟩
end Go.Proofs.YtnpblpbcchminaaGreatDoor

/- cartularylaw01.markHash, isHash: the mark of a number. No condition. -/
namespace Go.Proofs.YtnpblpbcchminaaGreatDoor
open Go.ChangeShapes Go.WideShapes Go.ChangeAt Go.RowKit
set_option linter.unusedVariables false
/-- the mark -/
def mkB (num : Int) : List UInt8 := [UInt8.ofNat (num % 256).toNat, UInt8.ofNat (num / 256 % 256).toNat, UInt8.ofNat (num / 65536 % 256).toNat] ++ List.replicate 28 0 ++ [201]
theorem mkB_length (num : Int) : (mkB num).length = 32 := rfl
def markHash (num : Int) : List Value := bytesV (mkB num)
theorem markHash_eq (num : Int) : markHash num = bytesV (mkB num) := rfl
theorem mkB_len2 (num : Int) : (markHash num).length = 32 := by rw [markHash, bytesV_length, mkB_length]
theorem storeAll_eq : ∀ (c : List Value) (w : World) (g p : Nat), storeAll w g p c = w.setCells g p c
  | [], _, _, _ => rfl
  | u :: r, w, g, p => by rw [storeAll, storeAll_eq r]; rfl
theorem mkB_v (num : Int) : hv (mkB num) = .agg #[.int .u8 (num % 256), .int .u8 (num / 256 % 256), .int .u8 (num / 65536 % 256), .int .u8 0, .int .u8 0, .int .u8 0, .int .u8 0, .int .u8 0, .int .u8 0, .int .u8 0, .int .u8 0, .int .u8 0, .int .u8 0, .int .u8 0, .int .u8 0, .int .u8 0, .int .u8 0, .int .u8 0, .int .u8 0, .int .u8 0, .int .u8 0, .int .u8 0, .int .u8 0, .int .u8 0, .int .u8 0, .int .u8 0, .int .u8 0, .int .u8 0, .int .u8 0, .int .u8 0, .int .u8 0, .int .u8 201] := by
  have e0 := byteV_ofInt num
  have e1 := byteV_ofInt (num / 256)
  have e2 := byteV_ofInt (num / 65536)
  unfold hv bytesV mkB
  simp only [List.map_append, List.map_cons, List.map_nil, e0, e1, e2]
  rfl
set_option maxRecDepth 100000 in
theorem mark_hash (num : Int) (w : World) (h0 : 0 ≤ num) (h1 : num ≤ 1099511627776) : Calls Tryz.prog 117 #[.int .i64 num] w fun ev w' => ev = .returned (hv (mkB num)) ∧ Below w.heap.size w w' := by
  obtain ⟨vm, evm, Hvm, Zvm, Ivm, Ovm⟩ := row_of (mkB num) (mkB_length num)
  have HVM : Hid (vm = #[.int .u8 (num % 256), .int .u8 (num / 256 % 256), .int .u8 (num / 65536 % 256), .int .u8 0, .int .u8 0, .int .u8 0, .int .u8 0, .int .u8 0, .int .u8 0, .int .u8 0, .int .u8 0, .int .u8 0, .int .u8 0, .int .u8 0, .int .u8 0, .int .u8 0, .int .u8 0, .int .u8 0, .int .u8 0, .int .u8 0, .int .u8 0, .int .u8 0, .int .u8 0, .int .u8 0, .int .u8 0, .int .u8 0, .int .u8 0, .int .u8 0, .int .u8 0, .int .u8 0, .int .u8 0, .int .u8 201]) := Lib.hid (by rw [mkB_v] at evm; cases evm; rfl)
  have HR : Hid ((w.alloc (.cells (List.replicate 32 (Value.int .u8 0)).toArray 23)).heap[w.heap.size]? = some (.cells (List.replicate 32 (Value.int .u8 0)).toArray 23 (0, 0))) := Lib.hid (heap_at _ _ _ rfl)
  have HBL : Hid (Below w.heap.size w (w.alloc (.cells (List.replicate 32 (Value.int .u8 0)).toArray 23))) := Lib.hid ((Below.refl _ _).alloc (Nat.le_refl _) _)
  obtain ⟨wv, hwv⟩ : ∃ x, w.alloc (.cells (List.replicate 32 (Value.int .u8 0)).toArray 23) = x := ⟨_, rfl⟩
  rw [hwv] at HR HBL
  have HWV := Lib.hid hwv
  simp only [List.replicate, List.toArray] at HWV
  rw [evm]
  clear evm hwv
  go_enter Tryz.func117, Tryz.ntmps117
  go_upto_region 1 with fail
  rw [HWV.out]
  go_wp2_with (refine wpList_store_row rfl 23 _ _ rfl w.heap.size vm rfl (by rw [HVM.out]; rfl) 23 _ HR.out Ivm.out (by rw [Zvm.out]; rfl) Ovm.out ?_)
  refine bodyPost_ret (v := .agg vm) (results_cell_row rfl _ _ w.heap.size 23 vm (0, 0) _ rfl (setRow_heap _ _ _ _ _ _ HR.out) Tryz.underlying23 rfl Ivm.out) rfl ⟨rfl, ?_⟩
  exact below_setRow HBL.out _ _ (Nat.le_refl _)
set_option maxRecDepth 100000 in
theorem is_hash (num : Int) (w : World) (h0 : 0 ≤ num) (h1 : num ≤ 1099511627776) : Calls Tryz.prog 135 #[hv (mkB num), .int .i64 num] w fun ev w' => ev = .returned (.bool true) ∧ Below w.heap.size w w' := by
  obtain ⟨vm, evm, Hvm, Zvm, Ivm, Ovm⟩ := row_of (mkB num) (mkB_length num)
  have HVM : Hid (vm = #[.int .u8 (num % 256), .int .u8 (num / 256 % 256), .int .u8 (num / 65536 % 256), .int .u8 0, .int .u8 0, .int .u8 0, .int .u8 0, .int .u8 0, .int .u8 0, .int .u8 0, .int .u8 0, .int .u8 0, .int .u8 0, .int .u8 0, .int .u8 0, .int .u8 0, .int .u8 0, .int .u8 0, .int .u8 0, .int .u8 0, .int .u8 0, .int .u8 0, .int .u8 0, .int .u8 0, .int .u8 0, .int .u8 0, .int .u8 0, .int .u8 0, .int .u8 0, .int .u8 0, .int .u8 0, .int .u8 201]) := Lib.hid (by rw [mkB_v] at evm; cases evm; rfl)
  have HR : Hid ((w.alloc (.cells vm 23)).heap[w.heap.size]? = some (.cells vm 23 (0, 0))) := Lib.hid (heap_at _ _ _ rfl)
  have hq : ∀ w, (Op.equalIn 10000 23 (.agg vm) (.agg #[.int .u8 (num % 256), .int .u8 (num / 256 % 256), .int .u8 (num / 65536 % 256), .int .u8 0, .int .u8 0, .int .u8 0, .int .u8 0, .int .u8 0, .int .u8 0, .int .u8 0, .int .u8 0, .int .u8 0, .int .u8 0, .int .u8 0, .int .u8 0, .int .u8 0, .int .u8 0, .int .u8 0, .int .u8 0, .int .u8 0, .int .u8 0, .int .u8 0, .int .u8 0, .int .u8 0, .int .u8 0, .int .u8 0, .int .u8 0, .int .u8 0, .int .u8 0, .int .u8 0, .int .u8 0, .int .u8 201])).run Tryz.prog w = .ok true w := fun w => by rw [eq_hash (mkB num) (mkB num) (mkB_length num) (mkB_length num) _ _ evm (mkB_v num) w]; simp
  rw [evm]
  clear evm
  go_enter Tryz.func135, Tryz.ntmps135
  go_wp2_with (refine wpList_load_row rfl 23 _ rfl w.heap.size rfl 23 vm (0, 0) _ HR.out Tryz.underlying23 rfl Ivm.out ?_)
  go_ret
  exact ⟨rfl, (Below.refl _ _).alloc (Nat.le_refl _) _⟩
attribute [irreducible] markHash mkB
end Go.Proofs.YtnpblpbcchminaaGreatDoor

/- cartularylaw01.Book: fillHash: each list that the book holds is marked. No condition. -/
namespace Go.Proofs.YtnpblpbcchminaaGreatDoor
open Go.ChangeShapes Go.WideShapes Go.ChangeAt Go.RowKit
set_option linter.unusedVariables false
/-- behind i lists and k elements of the next -/
structure FillHash (base K r : Nat) (H : List Hold) (w : World) (i k : Nat) (wr : World) : Prop where
  bk : wr.heap[K]? = w.heap[K]?
  row : wr.heap[r]? = w.heap[r]?
  lists : ∀ (t : Nat) (h : Hold), H[t]? = some h → ∃ ys, wr.ownsRow base 23 32 h.v h.n ys ∧ (t < i → Mk (markHash h.num) 32 h.n ys) ∧ (t = i → Mk (markHash h.num) 32 k ys)
  below : Below base w wr
theorem FillHash.alloc {base K r : Nat} {H : List Hold} {w wr : World} {i k : Nat} (h : FillHash base K r H w i k wr) (hK : K < w.heap.size) (hr : r < w.heap.size) (hb : base ≤ w.heap.size) {w2 : World} (h2 : Below wr.heap.size wr w2) : FillHash base K r H w i k w2 :=
  ⟨(h2.block K (Nat.lt_of_lt_of_le hK h.below.size)).trans h.bk, (h2.block r (Nat.lt_of_lt_of_le hr h.below.size)).trans h.row,
    fun t x hx => by obtain ⟨ys, a, b, c⟩ := h.lists t x hx; exact ⟨ys, own_below a h2 (Nat.le_refl _), b, c⟩, h.below.trans (h2.mono (Nat.le_trans hb h.below.size))⟩
theorem FillHash.next {base K r : Nat} {H : List Hold} {w wr : World} {i : Nat} {x : Hold} (h : FillHash base K r H w i x.n wr) (hx : H[i]? = some x) : FillHash base K r H w (i + 1) 0 wr :=
  ⟨h.bk, h.row, fun t y hy => by
    obtain ⟨ys, a, b, c⟩ := h.lists t y hy
    refine ⟨ys, a, fun ht => ?_, fun _ => Mk.zero _ _ _⟩
    by_cases e : t = i
    · have hc := c e
      subst e; rw [hx] at hy; cases hy; exact hc
    · exact b (by omega), h.below⟩
theorem FillHash.store {base K r : Nat} {H : List Hold} {w wr : World} {i k g cap : Nat} {x : Hold} (h : FillHash base K r H w i k wr) (ha : Away K r H) (hx : H[i]? = some x) (hk : k < x.n) (hv : x.v = .slice (some ⟨g, 0, none⟩) x.n cap) (hK : K < wr.heap.size) (hr : r < wr.heap.size) (hbs : base ≤ w.heap.size) :
    FillHash base K r H w i (k + 1) (storeAll wr g (k * 32) (markHash x.num)) := by
  have hg := storeAll_grown (g := g) (markHash x.num) wr (k * 32)
  have hob : x.v.ownBlock = some g := by rw [hv]; rfl
  have hf := ha.far i x hx
  rw [hob] at hf
  obtain ⟨ys, o, _, _⟩ := h.lists i x hx
  have hlt := o.lt g hob
  refine ⟨(hg.block K hK (fun e => hf.1 e.symm)).trans h.bk, (hg.block r hr (fun e => hf.2 e.symm)).trans h.row, ?_, ?_⟩
  · intro t y hy
    obtain ⟨zs, o2, b, c⟩ := h.lists t y hy
    by_cases e : t = i
    · subst e
      rw [hx] at hy; cases hy
      have hl := o2.1
      rw [hv] at o2
      refine ⟨_, by rw [hv]; exact storeAll_own _ _ _ _ o2, fun ht => by omega, fun _ => (c rfl).set ?_ (mkB_len2 _)⟩
      rw [hl, ← Nat.succ_mul]; exact Nat.mul_le_mul_right _ hk
    · refine ⟨zs, o2.kept hg ?_, b, fun he => by omega⟩
      rcases ha.two t i y x hy hx e with q | q
      · exact .inl q
      · exact .inr (by rw [hob] at q; exact q)
  · exact h.below.grown hg (by have := h.below.size; omega) (fun k' e => by cases e; exact hlt.1)
set_option maxRecDepth 100000 in
set_option maxHeartbeats 2000000 in
theorem fill_hash (base K r m cap : Nat) (H : List Hold) (w : World) (hm : H.length = m) (hm2 : m ≤ 1099511627776) (hbase : base ≤ w.heap.size) (hc : w.cell? ⟨K, 5, none⟩ = some (.slice (some ⟨r, 0, none⟩) m cap)) (hrow : RowAt r H (fun _ => .slice none 0 0) w) (hr : r < w.heap.size) (ha : Away K r H)
    (hl : ∀ (t : Nat) (h : Hold), H[t]? = some h → ∃ ys, w.ownsRow base 23 32 h.v h.n ys) (hn : ∀ (t : Nat) (h : Hold), H[t]? = some h → h.n ≤ 1099511627776 ∧ 0 ≤ h.num ∧ h.num ≤ 1099511627776) :
    Calls Tryz.prog 59 #[.pointer (some ⟨K, 0, none⟩)] w fun ev w' => ev = .returned (.tuple #[]) ∧ FillHash base K r H w m 0 w' := by
  have hK := block_of_cell hc
  have HF : Hid (FillHash base K r H w 0 0 w) := Lib.hid ⟨rfl, rfl, fun t h ht => by obtain ⟨ys, o⟩ := hl t h ht; exact ⟨ys, o, fun q => by omega, fun _ => Mk.zero _ _ _⟩, Below.refl _ _⟩
  have HN := Lib.hid hn
  have HM := Lib.hid hm
  have HROW := Lib.hid hrow
  have HA := Lib.hid ha
  clear hn hm hrow ha hl
  go_enter Tryz.func59, Tryz.ntmps59
  go_wp2
  go_loopw [2] (fun i wr => ∃ k : Nat, k ≤ m ∧ i = .int .i64 k ∧ Hid (FillHash base K r H w k 0 wr)) (fun i _ => m - (intOf i).toNat)
  case atStart => exact ⟨0, by omega, rfl, HF⟩
  case round =>
    obtain ⟨k, hk, rfl, HR⟩ := hrel
    have hKc := cell_block HR.out.bk hc
    have hKw := block_of_cell hKc
    have hsz := HR.out.below.size
    by_cases hlt : k < m
    · obtain ⟨x, hx⟩ : ∃ x, H[k]? = some x := ⟨_, List.getElem?_eq_getElem (by have := HM.out; omega)⟩
      obtain ⟨r0, r1, r2⟩ := (HROW.out.block HR.out.row).cells k x hx
      obtain ⟨n1, n2, n3⟩ := HN.out k x hx
      obtain ⟨ys0, o0, _⟩ := HR.out.lists k x hx
      obtain ⟨xv, xn, num⟩ := x
      obtain ⟨_, A, xcap, hxv, _⟩ := rd_own o0
      simp only at r0 r2 n1 n2 n3 hxv
      subst hxv
      clear o0
      have HX := Lib.hid hx
      have hrw := block_of_cell r0
      have i1 : (k : Int) < m := by omega
      clear hx
      obtain ⟨wo, rfl⟩ : ∃ wo : World, wo = wr := ⟨_, rfl⟩
      go_wp2
      go_loopw [4] (fun j wr => ∃ t : Nat, t ≤ xn ∧ j = .int .i64 t ∧ Hid (FillHash base K r H w k t wr) ∧ wr.cell? ⟨wo.heap.size, 0, none⟩ = some (.slice A xn xcap) ∧ wr.cell? ⟨wo.heap.size, 2, none⟩ = some (.int .i64 num)) (fun j _ => xn - (intOf j).toNat)
      case atStart =>
        refine ⟨0, by omega, rfl, Lib.hid (HR.out.alloc (by have := block_of_cell hc; omega) hr hbase ?_), cell_new _ _ 0 _ rfl, cell_new _ _ 2 _ rfl⟩
        exact (Below.refl _ _).alloc (Nat.le_refl _) _
      case round =>
        obtain ⟨t, ht, rfl, HI, e0, e2⟩ := hrel
        have ge := block_of_cell e0
        by_cases hlt2 : t < xn
        · obtain ⟨ys, o, _, _⟩ := HI.out.lists k _ HX.out
          obtain ⟨g, cap2, hgv, hg1, hg2⟩ := o.form (by simp only; omega)
          simp only at hgv
          cases hgv
          have hyl := o.1
          simp only at hyl
          have hts : t * 32 + 32 ≤ xn * 32 := by rw [← Nat.succ_mul]; exact Nat.mul_le_mul_right _ hlt2
          have HTH : Hid (∀ j, j < 32 → (wr.cell? ⟨g, t * 32 + j, none⟩).isSome = true ∧ wr.frozen? ⟨g, t * 32 + j, none⟩ = false) := Lib.hid (fun j hj => ⟨by
            obtain ⟨u, hu⟩ : ∃ u, ys[t * 32 + j]? = some u := ⟨_, List.getElem?_eq_getElem (by omega)⟩
            have c := o.cellAt (t * 32 + j) (by omega)
            rw [hu] at c; rw [c]; rfl, o.frozenAt (t * 32 + j)⟩)
          have HGO : Hid (wo.heap.size ≠ g ∧ g < wo.heap.size ∧ g < wr.heap.size) := Lib.hid (by
            obtain ⟨ys1, o1, _, _⟩ := HR.out.lists k _ HX.out
            have := (o1.lt g rfl).2
            have := (o.lt g rfl).2
            omega)
          have i2 : (t : Int) < xn := by omega
          have hKw2 : K < wr.heap.size := by have := HI.out.below.size; have := block_of_cell hc; omega
          have hrw2 : r < wr.heap.size := by have := HI.out.below.size; omega
          obtain ⟨vm, evm, Hvm, Zvm, Ivm, Ovm⟩ := row_of (mkB num) (mkB_length num)
          have HVT : Hid (vm.toList = markHash num) := Lib.hid (by rw [markHash_eq, ← Hvm.out])
          have HMK : Hid (∀ w, Calls Tryz.prog 117 #[.int .i64 num] w fun ev w' => ev = .returned (.agg vm) ∧ Below w.heap.size w w') := Lib.hid (fun w => by have := mark_hash num w n2 n3; rw [evm] at this; exact this)
          clear evm
          clear o hyl hts hg1 hg2
          go_wp2_with fail
          refine wp_region_held_drew (S := But (· = g) wr) (by kernel_rfl) (But.refl (· = g) wr).drew (fun hHeld => ?_)
          refine tk (i := 0) (v := ?v1) rfl ?y1 ?r1
          case y1 => (intro w hSw; (try dsimp only at hSw); go_simp; (try with_reducible rfl))
          try simp only [pu]
          refine tk (i := 1) (v := ?v2) rfl ?y2 ?r2
          case y2 => (intro w hSw; (try dsimp only at hSw); have q0 := (But.cell hSw e0 HGO.out.1); go_simp; (try with_reducible rfl))
          try simp only [pu]
          refine tk (i := 2) (v := ?v3) rfl ?y3 ?r3
          case y3 => (intro w hSw; (try dsimp only at hSw); go_simp; (try with_reducible rfl))
          try simp only [pu]
          refine tk (i := 3) (v := ?v4) rfl ?y4 ?r4
          case y4 => (intro w hSw; (try dsimp only at hSw); go_simp; (try with_reducible rfl))
          try simp only [pu]
          refine tk (i := 4) (v := ?v5) rfl ?y5 ?r5
          case y5 => (intro w hSw; (try dsimp only at hSw); have q2 := (But.cell hSw e2 HGO.out.1); go_simp; (try with_reducible rfl))
          try simp only [pu]
          refine wpAnyH_ready (rs := [5]) (by kernel_rfl) (by simp) ?_
          refine AllReadyH.cons (i := 5) rfl (fun K2 hK2 => ?_) AllReadyH.nil
          go_simp
          go_at_call 117
          refine (HMK.out _).mono ?_
          rintro ev w1 ⟨rfl, b1⟩
          have b1 : Below wr.heap.size wr w1 := ((Below.refl _ wr).drew).trans b1
          have HB1 := Lib.hid b1
          try go_wp2_with fail
          refine hK2.out _ _ (show But (· = g) wr _ from But.new HB1.out) (fun hHeld2 => ?_)
          clear hK2 K2
          try simp only [pu]
          refine tk (i := 6) (v := ?v6) rfl ?y6 ?r6
          case y6 => (intro w hSw; (try dsimp only at hSw); go_simp; (try with_reducible rfl))
          try simp only [pu]
          refine wpAnyH_ready (rs := [7]) (by kernel_rfl) (by simp) ?_
          refine AllReadyH.cons (i := 7) rfl (fun K2 hK2 => ?_) AllReadyH.nil
          rw [if_pos (by rfl)]
          refine wp_store_mid 23 _ _ rfl g (t * 32) vm (by first | rfl | simp) rfl (fun j hj => ?thr) Ivm.out Ovm.out ?_
          case thr => rw [Zvm.out] at hj; obtain ⟨q1, q2⟩ := HTH.out j hj; rw [Option.isSome_iff_exists] at q1; obtain ⟨v, q1⟩ := q1; exact ⟨by rw [cell_below HB1.out q1 HGO.out.2.2]; rfl, frozen_below HB1.out q2 HGO.out.2.2⟩
          refine hK2.out _ _ (show But (· = g) wr _ from (But.new HB1.out).setCells (fun _ => rfl)) (fun hHeld2 => ?_)
          clear hK2 K2
          try simp only [pu]
          refine wpAnyH_done (by kernel_rfl) ?_ _
          clear hHeld hHeld2
          have HS : Hid (FillHash base K r H w k (t + 1) (w1.setCells g (t * 32) vm.toList)) := Lib.hid (by
            rw [HVT.out, ← storeAll_eq]
            exact (HI.out.alloc (by have := block_of_cell hc; omega) hr hbase HB1.out).store HA.out HX.out hlt2 rfl (by have := HB1.out.size; omega) (by have := HB1.out.size; omega) hbase)
          have HG : Hid (But (· = g) wr (w1.setCells g (t * 32) vm.toList)) := Lib.hid ((But.new HB1.out).setCells (fun _ => rfl))
          go_wp2
          go_roundw
          case rel => exact ⟨t + 1, by omega, by go_num, HS, But.cell HG.out e0 HGO.out.1, But.cell HG.out e2 HGO.out.1⟩
          case measure => simp [intOf]; omega
        · obtain rfl : t = xn := by omega
          go_wp2
          go_roundw
          case rel => exact ⟨k + 1, by omega, by go_num, Lib.hid (HI.out.next HX.out)⟩
          case measure => simp [intOf]; omega
    · obtain rfl : k = m := by omega
      go_wp2
      go_end0
      exact ⟨rfl, HR.out⟩
end Go.Proofs.YtnpblpbcchminaaGreatDoor


/- cartularylaw01.Book: growHash: so many marks more behind each list that the book holds. No condition. -/
namespace Go.Proofs.YtnpblpbcchminaaGreatDoor
open Go.ChangeShapes Go.WideShapes Go.ChangeAt Go.RowKit
set_option linter.unusedVariables false
/-- the list and its longer twin are marks -/
structure LongHash (h : Hold) (lv : Value) (n : Nat) (b : Nat) (w : World) : Prop where
  form : ∃ cap, lv = .slice (some ⟨b, 0, none⟩) n cap
  lt : b < w.heap.size
  cells : ∀ j o u, j < n → (markHash h.num)[o]? = some u → w.cell? ⟨b, j * 32 + o, none⟩ = some u
/-- the list's own cells are marks -/
def OldHash (h : Hold) (w : World) : Prop := h.n = 0 ∨ ∃ g, (∃ c, h.v = .slice (some ⟨g, 0, none⟩) h.n c) ∧ g < w.heap.size ∧ ∀ j o u, j < h.n → (markHash h.num)[o]? = some u → w.cell? ⟨g, j * 32 + o, none⟩ = some u
/-- behind i lists -/
structure GrowHash (base K r : Nat) (H : List Hold) (w : World) (i : Nat) (lg : Nat → Value) (wr : World) : Prop where
  bk : wr.heap[K]? = w.heap[K]?
  row : RowAt r H lg wr
  todo : ∀ (t : Nat) (h : Hold), H[t]? = some h → i ≤ t → ∃ ys, wr.ownsRow base 23 32 h.v h.n ys ∧ Mk (markHash h.num) 32 h.n ys
  lgs : ∀ t, i ≤ t → lg t = .slice none 0 0
  done : ∀ (t : Nat) (h : Hold), H[t]? = some h → t < i → OldHash h wr ∧ ∃ b, LongHash h (lg t) (h.n + 70) b wr ∧ b ≠ K ∧ b ≠ r ∧ ∀ (u : Nat) (g : Hold), H[u]? = some g → i ≤ u → g.v.ownBlock ≠ some b
  below : Below base w wr
theorem LongHash.keep {h : Hold} {lv : Value} {n b : Nat} {w w' : World} (x : LongHash h lv n b w) (hb : w'.heap[b]? = w.heap[b]?) (hs : w.heap.size ≤ w'.heap.size) : LongHash h lv n b w' :=
  ⟨x.form, Nat.lt_of_lt_of_le x.lt hs, fun j o u hj hu => cell_block hb (x.cells j o u hj hu)⟩
theorem OldHash.keep {h : Hold} {w w' : World} (x : OldHash h w) (hb : ∀ g, h.v.ownBlock = some g → g < w.heap.size → w'.heap[g]? = w.heap[g]?) (hs : w.heap.size ≤ w'.heap.size) : OldHash h w' := by
  rcases x with q | ⟨g, a, b, c⟩
  · exact .inl q
  · exact .inr ⟨g, a, Nat.lt_of_lt_of_le b hs, fun j o u hj hu => cell_block (hb g (by obtain ⟨c2, e⟩ := a; rw [e]; rfl) b) (c j o u hj hu)⟩
/-- while the longer twin of one list grows: nothing else turns but that list's own row and new blocks -/
structure MidHash (base : Nat) (wo : World) (x : Hold) (k : Nat) (lv : Value) (wr : World) : Prop where
  own : ∃ ys, wr.ownsRow base 23 32 lv (x.n + k) ys ∧ Mk (markHash x.num) 32 (x.n + k) ys
  old : OldHash x wr
  blk : lv.ownBlock = x.v.ownBlock ∨ ∃ b, lv.ownBlock = some b ∧ wo.heap.size ≤ b
  gr : wo.grownBy wr x.v.ownBlock
theorem MidHash.mark {base : Nat} {wo wr w2 : World} {x : Hold} {k : Nat} {lv : Value} (h : MidHash base wo x k lv wr) (h2 : Below wr.heap.size wr w2) : MidHash base wo x k lv w2 :=
  ⟨by obtain ⟨ys, a, b⟩ := h.own; exact ⟨ys, own_below a h2 (Nat.le_refl _), b⟩, h.old.keep (fun g _ hg => h2.block g hg) h2.size, h.blk,
    ⟨h2.os.trans h.gr.os, h2.tape.trans h.gr.tape, h2.output.trans h.gr.output, Nat.le_trans h.gr.size h2.size, fun k' hk hne => (h2.block k' (Nat.lt_of_lt_of_le hk h.gr.size)).trans (h.gr.block k' hk hne)⟩⟩
theorem MidHash.snoc {base : Nat} {wo wr w3 : World} {x : Hold} {k g cap : Nat} {lv : Value} {ys : List Value} (h : MidHash base wo x k lv wr) (ho : wr.ownsRow base 23 32 lv (x.n + k) ys) (hm : Mk (markHash x.num) 32 (x.n + k) ys) {m : Nat} (hmm : m = x.n + k + 1)
    (h3 : w3.ownsRow base 23 32 (.slice (some ⟨g, 0, none⟩) m cap) m (ys ++ markHash x.num)) (hc : (lv.ownBlock = some g ∧ wr.grownBy w3 (some g)) ∨ (wr.heap.size ≤ g ∧ wr.grownBy w3 none)) :
    MidHash base wo x (k + 1) (.slice (some ⟨g, 0, none⟩) m cap) w3 := by
  subst hmm
  have hmk := hm.snoc ho.1 (mkB_len2 _)
  have hw := h.gr.size
  rcases hc with ⟨hb, hg⟩ | ⟨hb, hg⟩
  · refine ⟨⟨_, h3, hmk⟩, ?_, ?_, ?_⟩
    · rcases h.old with q | ⟨g0, a, b, c⟩
      · exact .inl q
      · by_cases e : g0 = g
        · subst e
          refine .inr ⟨g0, a, (h3.lt g0 rfl).2, fun j o u hj hu => ?_⟩
          have := h3.cells (g := g0) rfl _ _ (hmk j o u (by omega) hu)
          rwa [addr_add] at this
        · exact .inr ⟨g0, a, Nat.lt_of_lt_of_le b hg.size, fun j o u hj hu => cell_block (hg.block g0 b (fun q => e (by injection q))) (c j o u hj hu)⟩
    · rcases h.blk with q | ⟨b, q1, q2⟩
      · left; rw [← q, hb]; rfl
      · right; rw [hb] at q1; injection q1 with q1; subst q1; exact ⟨g, rfl, q2⟩
    · refine ⟨hg.os.trans h.gr.os, hg.tape.trans h.gr.tape, hg.output.trans h.gr.output, Nat.le_trans hw hg.size, fun k' hk hne => ?_⟩
      refine (hg.block k' (Nat.lt_of_lt_of_le hk hw) (fun q => ?_)).trans (h.gr.block k' hk hne)
      injection q with q; subst q
      rcases h.blk with q | ⟨b, q1, q2⟩
      · exact hne (by rw [← q, hb])
      · rw [hb] at q1; injection q1 with q1; omega
  · refine ⟨⟨_, h3, hmk⟩, h.old.keep (fun g' _ hg' => hg.block g' hg' (by simp)) hg.size, .inr ⟨g, rfl, by omega⟩, ?_⟩
    exact ⟨hg.os.trans h.gr.os, hg.tape.trans h.gr.tape, hg.output.trans h.gr.output, Nat.le_trans hw hg.size, fun k' hk hne => (hg.block k' (Nat.lt_of_lt_of_le hk hw) (by simp)).trans (h.gr.block k' hk hne)⟩
/-- the twin is done: it is laid into the book's row -/
theorem GrowHash.next {base K r : Nat} {H : List Hold} {w wr wo w3 : World} {i : Nat} {lg : Nat → Value} {x : Hold} {lv : Value} (h : GrowHash base K r H w i lg wr) (ha : Away K r H) (hx : H[i]? = some x) (hK : K < wr.heap.size) (hr : r < wr.heap.size) (hbs : base ≤ w.heap.size) (hbr : base ≤ r)
    (hwo : Below wr.heap.size wr wo) (hM : MidHash base wo x 70 lv w3) :
    GrowHash base K r H w (i + 1) (fun t => if t = i then lv else lg t) (w3.setCell ⟨r, i * 3 + 1, none⟩ lv) := by
  have hws := hwo.size
  have hfar := ha.far i x hx
  have hrb := h.below.size
  have hsz := hM.gr.size
  -- what lay in wr and isn't x's own row lies as it lay
  have same : ∀ b, b < wr.heap.size → x.v.ownBlock ≠ some b → b ≠ r → (w3.setCell ⟨r, i * 3 + 1, none⟩ lv).heap[b]? = wr.heap[b]? := fun b hb hne hbr =>
    (Below.heap_setCell w3 ⟨r, i * 3 + 1, none⟩ lv b hbr).trans ((hM.gr.block b (by omega) (fun e => hne e.symm)).trans (hwo.block b hb))
  have hrow3 : w3.heap[r]? = wr.heap[r]? := (hM.gr.block r (by omega) (fun e => hfar.2 e.symm)).trans (hwo.block r hr)
  have hr3 := h.row.block hrow3
  obtain ⟨ys, oy, my⟩ := hM.own
  obtain ⟨g, cap, hlv, hg1, hg2⟩ := oy.form (by omega)
  have hob : lv.ownBlock = some g := by rw [hlv]; rfl
  have hgK : g ≠ K := by
    rcases hM.blk with q | ⟨b, q1, q2⟩
    · intro e; subst e; exact hfar.1 (by rw [← q, hob])
    · rw [hob] at q1; injection q1 with q1; omega
  have hgr : g ≠ r := by
    rcases hM.blk with q | ⟨b, q1, q2⟩
    · intro e; subst e; exact hfar.2 (by rw [← q, hob])
    · rw [hob] at q1; injection q1 with q1; omega
  refine ⟨?_, ⟨?_, ?_⟩, ?_, ?_, ?_, ?_⟩
  · exact (same K hK (fun q => hfar.1 q) ha.kr).trans h.bk
  · intro t y hy
    obtain ⟨a, b, c⟩ := hr3.cells t y hy
    refine ⟨?_, ?_, ?_⟩
    · rw [World.cell?_setCell_other _ _ _ _ (by intro q; injection q; omega)]; exact a
    · by_cases e : t = i
      · subst e; simp only [if_true]
        exact World.cell?_setCell_same' _ _ _ (by rw [b]; rfl)
      · simp only [e, if_false]
        rw [World.cell?_setCell_other _ _ _ _ (by intro q; injection q; omega)]; exact b
    · rw [World.cell?_setCell_other _ _ _ _ (by intro q; injection q; omega)]; exact c
  · intro t; rw [World.frozen?_setCell]; exact hr3.free t
  · intro t y hy ht
    obtain ⟨zs, a, b⟩ := h.todo t y hy (by omega)
    refine ⟨zs, ?_, b⟩
    have hty := ha.two t i y x hy hx (by omega)
    have o1 := own_below a hwo (Nat.le_refl _)
    have o2 := o1.kept hM.gr hty
    exact own_setCell o2 (fun e => (ha.far t y hy).2 e.symm) _
  · intro t ht; simp only [show t ≠ i by omega, if_false]; exact h.lgs t (by omega)
  · intro t y hy ht
    by_cases e : t = i
    · subst e
      rw [hx] at hy; cases hy
      refine ⟨hM.old.keep (fun g' hg' _ => Below.heap_setCell w3 _ _ g' (fun q => hfar.2 (by rw [hg']; exact congrArg some q))) (by simp), g, ?_, hgK, hgr, ?_⟩
      · simp only [if_true]
        refine LongHash.keep (w := w3) ⟨⟨cap, hlv⟩, hg2, fun j o u hj hu => ?_⟩ (Below.heap_setCell w3 _ _ g hgr) (by simp)
        have := oy.cells (g := g) hob _ _ (my j o u hj hu)
        rwa [addr_add] at this
      · intro u y2 hy2 hu
        rcases hM.blk with q | ⟨b, q1, q2⟩
        · rcases ha.two u t y2 x hy2 hx (by omega) with z | z
          · rw [z]; simp
          · rw [← hob, q]; exact z
        · rw [hob] at q1; injection q1 with q1; subst q1
          intro z
          obtain ⟨zs, a, _⟩ := h.todo u y2 hy2 (by omega)
          have := (a.lt g z).2
          omega
    · obtain ⟨a, b, lb, nk, nr, far⟩ := h.done t y hy (by omega)
      simp only [e, if_false]
      have hxb : x.v.ownBlock ≠ some b := far i x hx (Nat.le_refl _)
      refine ⟨a.keep (fun g' hg' hl => same g' hl (fun q => ?_) (fun q => (ha.far t y hy).2 (by rw [hg', q]))) (by simp; omega), b, lb.keep (same b lb.lt hxb nr) (by simp; omega), nk, nr, fun u y2 hy2 hu => far u y2 hy2 (by omega)⟩
      rcases ha.two t i y x hy hx (by omega) with z | z
      · rw [z] at hg'; cases hg'
      · exact z (by rw [hg', q])
  · obtain ⟨zs, a, _⟩ := h.todo i x hx (Nat.le_refl _)
    exact ((h.below.trans (hwo.mono (by omega))).grown hM.gr (by omega) (fun k' e => (a.lt k' e).1)).setCell hbr _
set_option maxRecDepth 100000 in
set_option maxHeartbeats 4000000 in
theorem grow_hash (base K r m cap : Nat) (H : List Hold) (w : World) (hm : H.length = m) (hm2 : m ≤ 1099511627776) (hbase : base ≤ w.heap.size) (hc : w.cell? ⟨K, 5, none⟩ = some (.slice (some ⟨r, 0, none⟩) m cap)) (hrow : RowAt r H (fun _ => .slice none 0 0) w) (hr : r < w.heap.size) (hbr : base ≤ r) (ha : Away K r H)
    (hl : ∀ (t : Nat) (h : Hold), H[t]? = some h → ∃ ys, w.ownsRow base 23 32 h.v h.n ys ∧ Mk (markHash h.num) 32 h.n ys) (hn : ∀ (t : Nat) (h : Hold), H[t]? = some h → h.n ≤ 1099511627776 ∧ 0 ≤ h.num ∧ h.num ≤ 1099511627776) :
    Calls Tryz.prog 75 #[.pointer (some ⟨K, 0, none⟩)] w fun ev w' => ev = .returned (.tuple #[]) ∧ ∃ lg, GrowHash base K r H w m lg w' := by
  have hK := block_of_cell hc
  have HF : Hid (GrowHash base K r H w 0 (fun _ => .slice none 0 0) w) := Lib.hid ⟨rfl, hrow, fun t h ht _ => hl t h ht, fun _ _ => rfl, fun t h ht q => by omega, Below.refl _ _⟩
  have HN := Lib.hid hn
  have HM := Lib.hid hm
  have HA := Lib.hid ha
  obtain ⟨i0, hi, hz0, hz1, hz2⟩ := info_parts info_hash
  clear hn hm hrow ha hl
  go_enter Tryz.func75, Tryz.ntmps75
  go_wp2
  go_loopw [2] (fun i wr => ∃ (k : Nat) (lg : Nat → Value), k ≤ m ∧ i = .int .i64 k ∧ Hid (GrowHash base K r H w k lg wr)) (fun i _ => m - (intOf i).toNat)
  case atStart => exact ⟨0, _, by omega, rfl, HF⟩
  case round =>
    obtain ⟨k, lg, hk, rfl, HR⟩ := hrel
    have hKc := cell_block HR.out.bk hc
    have hKw := block_of_cell hKc
    have hsz := HR.out.below.size
    by_cases hlt : k < m
    · obtain ⟨x, hx⟩ : ∃ x, H[k]? = some x := ⟨_, List.getElem?_eq_getElem (by have := HM.out; omega)⟩
      obtain ⟨r0, r1, r2⟩ := HR.out.row.cells k x hx
      rw [HR.out.lgs k (Nat.le_refl _)] at r1
      have fz := HR.out.row.free (k * 3 + 1)
      obtain ⟨n1, n2, n3⟩ := HN.out k x hx
      obtain ⟨ys0, o0, m0⟩ := HR.out.todo k x hx (Nat.le_refl _)
      have hfar := HA.out.far k x hx
      obtain ⟨xv, xn, num⟩ := x
      obtain ⟨_, A, xcap, hxv, _⟩ := rd_own o0
      simp only at r0 r2 n1 n2 n3 hxv o0 m0 hfar
      subst hxv
      have HX := Lib.hid hx
      have HO0 := Lib.hid o0
      have HM0 := Lib.hid m0
      have HFAR := Lib.hid hfar
      have hrw := block_of_cell r0
      have i1 : (k : Int) < m := by omega
      clear hx o0 m0 hfar
      obtain ⟨wo, rfl⟩ : ∃ wo : World, wo = wr := ⟨_, rfl⟩
      go_wp2
      obtain ⟨W, hW⟩ : ∃ W, wo.alloc (.cells #[.slice A xn xcap, .slice none 0 0, .int .i64 num] 157) = W := ⟨_, rfl⟩
      have hbW : Hid (Below wo.heap.size wo W) := Lib.hid (by rw [← hW]; exact (Below.refl _ _).alloc (Nat.le_refl _) _)
      have b2 : W.cell? ⟨wo.heap.size, 2, none⟩ = some (.int .i64 num) := by rw [← hW]; exact cell_new _ _ 2 _ rfl
      have HS : Hid (MidHash base W ⟨.slice A xn xcap, xn, num⟩ 0 (.slice A xn xcap) W) := Lib.hid (by
        have ow := own_below HO0.out hbW.out (Nat.le_refl _)
        refine ⟨⟨ys0, ow, HM0.out⟩, ?_, .inl rfl, ⟨rfl, rfl, rfl, Nat.le_refl _, fun _ _ _ => rfl⟩⟩
        by_cases q : xn = 0
        · exact .inl q
        · obtain ⟨g, c2, hv, h1, h2⟩ := ow.form (by omega)
          refine .inr ⟨g, ⟨c2, hv⟩, h2, fun j o u hj hu => ?_⟩
          have := ow.cells (g := g) (by rw [hv]; rfl) _ _ (HM0.out j o u hj hu)
          rwa [addr_add] at this)
      have HNE : Hid (some wo.heap.size ≠ (Value.slice A xn xcap).ownBlock) := Lib.hid (fun q => by have := (HO0.out.lt _ q.symm).2; omega)
      rw [hW]
      clear hW
      go_loopw [4, 5] (fun lv j wr => ∃ t : Nat, t ≤ 70 ∧ j = .int .i64 t ∧ Hid (MidHash base W ⟨.slice A xn xcap, xn, num⟩ t lv wr)) (fun _ j _ => 70 - (intOf j).toNat)
      case atStart => exact ⟨0, by omega, rfl, HS⟩
      case round =>
        obtain ⟨t, ht, rfl, HI⟩ := hrel
        have e2 := cell_grown HI.out.gr b2 HNE.out
        have ge := block_of_cell e2
        have hbw : base ≤ wr.heap.size := by have := HI.out.gr.size; have := hbW.out.size; omega
        by_cases hlt2 : t < 70
        · obtain ⟨ys, oy, my⟩ := HI.out.own
          obtain ⟨nn, hnn⟩ : ∃ nn, xn + t = nn := ⟨_, rfl⟩
          simp only at oy my
          rw [hnn] at oy my
          have HMY := Lib.hid my
          have hnb : nn ≤ 1099511627846 := by omega
          obtain ⟨vm, evm, Hvm, Zvm, Ivm, Ovm⟩ := row_of (mkB num) (mkB_length num)
          have HVT : Hid (vm.toList = markHash num) := Lib.hid (by rw [markHash_eq, ← Hvm.out])
          have HMK : Hid (∀ w, Calls Tryz.prog 117 #[.int .i64 num] w fun ev w' => ev = .returned (.agg vm) ∧ Below w.heap.size w w') := Lib.hid (fun w => by have := mark_hash num w n2 n3; rw [evm] at this; exact this)
          clear evm
          clear my
          go_wp2_with (first | (go_at_call 117; refine (HMK.out _).mono ?_; rintro ev w1 ⟨rfl, b1⟩; have o1 := own_below oy b1 (Nat.le_refl _); have hs1 := b1.size) | (refine wpList_buildSlice_row rfl 24 23 _ vm _ 32 rfl rfl Tryz.underlying24 Tryz.sizeOf23 Tryz.zeroValue23 rfl Zvm.out (by omega) (by omega) ?_) | (at_builtin; refine wpList_append_split _ rfl _ _ 24 rfl base 23 i0 (.agg (List.replicate 32 (Value.int .u8 0)).toArray) 32 32 Tryz.underlying24 hi hz0 hz1 hz2 rfl (by decide) u4 nn ys rfl (o1.alloc _) ⟨w1.heap.size, 0, none⟩ 1 1 (markHash num) rfl (by rw [mkB_len2]) (fun j u hu => news_new _ _ j u (by rw [HVT.out]; exact hu)) (by rw [markHash_eq]; exact bytesV_one _) (by decide) (by unfold maxLen; omega) (by omega) (by simp; omega) ?_; intro g3 cap3 w3 hown3 hsp3))
          go_roundw
          case rel => exact ⟨t + 1, by omega, by go_num, Lib.hid (((HI.out.mark b1).mark ((Below.refl _ _).alloc (Nat.le_refl _) _)).snoc (by simp only; rw [hnn]; exact o1.alloc _) (by simp only; rw [hnn]; exact HMY.out) (by simp only; omega) hown3 hsp3)⟩
          case measure => simp [intOf]; omega
        · obtain rfl : t = 70 := by omega
          obtain ⟨ys, oy, my⟩ := HI.out.own
          obtain ⟨g4, cap4, hg4, _, _⟩ := oy.form (by simp)
          subst hg4
          clear oy my
          have q1 := cell_grown HI.out.gr (cell_below hbW.out hKc hKw) (fun q => HFAR.out.1 q.symm)
          have q2 := cell_grown HI.out.gr (cell_below hbW.out r1 hrw) (fun q => HFAR.out.2 q.symm)
          have q3 : wr.frozen? ⟨r, k * 3 + 1, none⟩ = false := frozen_block (HI.out.gr.block r (by have := hbW.out.size; omega) (fun q => HFAR.out.2 q.symm)) (frozen_below hbW.out fz hrw)
          have HNX := Lib.hid (HR.out.next HA.out HX.out hKw hrw hbase hbr hbW.out HI.out)
          have g1 := block_of_cell q1
          have g2 := block_of_cell q2
          go_wp2
          go_roundw
          case rel => exact ⟨k + 1, _, by omega, by go_num, HNX⟩
          case measure => simp [intOf]; omega
    · obtain rfl : k = m := by omega
      go_wp2
      go_end0
      exact ⟨rfl, lg, HR.out⟩
end Go.Proofs.YtnpblpbcchminaaGreatDoor


/- cartularylaw01.Book: lookHash: lists and their longer twins that are marks answer true. No condition. -/
namespace Go.Proofs.YtnpblpbcchminaaGreatDoor
open Go.ChangeShapes Go.WideShapes Go.ChangeAt Go.RowKit
set_option linter.unusedVariables false
set_option maxRecDepth 100000 in
set_option maxHeartbeats 4000000 in
theorem look_hash (K r m cap : Nat) (H : List Hold) (lg : Nat → Value) (w : World) (hm : H.length = m) (hm2 : m ≤ 1099511627776) (hc : w.cell? ⟨K, 5, none⟩ = some (.slice (some ⟨r, 0, none⟩) m cap)) (hrow : RowAt r H lg w)
    (hd : ∀ (t : Nat) (h : Hold), H[t]? = some h → OldHash h w ∧ (∃ A c, h.v = .slice A h.n c) ∧ ∃ b, LongHash h (lg t) (h.n + 70) b w) (hn : ∀ (t : Nat) (h : Hold), H[t]? = some h → h.n ≤ 1099511627776 ∧ 0 ≤ h.num ∧ h.num ≤ 1099511627776) :
    Calls Tryz.prog 91 #[.pointer (some ⟨K, 0, none⟩)] w fun ev w' => ev = .returned (.bool true) ∧ Below w.heap.size w w' := by
  have hK := block_of_cell hc
  have HN := Lib.hid hn
  have HM := Lib.hid hm
  have HD := Lib.hid hd
  have HR0 := Lib.hid hrow
  clear hn hm hd hrow
  go_enter Tryz.func91, Tryz.ntmps91
  go_wp2
  go_loopw [3] (fun i wr => ∃ k : Nat, k ≤ m ∧ i = .int .i64 k ∧ Hid (Below w.heap.size w wr)) (fun i _ => m - (intOf i).toNat)
  case atStart => exact ⟨0, by omega, rfl, Lib.hid (Below.refl _ _)⟩
  case round =>
    obtain ⟨k, hk, rfl, HB⟩ := hrel
    have hKc := cell_below HB.out hc hK
    have hKw := block_of_cell hKc
    have hsz := HB.out.size
    by_cases hlt : k < m
    · obtain ⟨x, hx⟩ : ∃ x, H[k]? = some x := ⟨_, List.getElem?_eq_getElem (by have := HM.out; omega)⟩
      obtain ⟨r0, r1, r2⟩ := HR0.out.cells k x hx
      obtain ⟨n1, n2, n3⟩ := HN.out k x hx
      obtain ⟨ho, ⟨A, xcap, hxv⟩, b, hlg⟩ := HD.out k x hx
      obtain ⟨xv, xn, num⟩ := x
      obtain ⟨⟨cap3, hl3⟩, hl4, hl5⟩ := hlg
      simp only at r0 r2 n1 n2 n3 hxv hl3 hl5
      subst hxv
      rw [hl3] at r1
      have HX := Lib.hid hx
      have HO := Lib.hid ho
      have HL5 := Lib.hid hl5
      have hrw := block_of_cell r0
      have r0 := cell_below HB.out r0 hrw
      have r1 := cell_below HB.out r1 hrw
      have r2 := cell_below HB.out r2 hrw
      have hrw := block_of_cell r0
      have i1 : (k : Int) < m := by omega
      clear hx ho hl5 hl3
      have hneq : ((xn : Int) + 70 != ((xn + 70 : Nat) : Int)) = false := by simp
      have hneq2 : (((xn + 70 : Nat) : Int) != (xn : Int) + 70) = false := by simp
      obtain ⟨wo, rfl⟩ : ∃ wo : World, wo = wr := ⟨_, rfl⟩
      go_wp2
      obtain ⟨W, hW⟩ : ∃ W, wo.alloc (.cells #[.slice A xn xcap, .slice (some ⟨b, 0, none⟩) (xn + 70) cap3, .int .i64 num] 157) = W := ⟨_, rfl⟩
      have hbW : Hid (Below w.heap.size w W) := Lib.hid (by rw [← hW]; exact HB.out.alloc hsz _)
      have b0 : W.cell? ⟨wo.heap.size, 0, none⟩ = some (.slice A xn xcap) := by rw [← hW]; exact cell_new _ _ 0 _ rfl
      have b1 : W.cell? ⟨wo.heap.size, 1, none⟩ = some (.slice (some ⟨b, 0, none⟩) (xn + 70) cap3) := by rw [← hW]; exact cell_new _ _ 1 _ rfl
      have b2 : W.cell? ⟨wo.heap.size, 2, none⟩ = some (.int .i64 num) := by rw [← hW]; exact cell_new _ _ 2 _ rfl
      have hWs := block_of_cell b0
      rw [hW]
      clear hW hneq hneq2
      go_loopw [5] (fun j wr => ∃ t : Nat, t ≤ xn + 70 ∧ j = .int .i64 t ∧ Hid (Below W.heap.size W wr)) (fun j _ => xn + 70 - (intOf j).toNat)
      case atStart => exact ⟨0, by omega, rfl, Lib.hid (Below.refl _ _)⟩
      case round =>
        obtain ⟨t, ht, rfl, HI⟩ := hrel
        have d0 := cell_below HI.out b0 hWs
        have d1 := cell_below HI.out b1 hWs
        have d2 := cell_below HI.out b2 hWs
        have ge := block_of_cell d0
        have hgrW := HI.out.size
        by_cases hlt2 : t < xn + 70
        · have i2 : (t : Int) < xn + 70 := by omega
          obtain ⟨px, hpx⟩ : ∃ q, bytesV (mkB num) = q := ⟨_, rfl⟩
          have HIX : Hid ((Tryz.prog.info? 23).map (·.size) = some px.length) := Lib.hid (by rw [← hpx, bytesV_length, mkB_length]; kernel_rfl)
          have HIS : Hid (∀ w, Calls Tryz.prog 135 #[.agg px.toArray, .int .i64 num] w fun ev w' => ev = .returned (.bool true) ∧ Below w.heap.size w w') := Lib.hid (fun w => by have := is_hash num w n2 n3; rw [hv, hpx] at this; exact this)
          have KP1 : Hid (∀ w', Gr wr w' → w'.rangeAt b (t * 32) px) := Lib.hid (fun w' h => by
            have hr1 : w.rangeAt b (t * 32) px := fun o u hu => HL5.out t o u hlt2 (by rw [markHash_eq, hpx]; exact hu)
            have hbb : b < w.heap.size := rangeAt_lt hr1 (by intro e; rw [e] at hpx; have := congrArg List.length hpx; rw [bytesV_length, mkB_length] at this; simp at this)
            exact rangeAt_below h (rangeAt_below HI.out (rangeAt_below hbW.out hr1 hbb) (by have := hbW.out.size; omega)) (by have := HI.out.size; have := hbW.out.size; omega))
          by_cases hlt3 : t < xn
          · obtain ⟨g, rfl, hgc⟩ : ∃ g, A = some ⟨g, 0, none⟩ ∧ ∀ j o u, j < xn → (markHash num)[o]? = some u → w.cell? ⟨g, j * 32 + o, none⟩ = some u := by
              rcases HO.out with q | ⟨g, ⟨c, q⟩, _, h⟩
              · simp only at q; omega
              · simp only at q; injection q with q1; exact ⟨g, q1, h⟩
            have KP2 : Hid (∀ w', Gr wr w' → w'.rangeAt g (t * 32) px) := Lib.hid (fun w' h => by
              have hr1 : w.rangeAt g (t * 32) px := fun o u hu => hgc t o u hlt3 (by rw [markHash_eq, hpx]; exact hu)
              have hbb : g < w.heap.size := rangeAt_lt hr1 (by intro e; rw [e] at hpx; have := congrArg List.length hpx; rw [bytesV_length, mkB_length] at this; simp at this)
              exact rangeAt_below h (rangeAt_below HI.out (rangeAt_below hbW.out hr1 hbb) (by have := hbW.out.size; omega)) (by have := HI.out.size; have := hbW.out.size; omega))
            have i3 : (t : Int) < xn := by omega
            clear hgc hpx
            go_wp2_with fail
            refine wp_region_held_drew (S := Gr wr) (by kernel_rfl) (Gr.refl wr).drew (fun hHeld => ?_)
            refine tk (i := 0) (v := ?v1) rfl ?y1 ?r1
            case y1 => (intro w hSw; (try dsimp only at hSw); go_simp; (try with_reducible rfl))
            try simp only [pu]
            refine tk (i := 1) (v := ?v2) rfl ?y2 ?r2
            case y2 => (intro w hSw; (try dsimp only at hSw); have q0 := cell_below hSw d0 ge; have q1 := cell_below hSw d1 ge; go_simp; (try with_reducible rfl))
            try simp only [pu]
            refine tk (i := 2) (v := ?v3) rfl ?y3 ?r3
            case y3 => (intro w hSw; (try dsimp only at hSw); go_simp; (try with_reducible rfl))
            try simp only [pu]
            refine tk (i := 3) (v := ?v4) rfl ?y4 ?r4
            case y4 => (intro w hSw; (try dsimp only at hSw); go_simp; (try with_reducible rfl))
            try simp only [pu]
            refine tw (i := 4) rfl (yieldsIf_load_mid (by rfl) 23 _ (by rfl) b (t * 32) (by first | rfl | simp) px _ (fun w h => KP1.out w h) Tryz.underlying23 (by rfl) HIX.out) ?_
            try simp only [pu]
            refine tk (i := 5) (v := ?v6) rfl ?y6 ?r6
            case y6 => (intro w hSw; (try dsimp only at hSw); go_simp; (try with_reducible rfl))
            try simp only [pu]
            refine tk (i := 6) (v := ?v7) rfl ?y7 ?r7
            case y7 => (intro w hSw; (try dsimp only at hSw); have q2 := cell_below hSw d2 ge; go_simp; (try with_reducible rfl))
            try simp only [pu]
            refine wpAnyH_ready (rs := [7]) (by kernel_rfl) (by simp) ?_
            refine AllReadyH.cons (i := 7) rfl (fun K2 hK2 => ?_) AllReadyH.nil
            go_simp
            go_at_call 135
            refine (HIS.out wr.drew).mono ?_
            rintro ev w101 ⟨rfl, b101⟩
            try go_wp2_with fail
            refine hK2.out _ _ (show Gr wr _ from (by repeat (first | exact Gr.refl _ | (refine Gr.step ?_ (by assumption)) | (refine Gr.alloc ?_ _) | (refine Gr.drew ?_)))) (fun hHeld2 => ?_)
            clear hK2 K2
            try simp only [pu]
            refine tk (i := 8) (v := ?v8) rfl ?y8 ?r8
            case y8 => (intro w hSw; (try dsimp only at hSw); go_simp; (try with_reducible rfl))
            try simp only [pu]
            refine tk (i := 9) (v := ?v9) rfl ?y9 ?r9
            case y9 => (intro w hSw; (try dsimp only at hSw); go_simp; (try with_reducible rfl))
            try simp only [pu]
            refine tk (i := 10) (v := ?v10) rfl ?y10 ?r10
            case y10 => (intro w hSw; (try dsimp only at hSw); go_simp; (try with_reducible rfl))
            try simp only [pu]
            refine tk (i := 11) (v := ?v11) rfl ?y11 ?r11
            case y11 => (intro w hSw; (try dsimp only at hSw); go_simp; (try with_reducible rfl))
            try simp only [pu]
            refine tk (i := 12) (v := ?v12) rfl ?y12 ?r12
            case y12 => (intro w hSw; (try dsimp only at hSw); have q0 := cell_below hSw d0 ge; have q1 := cell_below hSw d1 ge; go_simp; (try with_reducible rfl))
            try simp only [pu]
            refine tk (i := 13) (v := ?v13) rfl ?y13 ?r13
            case y13 => (intro w hSw; (try dsimp only at hSw); go_simp; (try with_reducible rfl))
            try simp only [pu]
            refine tk (i := 14) (v := ?v14) rfl ?y14 ?r14
            case y14 => (intro w hSw; (try dsimp only at hSw); go_simp; (try with_reducible rfl))
            try simp only [pu]
            refine tk (i := 15) (v := ?v15) rfl ?y15 ?r15
            case y15 => (intro w hSw; (try dsimp only at hSw); go_simp; (try with_reducible rfl))
            try simp only [pu]
            refine tk (i := 16) (v := ?v16) rfl ?y16 ?r16
            case y16 => (intro w hSw; (try dsimp only at hSw); go_simp; (try with_reducible rfl))
            try simp only [pu]
            refine tk (i := 17) (v := ?v17) rfl ?y17 ?r17
            case y17 => (intro w hSw; (try dsimp only at hSw); have q0 := cell_below hSw d0 ge; have q1 := cell_below hSw d1 ge; go_simp; (try with_reducible rfl))
            try simp only [pu]
            refine tk (i := 18) (v := ?v18) rfl ?y18 ?r18
            case y18 => (intro w hSw; (try dsimp only at hSw); go_simp; (try with_reducible rfl))
            try simp only [pu]
            refine tk (i := 19) (v := ?v19) rfl ?y19 ?r19
            case y19 => (intro w hSw; (try dsimp only at hSw); go_simp; (try with_reducible rfl))
            try simp only [pu]
            refine tw (i := 20) rfl (yieldsIf_load_mid (by rfl) 23 _ (by rfl) g (t * 32) (by first | rfl | simp) px _ (fun w h => KP2.out w h) Tryz.underlying23 (by rfl) HIX.out) ?_
            try simp only [pu]
            refine tk (i := 21) (v := ?v21) rfl ?y21 ?r21
            case y21 => (intro w hSw; (try dsimp only at hSw); go_simp; (try with_reducible rfl))
            try simp only [pu]
            refine tk (i := 22) (v := ?v22) rfl ?y22 ?r22
            case y22 => (intro w hSw; (try dsimp only at hSw); have q2 := cell_below hSw d2 ge; go_simp; (try with_reducible rfl))
            try simp only [pu]
            refine wpAnyH_ready (rs := [23]) (by kernel_rfl) (by simp) ?_
            refine AllReadyH.cons (i := 23) rfl (fun K2 hK2 => ?_) AllReadyH.nil
            go_simp
            go_at_call 135
            refine (HIS.out w101).mono ?_
            rintro ev w102 ⟨rfl, b102⟩
            try go_wp2_with fail
            refine hK2.out _ _ (show Gr wr _ from (by repeat (first | exact Gr.refl _ | (refine Gr.step ?_ (by assumption)) | (refine Gr.alloc ?_ _) | (refine Gr.drew ?_)))) (fun hHeld2 => ?_)
            clear hK2 K2
            try simp only [pu]
            refine tk (i := 24) (v := ?v23) rfl ?y23 ?r23
            case y23 => (intro w hSw; (try dsimp only at hSw); go_simp; (try with_reducible rfl))
            try simp only [pu]
            refine tk (i := 25) (v := ?v24) rfl ?y24 ?r24
            case y24 => (intro w hSw; (try dsimp only at hSw); go_simp; (try with_reducible rfl))
            try simp only [pu]
            refine tk (i := 26) (v := ?v25) rfl ?y25 ?r25
            case y25 => (intro w hSw; (try dsimp only at hSw); go_simp; (try with_reducible rfl))
            try simp only [pu]
            refine wpAnyH_done (by kernel_rfl) ?_ _
            have HB2 := Lib.hid (HI.out.trans (Below.mono (show Gr wr w102 from (Gr.step (Gr.step (Gr.drew (Gr.refl _)) b101) b102)) hgrW))
            go_wp2
            go_roundw
            case rel => exact ⟨t + 1, by omega, by go_num, HB2⟩
            case measure => simp [intOf]; omega
          · have hnl : decide ((t : Int) < xn) = false := by simp; omega
            have hnm : decide (t < xn) = false := by simp; omega
            clear hlt3 hpx
            go_wp2_with fail
            refine wp_region_held_drew (S := Gr wr) (by kernel_rfl) (Gr.refl wr).drew (fun hHeld => ?_)
            refine tk (i := 0) (v := ?v26) rfl ?y26 ?r26
            case y26 => (intro w hSw; (try dsimp only at hSw); go_simp; (try with_reducible rfl))
            try simp only [pu]
            refine tk (i := 1) (v := ?v27) rfl ?y27 ?r27
            case y27 => (intro w hSw; (try dsimp only at hSw); have q0 := cell_below hSw d0 ge; have q1 := cell_below hSw d1 ge; go_simp; (try with_reducible rfl))
            try simp only [pu]
            refine tk (i := 2) (v := ?v28) rfl ?y28 ?r28
            case y28 => (intro w hSw; (try dsimp only at hSw); go_simp; (try with_reducible rfl))
            try simp only [pu]
            refine tk (i := 3) (v := ?v29) rfl ?y29 ?r29
            case y29 => (intro w hSw; (try dsimp only at hSw); go_simp; (try with_reducible rfl))
            try simp only [pu]
            refine tw (i := 4) rfl (yieldsIf_load_mid (by rfl) 23 _ (by rfl) b (t * 32) (by first | rfl | simp) px _ (fun w h => KP1.out w h) Tryz.underlying23 (by rfl) HIX.out) ?_
            try simp only [pu]
            refine tk (i := 5) (v := ?v31) rfl ?y31 ?r31
            case y31 => (intro w hSw; (try dsimp only at hSw); go_simp; (try with_reducible rfl))
            try simp only [pu]
            refine tk (i := 6) (v := ?v32) rfl ?y32 ?r32
            case y32 => (intro w hSw; (try dsimp only at hSw); have q2 := cell_below hSw d2 ge; go_simp; (try with_reducible rfl))
            try simp only [pu]
            refine wpAnyH_ready (rs := [7]) (by kernel_rfl) (by simp) ?_
            refine AllReadyH.cons (i := 7) rfl (fun K2 hK2 => ?_) AllReadyH.nil
            go_simp
            go_at_call 135
            refine (HIS.out wr.drew).mono ?_
            rintro ev w103 ⟨rfl, b103⟩
            try go_wp2_with fail
            refine hK2.out _ _ (show Gr wr _ from (by repeat (first | exact Gr.refl _ | (refine Gr.step ?_ (by assumption)) | (refine Gr.alloc ?_ _) | (refine Gr.drew ?_)))) (fun hHeld2 => ?_)
            clear hK2 K2
            try simp only [pu]
            refine tk (i := 8) (v := ?v33) rfl ?y33 ?r33
            case y33 => (intro w hSw; (try dsimp only at hSw); go_simp; (try with_reducible rfl))
            try simp only [pu]
            refine tk (i := 9) (v := ?v34) rfl ?y34 ?r34
            case y34 => (intro w hSw; (try dsimp only at hSw); go_simp; (try with_reducible rfl))
            try simp only [pu]
            refine tk (i := 10) (v := ?v35) rfl ?y35 ?r35
            case y35 => (intro w hSw; (try dsimp only at hSw); go_simp; (try with_reducible rfl))
            try simp only [pu]
            refine tk (i := 11) (v := ?v36) rfl ?y36 ?r36
            case y36 => (intro w hSw; (try dsimp only at hSw); go_simp; (try with_reducible rfl))
            try simp only [pu]
            refine tk (i := 12) (v := ?v37) rfl ?y37 ?r37
            case y37 => (intro w hSw; (try dsimp only at hSw); have q0 := cell_below hSw d0 ge; have q1 := cell_below hSw d1 ge; go_simp; (try with_reducible rfl))
            try simp only [pu]
            refine tk (i := 13) (v := ?v38) rfl ?y38 ?r38
            case y38 => (intro w hSw; (try dsimp only at hSw); go_simp; (try with_reducible rfl))
            try simp only [pu]
            refine tk (i := 14) (v := ?v39) rfl ?y39 ?r39
            case y39 => (intro w hSw; (try dsimp only at hSw); go_simp; (try with_reducible rfl))
            try simp only [pu]
            refine tk (i := 15) (v := ?v40) rfl ?y40 ?r40
            case y40 => (intro w hSw; (try dsimp only at hSw); go_simp; (try with_reducible rfl))
            try simp only [pu]
            refine ts (i := 16) rfl ?_
            try simp only [pu]
            refine ts (i := 17) rfl ?_
            try simp only [pu]
            refine ts (i := 18) rfl ?_
            try simp only [pu]
            refine ts (i := 19) rfl ?_
            try simp only [pu]
            refine ts (i := 20) rfl ?_
            try simp only [pu]
            refine ts (i := 21) rfl ?_
            try simp only [pu]
            refine ts (i := 22) rfl ?_
            try simp only [pu]
            refine ts (i := 23) rfl ?_
            try simp only [pu]
            refine ts (i := 24) rfl ?_
            try simp only [pu]
            refine tk (i := 25) (v := ?v50) rfl ?y50 ?r50
            case y50 => (intro w hSw; (try dsimp only at hSw); go_simp; (try with_reducible rfl))
            try simp only [pu]
            refine tk (i := 26) (v := ?v51) rfl ?y51 ?r51
            case y51 => (intro w hSw; (try dsimp only at hSw); go_simp; (try with_reducible rfl))
            try simp only [pu]
            refine wpAnyH_done (by kernel_rfl) ?_ _
            have HB2 := Lib.hid (HI.out.trans (Below.mono (show Gr wr w103 from (Gr.step (Gr.drew (Gr.refl _)) b103)) hgrW))
            go_wp2
            go_roundw
            case rel => exact ⟨t + 1, by omega, by go_num, HB2⟩
            case measure => simp [intOf]; omega
        · obtain rfl : t = xn + 70 := by omega
          have HB2 := Lib.hid (hbW.out.trans (HI.out.mono (hbW.out.size)))
          go_wp2
          go_roundw
          case rel => exact ⟨k + 1, by omega, by go_num, HB2⟩
          case measure => simp [intOf]; omega
    · obtain rfl : k = m := by omega
      go_wp2
      go_ret
      exact ⟨rfl, HB.out⟩
end Go.Proofs.YtnpblpbcchminaaGreatDoor


