import Derived.Test.YtnpblpbcchminaaGreatDoorRows
import Derived.Test.YtnpblpbcchminaaGreatDoorKbLogPlain
import Derived.Shelf.Strconv.Itoa0
import Derived.RegionTactic
import Derived.ChangeAlike
import Derived.BigQuiet
import Derived.Deep.QuietTactic
import Derived.BigRegion
import Derived.Laws.EntriesVeiled
import Derived.Test.YtnpblpbcchminaaGreatDoorKbRefNode
import Derived.Test.YtnpblpbcchminaaGreatDoorKbSameHashes
import Derived.Deep.MidRow
import Derived.Deep.DeepCutAuto
/- Contracts of math/bits.Len64 (the shelf's, at this dump), shape.Split. -/
namespace Go.Proofs.YtnpblpbcchminaaGreatDoor
open Go.ChangeShapes Go.WideShapes Go.ChangeAt Go.RowKit Go.Shelf
set_option linter.unusedVariables false
end Go.Proofs.YtnpblpbcchminaaGreatDoor
/- shape.halves and shape.Path, what they answer: the stretches of a path. Condition: the package-level variables read as listed. -/
namespace Go.Proofs.YtnpblpbcchminaaGreatDoor
open Go.ChangeShapes Go.WideShapes Go.ChangeAt Go.RowKit
set_option linter.unusedVariables false

end Go.Proofs.YtnpblpbcchminaaGreatDoor
/- What a path, a proof says, from its end. No program in sight. -/
namespace Go.Proofs.YtnpblpbcchminaaGreatDoor
open Go.ChangeShapes Go.WideShapes Go.ChangeAt Go.RowKit
set_option linter.unusedVariables false
end Go.Proofs.YtnpblpbcchminaaGreatDoor
/- cartularyref18.Half, Long, Steps, says: what a path says. No condition. -/
namespace Go.Proofs.YtnpblpbcchminaaGreatDoor
open Go.ChangeShapes Go.WideShapes Go.ChangeAt Go.RowKit
set_option linter.unusedVariables false
end Go.Proofs.YtnpblpbcchminaaGreatDoor

/- cartularyref18.Root, Inclusion: what a path says that the root is; the fault. No condition. -/
namespace Go.Proofs.YtnpblpbcchminaaGreatDoor
open Go.ChangeShapes Go.WideShapes Go.ChangeAt Go.RowKit
set_option linter.unusedVariables false
theorem plain18 (k : Nat) (hk : k ≠ 0) (hk2 : k < 100) (w : World) : Calls Tryz.prog 17 #[.int .i64 (k : Int)] w fun ev w' => ev = .returned (faultV k) ∧ Below w.heap.size w w' := by
  unfold faultV
  rw [if_neg hk]
  have h0 : ((k : Int) == 0) = false := by simp; exact hk
  have k1 : (0 : Int) ≤ k := by omega
  have k2 : (k : Int) < 100 := by omega
  go_enter Tryz.func17, Tryz.ntmps17
  go_wp2
  refine bodyPost_ret (v := .agg #[.int .i64 (k : Int), .int .i64 (-1)]) (by simp [results, Tryz.results17, go_sem]) rfl ⟨rfl, ?_⟩
  repeat (first | exact Below.refl _ _ | (refine below_drewN ?_) | (refine Below.drew ?_) | (refine Below.alloc ?_ (by simp; try omega) _) | (refine Below.setCell ?_ (by simp; try omega) _))
end Go.Proofs.YtnpblpbcchminaaGreatDoor

