/- cartularylaw01.Same: the error that a reference answers, or none. Condition: the package-level variables read as listed. -/
import Derived.Test.YtnddjadjmgfgnaaGreatDoorEnvPeaks
namespace Go.Proofs.YtnddjadjmgfgnaaGreatDoor
open Go.ChangeShapes Go.WideShapes Go.ChangeAt Go.RowKit
set_option linter.unusedVariables false
theorem isat_nil (w : World) : Calls Tryz.prog 27 #[.nilIface, .int .i64 0, .int .i64 0] w fun ev w' => ev = .returned (.bool true) ∧ w = w' := by
  go_enter Tryz.func27, Tryz.ntmps27
  go_wp2
  go_ret
  exact ⟨rfl, rfl⟩
theorem same_none (w : World) : Calls Tryz.prog 10 #[.nilIface, .agg #[.int .i64 0, .int .i64 0]] w fun ev w' => ev = .returned (.bool true) ∧ Below w.heap.size w w' := by
  go_enter Tryz.func10, Tryz.ntmps10
  go_wp2_with fail
  refine (isat_nil _).mono ?_
  rintro ev w1 ⟨rfl, rfl⟩
  go_wp2
  go_ret
  refine ⟨rfl, ?_⟩
  repeat (first | exact Below.refl _ _ | (refine below_drewN ?_) | (refine Below.drew ?_) | (refine Below.alloc ?_ (by simp; try omega) _) | (refine Below.setCell ?_ (by simp; try omega) _))
theorem same_sent (a : Nat → Addr) (B : Nat) (k : Nat) (w : World) (hE : Env B a w) (h1 : 1 ≤ k) (h2 : k ≤ 16) : Calls Tryz.prog 10 #[errV a k, .agg #[.int .i64 k, .int .i64 (-1)]] w fun ev w' => ev = .returned (.bool true) ∧ Below w.heap.size w w' := by
  have HE := Lib.hid hE
  clear hE
  go_enter Tryz.func10, Tryz.ntmps10
  go_wp2_with fail
  refine (is_sent a B k _ (HE.out.alloc _).laid h1 h2).mono ?_
  rintro ev w1 ⟨rfl, b1⟩
  have HB : Hid (Below w.heap.size w w1) := Lib.hid (((Below.refl _ w).alloc (Nat.le_refl _) _).trans (b1.mono (by simp)))
  clear b1
  go_wp2
  go_ret
  exact ⟨rfl, HB.out⟩
end Go.Proofs.YtnddjadjmgfgnaaGreatDoor
