/- The listed variables, and shape.Peaks. Condition: the package-level variables read as listed. -/
import Derived.Test.YtnddjadjmgfgnaaGreatDoorCover
import Derived.Test.YtnddjadjmgfgnaaGreatDoorLawErrs
namespace Go.Proofs.YtnddjadjmgfgnaaGreatDoor
open Go.ChangeShapes Go.WideShapes Go.ChangeAt Go.RowKit
set_option linter.unusedVariables false
/-- what the listed variables give, and the table -/
structure Env (B : Nat) (a : Nat → Addr) (w : World) : Prop where
  laid : Laid B a w
  tab : TzTab w
theorem Env.step {B : Nat} {a : Nat → Addr} {w w' : World} (h : Env B a w) (hb : Below w.heap.size w w') : Env B a w' :=
  ⟨h.laid.below (hb.mono h.laid.size), h.tab.below hb (Nat.le_trans h.laid.low h.laid.size)⟩
theorem Env.alloc {B : Nat} {a : Nat → Addr} {w : World} (h : Env B a w) (o : Obj) : Env B a (w.alloc o) := h.step ((Below.refl _ _).alloc (Nat.le_refl _) _)
theorem peaks_ok (a : Nat → Addr) (B : Nat) (sz : Int) (w : World) (hE : Env B a w) (h0 : 0 ≤ sz) (h2 : sz ≤ 9223372036854775808) :
    Calls Tryz.prog 7 #[.int .u64 sz] w (ListPost 77 2 w (coverL 128 0 sz.toNat).length (coordCells (coverL 128 0 sz.toNat))) := by
  have HE := Lib.hid hE
  clear hE
  go_enter Tryz.func7, Tryz.ntmps7
  go_wp2_with fail
  refine (cover_ok 0 _ _ HE.out.tab (Nat.le_trans HE.out.laid.low HE.out.laid.size) (by omega) (by omega) (by omega)).mono ?_
  rintro ev w1 ⟨v, rfl, hown, hb⟩
  go_wp2
  refine bodyPost_ret (v := .tuple #[v, .nilIface]) (by simp [results, Tryz.results7, go_sem]) rfl ⟨v, rfl, hown, hb⟩
theorem peaks_fail (a : Nat → Addr) (B : Nat) (sz : Int) (w : World) (hE : Env B a w) (h0 : 9223372036854775808 < sz) (h2 : sz < 18446744073709551616) :
    Calls Tryz.prog 7 #[.int .u64 sz] w (FailPost (errV a 5) w) := by
  have he := hE.laid.e5
  have hlo := hE.laid.low
  have hsz := hE.laid.size
  have hg : 0 < w.heap.size := block_of_cell he
  clear hE
  go_enter Tryz.func7, Tryz.ntmps7
  go_wp2
  go_quiet (fail)
  go_wp2
  refine bodyPost_ret (v := .tuple #[.slice none 0 0, errV a 5]) (by simp [results, Tryz.results7, go_sem, errV]) rfl ⟨rfl, ?_⟩
  repeat (first | exact Below.refl _ _ | (refine below_drewN ?_) | (refine Below.drew ?_) | (refine Below.alloc ?_ (by simp; try omega) _))
end Go.Proofs.YtnddjadjmgfgnaaGreatDoor
