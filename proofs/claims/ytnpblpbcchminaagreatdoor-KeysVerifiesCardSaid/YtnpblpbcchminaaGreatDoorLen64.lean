/- Contracts of math/bits.Len64 (the shelf's, at this dump), shape.Split. -/
import Derived.Test.YtnpblpbcchminaaGreatDoorRows
import Derived.Test.YtnpblpbcchminaaGreatDoorLogPlain
import Derived.Shelf.Strconv.Itoa0
namespace Go.Proofs.YtnpblpbcchminaaGreatDoor
open Go.ChangeShapes Go.WideShapes Go.ChangeAt Go.RowKit Go.Shelf
set_option linter.unusedVariables false
def lays129_ren : Go.Shelf.Ren := ⟨fun | 129 => 223 | n => n, fun | 53 => 95 | 3 => 3 | 4 => 4 | 46 => 97 | 5 => 5 | 9 => 9 | n => n, fun | n => n⟩
theorem lays129 : Go.Proofs.Lays.n129 Tryz.prog lays129_ren := {
  mixed := by kernel_rfl
  f129 := Tryz.func223.trans (congrArg some (by kernel_rfl))
  t3 := Tryz.underlying3
  a3 := Tryz.isAgg3
  z3 := Tryz.sizeOf3
  v3 := Tryz.zeroValue3
  t4 := Tryz.underlying4
  a4 := Tryz.isAgg4
  z4 := Tryz.sizeOf4
  v4 := Tryz.zeroValue4
  t5 := Tryz.underlying5
  a5 := Tryz.isAgg5
  z5 := Tryz.sizeOf5
  v5 := Tryz.zeroValue5
  t9 := Tryz.underlying9
  a9 := Tryz.isAgg9
  z9 := Tryz.sizeOf9
  v9 := Tryz.zeroValue9
  t46 := Tryz.underlying97
  a46 := Tryz.isAgg97
  z46 := Tryz.sizeOf97
  v46 := Tryz.zeroValue97
  t53 := Tryz.underlying95
  a53 := Tryz.isAgg95
  z53 := Tryz.sizeOf95
  v53 := Tryz.zeroValue95 }
theorem bitLenAux_eq : ∀ f y : Nat, y < 2 ^ f → Lib.bitLenAux f y = blen y
  | 0, y, h => by have : y = 0 := by simpa using h
                  subst this; rfl
  | f + 1, y, h => by
      unfold Lib.bitLenAux
      by_cases h0 : y = 0
      · rw [if_pos h0, h0, blen_zero]
      · have := bitLenAux_eq f (y / 2) (by rw [Nat.pow_succ] at h; omega)
        have hh := blen_half (y := y) (by omega)
        rw [if_neg h0, this]; omega
end Go.Proofs.YtnpblpbcchminaaGreatDoor
