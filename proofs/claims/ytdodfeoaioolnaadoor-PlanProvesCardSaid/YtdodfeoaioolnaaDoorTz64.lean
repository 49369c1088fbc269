/- Contract of math/bits.TrailingZeros64 (the shelf's, at this dump). Condition: its table reads as listed. -/
import Derived.Test.YtdodfeoaioolnaaDoorErrs
import Derived.Test.YtdodfeoaioolnaaDoorLogPlain
import Derived.Test.YtdodfeoaioolnaaDoorMem
import Derived.Shelf.Spec.TrailingZeros
namespace Go.Proofs.YtdodfeoaioolnaaDoor
open Go.ChangeShapes Go.WideShapes Go.ChangeAt Go.RowKit Go.Shelf
set_option linter.unusedVariables false
def lays29_ren : Go.Shelf.Ren := ⟨fun | 29 => 63 | n => n, fun | 0 => 0 | 3 => 3 | 4 => 4 | 5 => 5 | 22 => 39 | 25 => 138 | 54 => 139 | n => n, fun | 1 => 16 | n => n⟩
theorem lays29 : Go.Proofs.Lays7.n29 Tryd.prog lays29_ren := {
  mixed := by kernel_rfl
  f29 := Tryd.func63.trans (congrArg some (by kernel_rfl))
  g1 := by kernel_rfl
  t0 := by kernel_rfl
  a0 := fun _ => by kernel_rfl
  z0 := fun _ => by kernel_rfl
  v0 := fun _ => by kernel_rfl
  i0 := by kernel_rfl
  t3 := by kernel_rfl
  a3 := fun _ => by kernel_rfl
  z3 := fun _ => by kernel_rfl
  v3 := fun _ => by kernel_rfl
  i3 := by kernel_rfl
  t4 := by kernel_rfl
  a4 := fun _ => by kernel_rfl
  z4 := fun _ => by kernel_rfl
  v4 := fun _ => by kernel_rfl
  i4 := by kernel_rfl
  t5 := by kernel_rfl
  a5 := fun _ => by kernel_rfl
  z5 := fun _ => by kernel_rfl
  v5 := fun _ => by kernel_rfl
  i5 := by kernel_rfl
  t22 := by kernel_rfl
  a22 := fun _ => by kernel_rfl
  z22 := fun _ => by kernel_rfl
  v22 := fun _ => by kernel_rfl
  i22 := by kernel_rfl
  t25 := by kernel_rfl
  a25 := fun _ => by kernel_rfl
  z25 := fun _ => by kernel_rfl
  v25 := fun _ => by kernel_rfl
  i25 := by kernel_rfl
  t54 := by kernel_rfl
  a54 := fun _ => by kernel_rfl
  z54 := fun _ => by kernel_rfl
 }
/-- the table of TrailingZeros64 reads as listed, below block B -/
def TzTab (w : World) : Prop := TabAt 16 Lib.deBruijn64tab w
theorem TzTab.below {B : Nat} {w w' : World} (h : TzTab w) (hb : Below B w w') (hB : 19 ≤ B) : TzTab w' := fun j hj => cell_below hb (h j hj) (Nat.lt_of_lt_of_le (by decide) hB)
/-- how many zeros stand at the end of a number (of 0: 64) -/
def tzI (x : Int) : Int := ((Lib.ctz 64 x.toNat : Nat) : Int)
theorem tz64_any (x : Int) (w : World) (h0 : 0 ≤ x) (h1 : x < 18446744073709551616) (hT : TzTab w) :
    Calls Tryd.prog 63 #[.int .u64 x] w fun e w' => e = .returned (.int .i64 (tzI x)) ∧ w = w' := by
  obtain ⟨n, rfl⟩ := Int.eq_ofNat_of_zero_le h0
  exact (Any7.bits_TrailingZeros64 lays29 n (by omega) w (fun _ => hT)).mono fun e w' ⟨he, hw⟩ => ⟨by rw [he]; unfold tzI; rfl, hw.symm⟩
theorem tzI_def (x : Int) : tzI x = ((Lib.ctz 64 x.toNat : Nat) : Int) := rfl
attribute [irreducible] tzI
end Go.Proofs.YtdodfeoaioolnaaDoor
