/- The walk of BitsAdds: for any two numbers it answers true. -/
import Derived.Test.YtaekhijmnbeahaaBitsAdd
import Derived.BigQuiet
import Derived.Deep.QuietTactic
namespace Go.Proofs.Ytaekhijmnbeahaa
open Go.ChangeShapes Go.WideShapes Go.ChangeAt Go.RowKit
set_option linter.unusedVariables false

theorem same_refl (a : Int) (b : Bool) (w : World) :
    Calls Try.prog 19 #[.int .u64 a, .bool b, .int .u64 a, .bool b] w fun e w' => e = .returned (.bool true) ∧ w = w' := by
  go_enter Try.func19, Try.ntmps19
  go_wp2
  go_ret
  exact ⟨rfl, rfl⟩

theorem refadd_8 (a b : Int) (w : World) (ha : 0 ≤ a) (ha' : a < 256) (hb : 0 ≤ b) (hb' : b < 256) :
    Calls Try.prog 12 #[.int .i64 8, .int .u64 a, .int .u64 b] w fun e w' => e = .returned (.tuple #[.int .u64 (addV 256 a b), .bool (addB 256 a b)]) ∧ w = w' := by
  by_cases h : a + b < 256
  · rw [addV_yes h, addB_yes h]; exact refadd_8_yes a b w ha ha' hb hb' h
  · rw [addV_no (by omega), addB_no (by omega)]; exact refadd_8_no a b w ha ha' hb hb' (by omega)

theorem refadd_16 (a b : Int) (w : World) (ha : 0 ≤ a) (ha' : a < 65536) (hb : 0 ≤ b) (hb' : b < 65536) :
    Calls Try.prog 12 #[.int .i64 16, .int .u64 a, .int .u64 b] w fun e w' => e = .returned (.tuple #[.int .u64 (addV 65536 a b), .bool (addB 65536 a b)]) ∧ w = w' := by
  by_cases h : a + b < 65536
  · rw [addV_yes h, addB_yes h]; exact refadd_16_yes a b w ha ha' hb hb' h
  · rw [addV_no (by omega), addB_no (by omega)]; exact refadd_16_no a b w ha ha' hb hb' (by omega)

theorem refadd_32 (a b : Int) (w : World) (ha : 0 ≤ a) (ha' : a < 4294967296) (hb : 0 ≤ b) (hb' : b < 4294967296) :
    Calls Try.prog 12 #[.int .i64 32, .int .u64 a, .int .u64 b] w fun e w' => e = .returned (.tuple #[.int .u64 (addV 4294967296 a b), .bool (addB 4294967296 a b)]) ∧ w = w' := by
  by_cases h : a + b < 4294967296
  · rw [addV_yes h, addB_yes h]; exact refadd_32_yes a b w ha ha' hb hb' h
  · rw [addV_no (by omega), addB_no (by omega)]; exact refadd_32_no a b w ha ha' hb hb' (by omega)

theorem refadd_64 (a b : Int) (w : World) (ha : 0 ≤ a) (ha' : a < 18446744073709551616) (hb : 0 ≤ b) (hb' : b < 18446744073709551616) :
    Calls Try.prog 12 #[.int .i64 64, .int .u64 a, .int .u64 b] w fun e w' => e = .returned (.tuple #[.int .u64 (addV 18446744073709551616 a b), .bool (addB 18446744073709551616 a b)]) ∧ w = w' := by
  by_cases h : a + b < 18446744073709551616
  · rw [addV_yes h, addB_yes h]; exact refadd_64_yes a b w ha ha' hb hb' h
  · rw [addV_no (by omega), addB_no (by omega)]; exact refadd_64_no a b w ha ha' hb hb' (by omega)

theorem addV_bd (m a b : Int) (hm : 0 < m) (ha : 0 ≤ a) (hb : 0 ≤ b) : 0 ≤ addV m a b ∧ addV m a b < m := by unfold addV; split <;> omega
set_option maxRecDepth 100000 in
set_option maxHeartbeats 1000000 in
theorem adds_walk (x y : Int) (w : World) (hx : 0 ≤ x) (hx' : x < 18446744073709551616) (hy : 0 ≤ y) (hy' : y < 18446744073709551616) :
    Calls Try.prog 3 #[.int .u64 x, .int .u64 y] w fun e w' => e = .returned (.bool true) ∧ w = w' := by
  have hx16 : 0 ≤ IntKind.u16.wrap x ∧ IntKind.u16.wrap x < 65536 := by rw [wrap_u16]; omega
  have hy16 : 0 ≤ IntKind.u16.wrap y ∧ IntKind.u16.wrap y < 65536 := by rw [wrap_u16]; omega
  have b256 := addV_bd 256 (x % 256) (y % 256) (by omega) (by omega) (by omega)
  have b65536 := addV_bd 65536 (IntKind.u16.wrap x) (IntKind.u16.wrap y) (by omega) (by omega) (by omega)
  have b4294967296 := addV_bd 4294967296 (x % 4294967296) (y % 4294967296) (by omega) (by omega) (by omega)
  have b18446744073709551616 := addV_bd 18446744073709551616 x y (by omega) (by omega) (by omega)
  go_enter Try.func3, Try.ntmps3
  go_wp2_with (first | (go_at_call 11; refine (add_A8 _ _ _ (by omega) (by omega) (by omega) (by omega)).mono ?_; rintro e w' ⟨rfl, rfl⟩) | (go_at_call 13; refine (add_A16 _ _ _ (by omega) (by omega) (by omega) (by omega)).mono ?_; rintro e w' ⟨rfl, rfl⟩) | (go_at_call 14; refine (add_A32 _ _ _ (by omega) (by omega) (by omega) (by omega)).mono ?_; rintro e w' ⟨rfl, rfl⟩) | (go_at_call 15; refine (add_A64 _ _ _ (by omega) (by omega) (by omega) (by omega)).mono ?_; rintro e w' ⟨rfl, rfl⟩) | (go_at_call 16; refine (add_Au _ _ _ (by omega) (by omega) (by omega) (by omega)).mono ?_; rintro e w' ⟨rfl, rfl⟩) | (go_at_call 17; refine (add_Ao _ _ _ (by omega) (by omega) (by omega) (by omega)).mono ?_; rintro e w' ⟨rfl, rfl⟩) | (go_at_call 18; refine (add_As _ _ _ (by omega) (by omega) (by omega) (by omega)).mono ?_; rintro e w' ⟨rfl, rfl⟩) | (go_at_call 12; (first | (with_reducible refine (refadd_8 _ _ _ (by omega) (by omega) (by omega) (by omega)).mono ?_) | (with_reducible refine (refadd_16 _ _ _ (by omega) (by omega) (by omega) (by omega)).mono ?_) | (with_reducible refine (refadd_32 _ _ _ (by omega) (by omega) (by omega) (by omega)).mono ?_) | (with_reducible refine (refadd_64 _ _ _ (by omega) (by omega) (by omega) (by omega)).mono ?_)); rintro e w' ⟨rfl, rfl⟩) | (go_at_call 19; refine (same_refl _ _ _).mono ?_; rintro e w' ⟨rfl, rfl⟩))
  go_ret
  exact ⟨rfl, rfl⟩
end Go.Proofs.Ytaekhijmnbeahaa
