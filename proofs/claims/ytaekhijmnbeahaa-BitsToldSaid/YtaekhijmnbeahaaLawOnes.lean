/- The walks of BitsOnes and BitsLefts: for any numbers they answer true. -/
import Derived.Test.YtaekhijmnbeahaaLawAdds
import Derived.Test.YtaekhijmnbeahaaBitsOnes
import Derived.Test.YtaekhijmnbeahaaBitsLeft
import Derived.Test.YtaekhijmnbeahaaLogPlain
namespace Go.Proofs.Ytaekhijmnbeahaa
open Go.ChangeShapes Go.WideShapes Go.ChangeAt Go.RowKit
set_option linter.unusedVariables false

theorem ones_A8' (x : Int) (w : World) (hx : 0 ≤ x) (hx' : x < 256) :
    Calls Try.prog 48 #[.int .u8 x] w fun e w' => e = .returned (.int .i64 (onesI x)) ∧ w = w' := by
  obtain ⟨y, rfl⟩ := Int.eq_ofNat_of_zero_le hx
  refine (ones_A8 y w (by omega)).mono ?_
  rintro e w' ⟨rfl, rfl⟩
  exact ⟨ret_int (by unfold onesI; simp), rfl⟩

theorem cnt_A8' (x : Int) (w : World) (hx : 0 ≤ x) (hx' : x < 256) :
    Calls Try.prog 56 #[.int .u8 x] w fun e w' => e = .returned (.int .i64 (cntI x)) ∧ w = w' := by
  obtain ⟨y, rfl⟩ := Int.eq_ofNat_of_zero_le hx
  refine (cnt_A8 y w (by omega)).mono ?_
  rintro e w' ⟨rfl, rfl⟩
  exact ⟨ret_int (by unfold cntI; simp), rfl⟩

theorem ones_A16' (x : Int) (w : World) (hx : 0 ≤ x) (hx' : x < 65536) :
    Calls Try.prog 50 #[.int .u16 x] w fun e w' => e = .returned (.int .i64 (onesI x)) ∧ w = w' := by
  obtain ⟨y, rfl⟩ := Int.eq_ofNat_of_zero_le hx
  refine (ones_A16 y w (by omega)).mono ?_
  rintro e w' ⟨rfl, rfl⟩
  exact ⟨ret_int (by unfold onesI; simp), rfl⟩

theorem cnt_A16' (x : Int) (w : World) (hx : 0 ≤ x) (hx' : x < 65536) :
    Calls Try.prog 58 #[.int .u16 x] w fun e w' => e = .returned (.int .i64 (cntI x)) ∧ w = w' := by
  obtain ⟨y, rfl⟩ := Int.eq_ofNat_of_zero_le hx
  refine (cnt_A16 y w (by omega)).mono ?_
  rintro e w' ⟨rfl, rfl⟩
  exact ⟨ret_int (by unfold cntI; simp), rfl⟩

theorem ones_A32' (x : Int) (w : World) (hx : 0 ≤ x) (hx' : x < 4294967296) :
    Calls Try.prog 51 #[.int .u32 x] w fun e w' => e = .returned (.int .i64 (onesI x)) ∧ w = w' := by
  obtain ⟨y, rfl⟩ := Int.eq_ofNat_of_zero_le hx
  refine (ones_A32 y w (by omega)).mono ?_
  rintro e w' ⟨rfl, rfl⟩
  exact ⟨ret_int (by unfold onesI; simp), rfl⟩

theorem cnt_A32' (x : Int) (w : World) (hx : 0 ≤ x) (hx' : x < 4294967296) :
    Calls Try.prog 59 #[.int .u32 x] w fun e w' => e = .returned (.int .i64 (cntI x)) ∧ w = w' := by
  obtain ⟨y, rfl⟩ := Int.eq_ofNat_of_zero_le hx
  refine (cnt_A32 y w (by omega)).mono ?_
  rintro e w' ⟨rfl, rfl⟩
  exact ⟨ret_int (by unfold cntI; simp), rfl⟩

theorem ones_A64' (x : Int) (w : World) (hx : 0 ≤ x) (hx' : x < 18446744073709551616) :
    Calls Try.prog 52 #[.int .u64 x] w fun e w' => e = .returned (.int .i64 (onesI x)) ∧ w = w' := by
  obtain ⟨y, rfl⟩ := Int.eq_ofNat_of_zero_le hx
  refine (ones_A64 y w (by omega)).mono ?_
  rintro e w' ⟨rfl, rfl⟩
  exact ⟨ret_int (by unfold onesI; simp), rfl⟩

theorem cnt_A64' (x : Int) (w : World) (hx : 0 ≤ x) (hx' : x < 18446744073709551616) :
    Calls Try.prog 60 #[.int .u64 x] w fun e w' => e = .returned (.int .i64 (cntI x)) ∧ w = w' := by
  obtain ⟨y, rfl⟩ := Int.eq_ofNat_of_zero_le hx
  refine (cnt_A64 y w (by omega)).mono ?_
  rintro e w' ⟨rfl, rfl⟩
  exact ⟨ret_int (by unfold cntI; simp), rfl⟩

theorem ones_Au' (x : Int) (w : World) (hx : 0 ≤ x) (hx' : x < 18446744073709551616) :
    Calls Try.prog 53 #[.int .u64 x] w fun e w' => e = .returned (.int .i64 (onesI x)) ∧ w = w' := by
  obtain ⟨y, rfl⟩ := Int.eq_ofNat_of_zero_le hx
  refine (ones_Au y w (by omega)).mono ?_
  rintro e w' ⟨rfl, rfl⟩
  exact ⟨ret_int (by unfold onesI; simp), rfl⟩

theorem cnt_Au' (x : Int) (w : World) (hx : 0 ≤ x) (hx' : x < 18446744073709551616) :
    Calls Try.prog 61 #[.int .u64 x] w fun e w' => e = .returned (.int .i64 (cntI x)) ∧ w = w' := by
  obtain ⟨y, rfl⟩ := Int.eq_ofNat_of_zero_le hx
  refine (cnt_Au y w (by omega)).mono ?_
  rintro e w' ⟨rfl, rfl⟩
  exact ⟨ret_int (by unfold cntI; simp), rfl⟩

theorem ones_Ao' (x : Int) (w : World) (hx : 0 ≤ x) (hx' : x < 65536) :
    Calls Try.prog 54 #[.int .u16 x] w fun e w' => e = .returned (.int .i64 (onesI x)) ∧ w = w' := by
  obtain ⟨y, rfl⟩ := Int.eq_ofNat_of_zero_le hx
  refine (ones_Ao y w (by omega)).mono ?_
  rintro e w' ⟨rfl, rfl⟩
  exact ⟨ret_int (by unfold onesI; simp), rfl⟩

theorem cnt_Ao' (x : Int) (w : World) (hx : 0 ≤ x) (hx' : x < 65536) :
    Calls Try.prog 62 #[.int .u16 x] w fun e w' => e = .returned (.int .i64 (cntI x)) ∧ w = w' := by
  obtain ⟨y, rfl⟩ := Int.eq_ofNat_of_zero_le hx
  refine (cnt_Ao y w (by omega)).mono ?_
  rintro e w' ⟨rfl, rfl⟩
  exact ⟨ret_int (by unfold cntI; simp), rfl⟩

theorem ones_As' (x : Int) (w : World) (hx : 0 ≤ x) (hx' : x < 256) :
    Calls Try.prog 55 #[.int .u8 x] w fun e w' => e = .returned (.int .i64 (onesI x)) ∧ w = w' := by
  obtain ⟨y, rfl⟩ := Int.eq_ofNat_of_zero_le hx
  refine (ones_As y w (by omega)).mono ?_
  rintro e w' ⟨rfl, rfl⟩
  exact ⟨ret_int (by unfold onesI; simp), rfl⟩

theorem cnt_As' (x : Int) (w : World) (hx : 0 ≤ x) (hx' : x < 256) :
    Calls Try.prog 63 #[.int .u8 x] w fun e w' => e = .returned (.int .i64 (cntI x)) ∧ w = w' := by
  obtain ⟨y, rfl⟩ := Int.eq_ofNat_of_zero_le hx
  refine (cnt_As y w (by omega)).mono ?_
  rintro e w' ⟨rfl, rfl⟩
  exact ⟨ret_int (by unfold cntI; simp), rfl⟩

theorem refones' (x : Int) (w : World) (hx : 0 ≤ x) (hx' : x < 18446744073709551616) :
    Calls Try.prog 49 #[.int .u64 x] w fun e w' => e = .returned (.int .i64 (onesI x)) ∧ w = w' := by
  obtain ⟨y, rfl⟩ := Int.eq_ofNat_of_zero_le hx
  refine (refones y w (by omega)).mono ?_
  rintro e w' ⟨rfl, rfl⟩
  exact ⟨ret_int (by unfold onesI; simp), rfl⟩

theorem refcnt' (x : Int) (w : World) (hx : 0 ≤ x) (hx' : x < 18446744073709551616) :
    Calls Try.prog 57 #[.int .u64 x] w fun e w' => e = .returned (.int .i64 (cntI x)) ∧ w = w' := by
  obtain ⟨y, rfl⟩ := Int.eq_ofNat_of_zero_le hx
  refine (refcnt y w (by omega)).mono ?_
  rintro e w' ⟨rfl, rfl⟩
  exact ⟨ret_int (by unfold cntI; simp), rfl⟩

set_option maxRecDepth 100000 in
set_option maxHeartbeats 4000000 in
theorem ones_walk (x : Int) (w : World) (hx : 0 ≤ x) (hx' : x < 18446744073709551616) :
    Calls Try.prog 6 #[.int .u64 x] w fun e w' => e = .returned (.bool true) ∧ w = w' := by
  have hx16 : 0 ≤ IntKind.u16.wrap x ∧ IntKind.u16.wrap x < 65536 := by rw [wrap_u16]; omega
  go_enter Try.func6, Try.ntmps6
  go_wp2_with (first | (go_at_call 48; refine (ones_A8' _ _ (by omega) (by omega)).mono ?_; rintro e w' ⟨rfl, rfl⟩) | (go_at_call 56; refine (cnt_A8' _ _ (by omega) (by omega)).mono ?_; rintro e w' ⟨rfl, rfl⟩) | (go_at_call 50; refine (ones_A16' _ _ (by omega) (by omega)).mono ?_; rintro e w' ⟨rfl, rfl⟩) | (go_at_call 58; refine (cnt_A16' _ _ (by omega) (by omega)).mono ?_; rintro e w' ⟨rfl, rfl⟩) | (go_at_call 51; refine (ones_A32' _ _ (by omega) (by omega)).mono ?_; rintro e w' ⟨rfl, rfl⟩) | (go_at_call 59; refine (cnt_A32' _ _ (by omega) (by omega)).mono ?_; rintro e w' ⟨rfl, rfl⟩) | (go_at_call 52; refine (ones_A64' _ _ (by omega) (by omega)).mono ?_; rintro e w' ⟨rfl, rfl⟩) | (go_at_call 60; refine (cnt_A64' _ _ (by omega) (by omega)).mono ?_; rintro e w' ⟨rfl, rfl⟩) | (go_at_call 53; refine (ones_Au' _ _ (by omega) (by omega)).mono ?_; rintro e w' ⟨rfl, rfl⟩) | (go_at_call 61; refine (cnt_Au' _ _ (by omega) (by omega)).mono ?_; rintro e w' ⟨rfl, rfl⟩) | (go_at_call 54; refine (ones_Ao' _ _ (by omega) (by omega)).mono ?_; rintro e w' ⟨rfl, rfl⟩) | (go_at_call 62; refine (cnt_Ao' _ _ (by omega) (by omega)).mono ?_; rintro e w' ⟨rfl, rfl⟩) | (go_at_call 55; refine (ones_As' _ _ (by omega) (by omega)).mono ?_; rintro e w' ⟨rfl, rfl⟩) | (go_at_call 63; refine (cnt_As' _ _ (by omega) (by omega)).mono ?_; rintro e w' ⟨rfl, rfl⟩) | (go_at_call 49; refine (refones' _ _ (by omega) (by omega)).mono ?_; rintro e w' ⟨rfl, rfl⟩) | (go_at_call 57; refine (refcnt' _ _ (by omega) (by omega)).mono ?_; rintro e w' ⟨rfl, rfl⟩))
  go_ret
  exact ⟨rfl, rfl⟩

theorem leftV_bd (m x : Int) (k : Nat) (hm : 0 < m) (hx : 0 ≤ x) : 0 ≤ leftV m x k ∧ leftV m x k < m := by
  have : 0 ≤ x * 2 ^ k := Int.mul_nonneg hx (Int.le_of_lt (Int.pow_pos (by decide)))
  unfold leftV; split <;> omega

set_option maxRecDepth 100000 in
set_option maxHeartbeats 4000000 in
theorem lefts_walk (x n : Int) (w : World) (hx : 0 ≤ x) (hx' : x < 18446744073709551616) (hn : 0 ≤ n) (hn' : n ≤ 9223372036854775807) :
    Calls Try.prog 5 #[.int .u64 x, .int .i64 n] w fun e w' => e = .returned (.bool true) ∧ w = w' := by
  have hx16 : 0 ≤ IntKind.u16.wrap x ∧ IntKind.u16.wrap x < 65536 := by rw [wrap_u16]; omega
  have b0 := leftV_bd 256 (x % 256) n.toNat (by omega) (by omega)
  have b1 := leftV_bd 65536 (IntKind.u16.wrap x) n.toNat (by omega) (by omega)
  have b2 := leftV_bd 4294967296 (x % 4294967296) n.toNat (by omega) (by omega)
  have b3 := leftV_bd 18446744073709551616 x n.toNat (by omega) (by omega)
  go_enter Try.func5, Try.ntmps5
  go_wp2_with (first | (go_at_call 40; refine (left_A8 _ _ _ (by omega) (by omega) (by omega) (by omega)).mono ?_; rintro e w' ⟨rfl, rfl⟩) | (go_at_call 42; refine (left_A16 _ _ _ (by omega) (by omega) (by omega) (by omega)).mono ?_; rintro e w' ⟨rfl, rfl⟩) | (go_at_call 43; refine (left_A32 _ _ _ (by omega) (by omega) (by omega) (by omega)).mono ?_; rintro e w' ⟨rfl, rfl⟩) | (go_at_call 44; refine (left_A64 _ _ _ (by omega) (by omega) (by omega) (by omega)).mono ?_; rintro e w' ⟨rfl, rfl⟩) | (go_at_call 45; refine (left_Au _ _ _ (by omega) (by omega) (by omega) (by omega)).mono ?_; rintro e w' ⟨rfl, rfl⟩) | (go_at_call 46; refine (left_Ao _ _ _ (by omega) (by omega) (by omega) (by omega)).mono ?_; rintro e w' ⟨rfl, rfl⟩) | (go_at_call 47; refine (left_As _ _ _ (by omega) (by omega) (by omega) (by omega)).mono ?_; rintro e w' ⟨rfl, rfl⟩) | (go_at_call 41; (first | (with_reducible refine (refleft_8 _ _ _ (by omega) (by omega) (by omega) (by omega)).mono ?_) | (with_reducible refine (refleft_16 _ _ _ (by omega) (by omega) (by omega) (by omega)).mono ?_) | (with_reducible refine (refleft_32 _ _ _ (by omega) (by omega) (by omega) (by omega)).mono ?_) | (with_reducible refine (refleft_64 _ _ _ (by omega) (by omega) (by omega) (by omega)).mono ?_)); rintro e w' ⟨rfl, rfl⟩) | (go_at_call 19; refine (same_refl _ _ _).mono ?_; rintro e w' ⟨rfl, rfl⟩))
  go_ret
  exact ⟨rfl, rfl⟩

set_option maxRecDepth 100000 in
set_option maxHeartbeats 4000000 in
theorem lefts_neg_walk (x n : Int) (w : World) (hx : 0 ≤ x) (hx' : x < 18446744073709551616) (hn : -9223372036854775808 ≤ n) (hn' : n < 0) :
    Calls Try.prog 5 #[.int .u64 x, .int .i64 n] w fun e w' => e = .returned (.bool true) ∧ w = w' := by
  have hx16 : 0 ≤ IntKind.u16.wrap x ∧ IntKind.u16.wrap x < 65536 := by rw [wrap_u16]; omega
  go_enter Try.func5, Try.ntmps5
  go_wp2_with (first | (go_at_call 40; refine (left_A8_neg _ _ _ (by omega) (by omega) (by omega) (by omega)).mono ?_; rintro e w' ⟨rfl, rfl⟩) | (go_at_call 42; refine (left_A16_neg _ _ _ (by omega) (by omega) (by omega) (by omega)).mono ?_; rintro e w' ⟨rfl, rfl⟩) | (go_at_call 43; refine (left_A32_neg _ _ _ (by omega) (by omega) (by omega) (by omega)).mono ?_; rintro e w' ⟨rfl, rfl⟩) | (go_at_call 44; refine (left_A64_neg _ _ _ (by omega) (by omega) (by omega) (by omega)).mono ?_; rintro e w' ⟨rfl, rfl⟩) | (go_at_call 45; refine (left_Au_neg _ _ _ (by omega) (by omega) (by omega) (by omega)).mono ?_; rintro e w' ⟨rfl, rfl⟩) | (go_at_call 46; refine (left_Ao_neg _ _ _ (by omega) (by omega) (by omega) (by omega)).mono ?_; rintro e w' ⟨rfl, rfl⟩) | (go_at_call 47; refine (left_As_neg _ _ _ (by omega) (by omega) (by omega) (by omega)).mono ?_; rintro e w' ⟨rfl, rfl⟩) | (go_at_call 41; (first | (with_reducible refine (refleft_8_neg _ _ _ (by omega) (by omega) (by omega) (by omega)).mono ?_) | (with_reducible refine (refleft_16_neg _ _ _ (by omega) (by omega) (by omega) (by omega)).mono ?_) | (with_reducible refine (refleft_32_neg _ _ _ (by omega) (by omega) (by omega) (by omega)).mono ?_) | (with_reducible refine (refleft_64_neg _ _ _ (by omega) (by omega) (by omega) (by omega)).mono ?_)); rintro e w' ⟨rfl, rfl⟩) | (go_at_call 19; refine (same_refl _ _ _).mono ?_; rintro e w' ⟨rfl, rfl⟩))
  go_ret
  exact ⟨rfl, rfl⟩

end Go.Proofs.Ytaekhijmnbeahaa
