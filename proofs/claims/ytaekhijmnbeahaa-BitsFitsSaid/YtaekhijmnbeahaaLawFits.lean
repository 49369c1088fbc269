/- Contracts of bits.Fit at each pair of kinds, and of the reference's; the walk of BitsFits: for any number it answers true. -/
import Derived.Test.YtaekhijmnbeahaaLawAdds
namespace Go.Proofs.Ytaekhijmnbeahaa
open Go.ChangeShapes Go.WideShapes Go.ChangeAt Go.RowKit
set_option linter.unusedVariables false
def fitV (m x : Int) : Int := if x < m then x else 0
def fitB (m x : Int) : Bool := decide (x < m)
theorem fitV_yes {m x : Int} (h : x < m) : fitV m x = x := if_pos h
theorem fitV_no {m x : Int} (h : m ≤ x) : fitV m x = 0 := if_neg (by omega)
theorem fitB_yes {m x : Int} (h : x < m) : fitB m x = true := decide_eq_true h
theorem fitB_no {m x : Int} (h : m ≤ x) : fitB m x = false := decide_eq_false (by omega)
theorem fitV_bd (m x : Int) (hm : 0 < m) (hx : 0 ≤ x) : 0 ≤ fitV m x ∧ fitV m x < m := by unfold fitV; split <;> omega

theorem fit_A8_A64 (x : Int) (w : World) (hx : 0 ≤ x) (hx' : x < 18446744073709551616) :
    Calls Try.prog 20 #[.int .u64 x] w fun e w' => e = .returned (.tuple #[.int .u8 (fitV 256 x), .bool (fitB 256 x)]) ∧ w = w' := by
  have hb : 0 ≤ x % 256 ∧ x % 256 < 256 := by omega
  by_cases h : x < 256
  · have ht : (x % 256 != x) = false := by simp; omega
    have HV : Hid (x % 256 = x) := by exact Lib.hid (by omega)
    rw [fitV_yes h, fitB_yes h]
    go_enter Try.func20, Try.ntmps20
    go_wp2
    go_ret2
    exact ⟨ret_pair (by have := HV.out; omega) rfl, rfl⟩
  · have ht : (x % 256 != x) = true := by simp; omega
    rw [fitV_no (by omega), fitB_no (by omega)]
    go_enter Try.func20, Try.ntmps20
    go_wp2
    go_ret2
    exact ⟨rfl, rfl⟩

theorem fit_As_A8 (x : Int) (w : World) (hx : 0 ≤ x) (hx' : x < 256) :
    Calls Try.prog 22 #[.int .u8 x] w fun e w' => e = .returned (.tuple #[.int .u8 x, .bool true]) ∧ w = w' := by
  go_enter Try.func22, Try.ntmps22
  go_wp2
  go_ret2
  exact ⟨rfl, rfl⟩

theorem fit_A64_A8 (x : Int) (w : World) (hx : 0 ≤ x) (hx' : x < 256) :
    Calls Try.prog 23 #[.int .u8 x] w fun e w' => e = .returned (.tuple #[.int .u64 x, .bool true]) ∧ w = w' := by
  go_enter Try.func23, Try.ntmps23
  go_wp2
  go_ret2
  exact ⟨rfl, rfl⟩

theorem fit_A16_A64 (x : Int) (w : World) (hx : 0 ≤ x) (hx' : x < 18446744073709551616) :
    Calls Try.prog 24 #[.int .u64 x] w fun e w' => e = .returned (.tuple #[.int .u16 (fitV 65536 x), .bool (fitB 65536 x)]) ∧ w = w' := by
  have hb : 0 ≤ IntKind.u16.wrap x ∧ IntKind.u16.wrap x < 65536 := by rw [wrap_u16]; omega
  by_cases h : x < 65536
  · have ht : (IntKind.u16.wrap x != x) = false := by rw [wrap_u16]; simp; omega
    have HV : Hid (IntKind.u16.wrap x = x) := by exact Lib.hid (by rw [wrap_u16]; omega)
    rw [fitV_yes h, fitB_yes h]
    go_enter Try.func24, Try.ntmps24
    go_wp2
    go_ret2
    exact ⟨ret_pair (by have := HV.out; omega) rfl, rfl⟩
  · have ht : (IntKind.u16.wrap x != x) = true := by rw [wrap_u16]; simp; omega
    rw [fitV_no (by omega), fitB_no (by omega)]
    go_enter Try.func24, Try.ntmps24
    go_wp2
    go_ret2
    exact ⟨rfl, rfl⟩

theorem fit_As_A16 (x : Int) (w : World) (hx : 0 ≤ x) (hx' : x < 65536) :
    Calls Try.prog 25 #[.int .u16 x] w fun e w' => e = .returned (.tuple #[.int .u8 (fitV 256 x), .bool (fitB 256 x)]) ∧ w = w' := by
  have hb : 0 ≤ x % 256 ∧ x % 256 < 256 := by omega
  by_cases h : x < 256
  · have ht : (x % 256 != x) = false := by simp; omega
    have HV : Hid (x % 256 = x) := by exact Lib.hid (by omega)
    rw [fitV_yes h, fitB_yes h]
    go_enter Try.func25, Try.ntmps25
    go_wp2
    go_ret2
    exact ⟨ret_pair (by have := HV.out; omega) rfl, rfl⟩
  · have ht : (x % 256 != x) = true := by simp; omega
    rw [fitV_no (by omega), fitB_no (by omega)]
    go_enter Try.func25, Try.ntmps25
    go_wp2
    go_ret2
    exact ⟨rfl, rfl⟩

theorem fit_A64_A16 (x : Int) (w : World) (hx : 0 ≤ x) (hx' : x < 65536) :
    Calls Try.prog 26 #[.int .u16 x] w fun e w' => e = .returned (.tuple #[.int .u64 x, .bool true]) ∧ w = w' := by
  go_enter Try.func26, Try.ntmps26
  go_wp2
  go_ret2
  exact ⟨rfl, rfl⟩

theorem fit_A32_A64 (x : Int) (w : World) (hx : 0 ≤ x) (hx' : x < 18446744073709551616) :
    Calls Try.prog 27 #[.int .u64 x] w fun e w' => e = .returned (.tuple #[.int .u32 (fitV 4294967296 x), .bool (fitB 4294967296 x)]) ∧ w = w' := by
  have hb : 0 ≤ x % 4294967296 ∧ x % 4294967296 < 4294967296 := by omega
  by_cases h : x < 4294967296
  · have ht : (x % 4294967296 != x) = false := by simp; omega
    have HV : Hid (x % 4294967296 = x) := by exact Lib.hid (by omega)
    rw [fitV_yes h, fitB_yes h]
    go_enter Try.func27, Try.ntmps27
    go_wp2
    go_ret2
    exact ⟨ret_pair (by have := HV.out; omega) rfl, rfl⟩
  · have ht : (x % 4294967296 != x) = true := by simp; omega
    rw [fitV_no (by omega), fitB_no (by omega)]
    go_enter Try.func27, Try.ntmps27
    go_wp2
    go_ret2
    exact ⟨rfl, rfl⟩

theorem fit_As_A32 (x : Int) (w : World) (hx : 0 ≤ x) (hx' : x < 4294967296) :
    Calls Try.prog 28 #[.int .u32 x] w fun e w' => e = .returned (.tuple #[.int .u8 (fitV 256 x), .bool (fitB 256 x)]) ∧ w = w' := by
  have hb : 0 ≤ x % 256 ∧ x % 256 < 256 := by omega
  by_cases h : x < 256
  · have ht : (x % 256 != x) = false := by simp; omega
    have HV : Hid (x % 256 = x) := by exact Lib.hid (by omega)
    rw [fitV_yes h, fitB_yes h]
    go_enter Try.func28, Try.ntmps28
    go_wp2
    go_ret2
    exact ⟨ret_pair (by have := HV.out; omega) rfl, rfl⟩
  · have ht : (x % 256 != x) = true := by simp; omega
    rw [fitV_no (by omega), fitB_no (by omega)]
    go_enter Try.func28, Try.ntmps28
    go_wp2
    go_ret2
    exact ⟨rfl, rfl⟩

theorem fit_A64_A32 (x : Int) (w : World) (hx : 0 ≤ x) (hx' : x < 4294967296) :
    Calls Try.prog 29 #[.int .u32 x] w fun e w' => e = .returned (.tuple #[.int .u64 x, .bool true]) ∧ w = w' := by
  go_enter Try.func29, Try.ntmps29
  go_wp2
  go_ret2
  exact ⟨rfl, rfl⟩

theorem fit_A64_A64 (x : Int) (w : World) (hx : 0 ≤ x) (hx' : x < 18446744073709551616) :
    Calls Try.prog 30 #[.int .u64 x] w fun e w' => e = .returned (.tuple #[.int .u64 x, .bool true]) ∧ w = w' := by
  go_enter Try.func30, Try.ntmps30
  go_wp2
  go_ret2
  exact ⟨rfl, rfl⟩

theorem fit_As_A64 (x : Int) (w : World) (hx : 0 ≤ x) (hx' : x < 18446744073709551616) :
    Calls Try.prog 31 #[.int .u64 x] w fun e w' => e = .returned (.tuple #[.int .u8 (fitV 256 x), .bool (fitB 256 x)]) ∧ w = w' := by
  have hb : 0 ≤ x % 256 ∧ x % 256 < 256 := by omega
  by_cases h : x < 256
  · have ht : (x % 256 != x) = false := by simp; omega
    have HV : Hid (x % 256 = x) := by exact Lib.hid (by omega)
    rw [fitV_yes h, fitB_yes h]
    go_enter Try.func31, Try.ntmps31
    go_wp2
    go_ret2
    exact ⟨ret_pair (by have := HV.out; omega) rfl, rfl⟩
  · have ht : (x % 256 != x) = true := by simp; omega
    rw [fitV_no (by omega), fitB_no (by omega)]
    go_enter Try.func31, Try.ntmps31
    go_wp2
    go_ret2
    exact ⟨rfl, rfl⟩

theorem fit_Au_A64 (x : Int) (w : World) (hx : 0 ≤ x) (hx' : x < 18446744073709551616) :
    Calls Try.prog 32 #[.int .u64 x] w fun e w' => e = .returned (.tuple #[.int .u64 x, .bool true]) ∧ w = w' := by
  go_enter Try.func32, Try.ntmps32
  go_wp2
  go_ret2
  exact ⟨rfl, rfl⟩

theorem fit_As_Au (x : Int) (w : World) (hx : 0 ≤ x) (hx' : x < 18446744073709551616) :
    Calls Try.prog 33 #[.int .u64 x] w fun e w' => e = .returned (.tuple #[.int .u8 (fitV 256 x), .bool (fitB 256 x)]) ∧ w = w' := by
  have hb : 0 ≤ x % 256 ∧ x % 256 < 256 := by omega
  by_cases h : x < 256
  · have ht : (x % 256 != x) = false := by simp; omega
    have HV : Hid (x % 256 = x) := by exact Lib.hid (by omega)
    rw [fitV_yes h, fitB_yes h]
    go_enter Try.func33, Try.ntmps33
    go_wp2
    go_ret2
    exact ⟨ret_pair (by have := HV.out; omega) rfl, rfl⟩
  · have ht : (x % 256 != x) = true := by simp; omega
    rw [fitV_no (by omega), fitB_no (by omega)]
    go_enter Try.func33, Try.ntmps33
    go_wp2
    go_ret2
    exact ⟨rfl, rfl⟩

theorem fit_A64_Au (x : Int) (w : World) (hx : 0 ≤ x) (hx' : x < 18446744073709551616) :
    Calls Try.prog 34 #[.int .u64 x] w fun e w' => e = .returned (.tuple #[.int .u64 x, .bool true]) ∧ w = w' := by
  go_enter Try.func34, Try.ntmps34
  go_wp2
  go_ret2
  exact ⟨rfl, rfl⟩

theorem fit_Ao_A64 (x : Int) (w : World) (hx : 0 ≤ x) (hx' : x < 18446744073709551616) :
    Calls Try.prog 35 #[.int .u64 x] w fun e w' => e = .returned (.tuple #[.int .u16 (fitV 65536 x), .bool (fitB 65536 x)]) ∧ w = w' := by
  have hb : 0 ≤ IntKind.u16.wrap x ∧ IntKind.u16.wrap x < 65536 := by rw [wrap_u16]; omega
  by_cases h : x < 65536
  · have ht : (IntKind.u16.wrap x != x) = false := by rw [wrap_u16]; simp; omega
    have HV : Hid (IntKind.u16.wrap x = x) := by exact Lib.hid (by rw [wrap_u16]; omega)
    rw [fitV_yes h, fitB_yes h]
    go_enter Try.func35, Try.ntmps35
    go_wp2
    go_ret2
    exact ⟨ret_pair (by have := HV.out; omega) rfl, rfl⟩
  · have ht : (IntKind.u16.wrap x != x) = true := by rw [wrap_u16]; simp; omega
    rw [fitV_no (by omega), fitB_no (by omega)]
    go_enter Try.func35, Try.ntmps35
    go_wp2
    go_ret2
    exact ⟨rfl, rfl⟩

theorem fit_As_Ao (x : Int) (w : World) (hx : 0 ≤ x) (hx' : x < 65536) :
    Calls Try.prog 36 #[.int .u16 x] w fun e w' => e = .returned (.tuple #[.int .u8 (fitV 256 x), .bool (fitB 256 x)]) ∧ w = w' := by
  have hb : 0 ≤ x % 256 ∧ x % 256 < 256 := by omega
  by_cases h : x < 256
  · have ht : (x % 256 != x) = false := by simp; omega
    have HV : Hid (x % 256 = x) := by exact Lib.hid (by omega)
    rw [fitV_yes h, fitB_yes h]
    go_enter Try.func36, Try.ntmps36
    go_wp2
    go_ret2
    exact ⟨ret_pair (by have := HV.out; omega) rfl, rfl⟩
  · have ht : (x % 256 != x) = true := by simp; omega
    rw [fitV_no (by omega), fitB_no (by omega)]
    go_enter Try.func36, Try.ntmps36
    go_wp2
    go_ret2
    exact ⟨rfl, rfl⟩

theorem fit_A64_Ao (x : Int) (w : World) (hx : 0 ≤ x) (hx' : x < 65536) :
    Calls Try.prog 37 #[.int .u16 x] w fun e w' => e = .returned (.tuple #[.int .u64 x, .bool true]) ∧ w = w' := by
  go_enter Try.func37, Try.ntmps37
  go_wp2
  go_ret2
  exact ⟨rfl, rfl⟩

theorem fit_As_As (x : Int) (w : World) (hx : 0 ≤ x) (hx' : x < 256) :
    Calls Try.prog 38 #[.int .u8 x] w fun e w' => e = .returned (.tuple #[.int .u8 x, .bool true]) ∧ w = w' := by
  go_enter Try.func38, Try.ntmps38
  go_wp2
  go_ret2
  exact ⟨rfl, rfl⟩

theorem fit_A64_As (x : Int) (w : World) (hx : 0 ≤ x) (hx' : x < 256) :
    Calls Try.prog 39 #[.int .u8 x] w fun e w' => e = .returned (.tuple #[.int .u64 x, .bool true]) ∧ w = w' := by
  go_enter Try.func39, Try.ntmps39
  go_wp2
  go_ret2
  exact ⟨rfl, rfl⟩

theorem reffit_8 (x : Int) (w : World) (hx : 0 ≤ x) (hx' : x < 18446744073709551616) :
    Calls Try.prog 21 #[.int .i64 8, .int .u64 x] w fun e w' => e = .returned (.tuple #[.int .u64 (fitV 256 x), .bool (fitB 256 x)]) ∧ w = w' := by
  by_cases h : x < 256
  · rw [fitV_yes h, fitB_yes h]
    go_enter Try.func21, Try.ntmps21
    go_wp2_with (go_at_call 73; refine (most_8 _).mono ?_; rintro e w' ⟨rfl, rfl⟩)
    go_ret2
    exact ⟨rfl, rfl⟩
  · rw [fitV_no (by omega), fitB_no (by omega)]
    go_enter Try.func21, Try.ntmps21
    go_wp2_with (go_at_call 73; refine (most_8 _).mono ?_; rintro e w' ⟨rfl, rfl⟩)
    go_ret2
    exact ⟨rfl, rfl⟩

theorem reffit_16 (x : Int) (w : World) (hx : 0 ≤ x) (hx' : x < 18446744073709551616) :
    Calls Try.prog 21 #[.int .i64 16, .int .u64 x] w fun e w' => e = .returned (.tuple #[.int .u64 (fitV 65536 x), .bool (fitB 65536 x)]) ∧ w = w' := by
  by_cases h : x < 65536
  · rw [fitV_yes h, fitB_yes h]
    go_enter Try.func21, Try.ntmps21
    go_wp2_with (go_at_call 73; refine (most_16 _).mono ?_; rintro e w' ⟨rfl, rfl⟩)
    go_ret2
    exact ⟨rfl, rfl⟩
  · rw [fitV_no (by omega), fitB_no (by omega)]
    go_enter Try.func21, Try.ntmps21
    go_wp2_with (go_at_call 73; refine (most_16 _).mono ?_; rintro e w' ⟨rfl, rfl⟩)
    go_ret2
    exact ⟨rfl, rfl⟩

theorem reffit_32 (x : Int) (w : World) (hx : 0 ≤ x) (hx' : x < 18446744073709551616) :
    Calls Try.prog 21 #[.int .i64 32, .int .u64 x] w fun e w' => e = .returned (.tuple #[.int .u64 (fitV 4294967296 x), .bool (fitB 4294967296 x)]) ∧ w = w' := by
  by_cases h : x < 4294967296
  · rw [fitV_yes h, fitB_yes h]
    go_enter Try.func21, Try.ntmps21
    go_wp2_with (go_at_call 73; refine (most_32 _).mono ?_; rintro e w' ⟨rfl, rfl⟩)
    go_ret2
    exact ⟨rfl, rfl⟩
  · rw [fitV_no (by omega), fitB_no (by omega)]
    go_enter Try.func21, Try.ntmps21
    go_wp2_with (go_at_call 73; refine (most_32 _).mono ?_; rintro e w' ⟨rfl, rfl⟩)
    go_ret2
    exact ⟨rfl, rfl⟩

theorem reffit_64 (x : Int) (w : World) (hx : 0 ≤ x) (hx' : x < 18446744073709551616) :
    Calls Try.prog 21 #[.int .i64 64, .int .u64 x] w fun e w' => e = .returned (.tuple #[.int .u64 (fitV 18446744073709551616 x), .bool (fitB 18446744073709551616 x)]) ∧ w = w' := by
  rw [fitV_yes hx', fitB_yes hx']
  go_enter Try.func21, Try.ntmps21
  go_wp2_with (go_at_call 73; refine (most_64 _).mono ?_; rintro e w' ⟨rfl, rfl⟩)
  go_ret2
  exact ⟨rfl, rfl⟩

set_option maxRecDepth 100000 in
set_option maxHeartbeats 4000000 in
theorem fits_walk (x : Int) (w : World) (hx : 0 ≤ x) (hx' : x < 18446744073709551616) :
    Calls Try.prog 4 #[.int .u64 x] w fun e w' => e = .returned (.bool true) ∧ w = w' := by
  have hx16 : 0 ≤ IntKind.u16.wrap x ∧ IntKind.u16.wrap x < 65536 := by rw [wrap_u16]; omega
  have b1 := fitV_bd 256 x (by omega) hx
  have b2 := fitV_bd 65536 x (by omega) hx
  have b3 := fitV_bd 4294967296 x (by omega) hx
  have b4 := fitV_bd 18446744073709551616 x (by omega) hx
  have c1 := fitV_bd 256 (x % 256) (by omega) (by omega)
  have c2 := fitV_bd 256 (IntKind.u16.wrap x) (by omega) (by omega)
  have c3 := fitV_bd 256 (x % 4294967296) (by omega) (by omega)
  have e1 : fitV 256 (x % 256) = x % 256 := fitV_yes (by omega)
  have e2 : fitB 256 (x % 256) = true := fitB_yes (by omega)
  have e3 : fitV 18446744073709551616 x = x := fitV_yes (by omega)
  have e4 : fitB 18446744073709551616 x = true := fitB_yes (by omega)
  go_enter Try.func4, Try.ntmps4
  go_wp2_with (first | (go_at_call 20; refine (fit_A8_A64 _ _ (by omega) (by omega)).mono ?_; rintro e w' ⟨rfl, rfl⟩) | (go_at_call 22; refine (fit_As_A8 _ _ (by omega) (by omega)).mono ?_; rintro e w' ⟨rfl, rfl⟩) | (go_at_call 23; refine (fit_A64_A8 _ _ (by omega) (by omega)).mono ?_; rintro e w' ⟨rfl, rfl⟩) | (go_at_call 24; refine (fit_A16_A64 _ _ (by omega) (by omega)).mono ?_; rintro e w' ⟨rfl, rfl⟩) | (go_at_call 25; refine (fit_As_A16 _ _ (by omega) (by omega)).mono ?_; rintro e w' ⟨rfl, rfl⟩) | (go_at_call 26; refine (fit_A64_A16 _ _ (by omega) (by omega)).mono ?_; rintro e w' ⟨rfl, rfl⟩) | (go_at_call 27; refine (fit_A32_A64 _ _ (by omega) (by omega)).mono ?_; rintro e w' ⟨rfl, rfl⟩) | (go_at_call 28; refine (fit_As_A32 _ _ (by omega) (by omega)).mono ?_; rintro e w' ⟨rfl, rfl⟩) | (go_at_call 29; refine (fit_A64_A32 _ _ (by omega) (by omega)).mono ?_; rintro e w' ⟨rfl, rfl⟩) | (go_at_call 30; refine (fit_A64_A64 _ _ (by omega) (by omega)).mono ?_; rintro e w' ⟨rfl, rfl⟩) | (go_at_call 31; refine (fit_As_A64 _ _ (by omega) (by omega)).mono ?_; rintro e w' ⟨rfl, rfl⟩) | (go_at_call 32; refine (fit_Au_A64 _ _ (by omega) (by omega)).mono ?_; rintro e w' ⟨rfl, rfl⟩) | (go_at_call 33; refine (fit_As_Au _ _ (by omega) (by omega)).mono ?_; rintro e w' ⟨rfl, rfl⟩) | (go_at_call 34; refine (fit_A64_Au _ _ (by omega) (by omega)).mono ?_; rintro e w' ⟨rfl, rfl⟩) | (go_at_call 35; refine (fit_Ao_A64 _ _ (by omega) (by omega)).mono ?_; rintro e w' ⟨rfl, rfl⟩) | (go_at_call 36; refine (fit_As_Ao _ _ (by omega) (by omega)).mono ?_; rintro e w' ⟨rfl, rfl⟩) | (go_at_call 37; refine (fit_A64_Ao _ _ (by omega) (by omega)).mono ?_; rintro e w' ⟨rfl, rfl⟩) | (go_at_call 38; refine (fit_As_As _ _ (by omega) (by omega)).mono ?_; rintro e w' ⟨rfl, rfl⟩) | (go_at_call 39; refine (fit_A64_As _ _ (by omega) (by omega)).mono ?_; rintro e w' ⟨rfl, rfl⟩) | (go_at_call 21; (first | (with_reducible refine (reffit_8 _ _ (by omega) (by omega)).mono ?_) | (with_reducible refine (reffit_16 _ _ (by omega) (by omega)).mono ?_) | (with_reducible refine (reffit_32 _ _ (by omega) (by omega)).mono ?_) | (with_reducible refine (reffit_64 _ _ (by omega) (by omega)).mono ?_)); rintro e w' ⟨rfl, rfl⟩) | (go_at_call 19; refine (same_refl _ _ _).mono ?_; rintro e w' ⟨rfl, rfl⟩))
  go_ret
  exact ⟨rfl, rfl⟩
end Go.Proofs.Ytaekhijmnbeahaa
