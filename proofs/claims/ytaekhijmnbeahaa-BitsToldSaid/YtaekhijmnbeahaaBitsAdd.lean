/- Contracts of bits.Add at each kind and of the reference's Most and Add: what they answer, whatever numbers of their kinds they are given. -/
import Derived.Test.YtaekhijmnbeahaaRows
import Derived.Test.YtaekhijmnbeahaaAid
namespace Go.Proofs.Ytaekhijmnbeahaa
open Go.ChangeShapes Go.WideShapes Go.ChangeAt Go.RowKit
set_option linter.unusedVariables false

def addV (m a b : Int) : Int := if a + b < m then a + b else 0
def addB (m a b : Int) : Bool := decide (a + b < m)
theorem addV_yes {m a b : Int} (h : a + b < m) : addV m a b = a + b := if_pos h
theorem addV_no {m a b : Int} (h : m ≤ a + b) : addV m a b = 0 := if_neg (by omega)
theorem addB_yes {m a b : Int} (h : a + b < m) : addB m a b = true := decide_eq_true h
theorem addB_no {m a b : Int} (h : m ≤ a + b) : addB m a b = false := decide_eq_false (by omega)

theorem add_A8 (a b : Int) (w : World) (ha : 0 ≤ a) (ha' : a < 256) (hb : 0 ≤ b) (hb' : b < 256) :
    Calls Try.prog 11 #[.int .u8 a, .int .u8 b] w fun e w' => e = .returned (.tuple #[.int .u8 (addV 256 a b), .bool (addB 256 a b)]) ∧ w = w' := by
  by_cases h : a + b < 256
  · rw [addV_yes h, addB_yes h]
    go_enter Try.func11, Try.ntmps11
    go_wp2
    go_ret2
    exact ⟨rfl, rfl⟩
  · rw [addV_no (by omega), addB_no (by omega)]
    have h2 : (a + b) % 256 < a := by omega
    have h3 : IntKind.u8.wrap (a + b) < a := by rw [wrap_u8]; exact h2
    go_enter Try.func11, Try.ntmps11
    go_wp2
    go_ret2
    exact ⟨rfl, rfl⟩

theorem add_A16 (a b : Int) (w : World) (ha : 0 ≤ a) (ha' : a < 65536) (hb : 0 ≤ b) (hb' : b < 65536) :
    Calls Try.prog 13 #[.int .u16 a, .int .u16 b] w fun e w' => e = .returned (.tuple #[.int .u16 (addV 65536 a b), .bool (addB 65536 a b)]) ∧ w = w' := by
  by_cases h : a + b < 65536
  · rw [addV_yes h, addB_yes h]
    go_enter Try.func13, Try.ntmps13
    go_wp2
    go_ret2
    exact ⟨rfl, rfl⟩
  · rw [addV_no (by omega), addB_no (by omega)]
    have h2 : (a + b) % 65536 < a := by omega
    have h3 : IntKind.u16.wrap (a + b) < a := by rw [wrap_u16]; exact h2
    go_enter Try.func13, Try.ntmps13
    go_wp2
    go_ret2
    exact ⟨rfl, rfl⟩

theorem add_A32 (a b : Int) (w : World) (ha : 0 ≤ a) (ha' : a < 4294967296) (hb : 0 ≤ b) (hb' : b < 4294967296) :
    Calls Try.prog 14 #[.int .u32 a, .int .u32 b] w fun e w' => e = .returned (.tuple #[.int .u32 (addV 4294967296 a b), .bool (addB 4294967296 a b)]) ∧ w = w' := by
  by_cases h : a + b < 4294967296
  · rw [addV_yes h, addB_yes h]
    go_enter Try.func14, Try.ntmps14
    go_wp2
    go_ret2
    exact ⟨rfl, rfl⟩
  · rw [addV_no (by omega), addB_no (by omega)]
    have h2 : (a + b) % 4294967296 < a := by omega
    have h3 : IntKind.u32.wrap (a + b) < a := by rw [wrap_u32]; exact h2
    go_enter Try.func14, Try.ntmps14
    go_wp2
    go_ret2
    exact ⟨rfl, rfl⟩

theorem add_A64 (a b : Int) (w : World) (ha : 0 ≤ a) (ha' : a < 18446744073709551616) (hb : 0 ≤ b) (hb' : b < 18446744073709551616) :
    Calls Try.prog 15 #[.int .u64 a, .int .u64 b] w fun e w' => e = .returned (.tuple #[.int .u64 (addV 18446744073709551616 a b), .bool (addB 18446744073709551616 a b)]) ∧ w = w' := by
  by_cases h : a + b < 18446744073709551616
  · rw [addV_yes h, addB_yes h]
    go_enter Try.func15, Try.ntmps15
    go_wp2
    go_ret2
    exact ⟨rfl, rfl⟩
  · rw [addV_no (by omega), addB_no (by omega)]
    have h2 : (a + b) % 18446744073709551616 < a := by omega
    have h3 : IntKind.u64.wrap (a + b) < a := by rw [wrap_u64]; exact h2
    go_enter Try.func15, Try.ntmps15
    go_wp2
    go_ret2
    exact ⟨rfl, rfl⟩

theorem add_Au (a b : Int) (w : World) (ha : 0 ≤ a) (ha' : a < 18446744073709551616) (hb : 0 ≤ b) (hb' : b < 18446744073709551616) :
    Calls Try.prog 16 #[.int .u64 a, .int .u64 b] w fun e w' => e = .returned (.tuple #[.int .u64 (addV 18446744073709551616 a b), .bool (addB 18446744073709551616 a b)]) ∧ w = w' := by
  by_cases h : a + b < 18446744073709551616
  · rw [addV_yes h, addB_yes h]
    go_enter Try.func16, Try.ntmps16
    go_wp2
    go_ret2
    exact ⟨rfl, rfl⟩
  · rw [addV_no (by omega), addB_no (by omega)]
    have h2 : (a + b) % 18446744073709551616 < a := by omega
    have h3 : IntKind.u64.wrap (a + b) < a := by rw [wrap_u64]; exact h2
    go_enter Try.func16, Try.ntmps16
    go_wp2
    go_ret2
    exact ⟨rfl, rfl⟩

theorem add_Ao (a b : Int) (w : World) (ha : 0 ≤ a) (ha' : a < 65536) (hb : 0 ≤ b) (hb' : b < 65536) :
    Calls Try.prog 17 #[.int .u16 a, .int .u16 b] w fun e w' => e = .returned (.tuple #[.int .u16 (addV 65536 a b), .bool (addB 65536 a b)]) ∧ w = w' := by
  by_cases h : a + b < 65536
  · rw [addV_yes h, addB_yes h]
    go_enter Try.func17, Try.ntmps17
    go_wp2
    go_ret2
    exact ⟨rfl, rfl⟩
  · rw [addV_no (by omega), addB_no (by omega)]
    have h2 : (a + b) % 65536 < a := by omega
    have h3 : IntKind.u16.wrap (a + b) < a := by rw [wrap_u16]; exact h2
    go_enter Try.func17, Try.ntmps17
    go_wp2
    go_ret2
    exact ⟨rfl, rfl⟩

theorem add_As (a b : Int) (w : World) (ha : 0 ≤ a) (ha' : a < 256) (hb : 0 ≤ b) (hb' : b < 256) :
    Calls Try.prog 18 #[.int .u8 a, .int .u8 b] w fun e w' => e = .returned (.tuple #[.int .u8 (addV 256 a b), .bool (addB 256 a b)]) ∧ w = w' := by
  by_cases h : a + b < 256
  · rw [addV_yes h, addB_yes h]
    go_enter Try.func18, Try.ntmps18
    go_wp2
    go_ret2
    exact ⟨rfl, rfl⟩
  · rw [addV_no (by omega), addB_no (by omega)]
    have h2 : (a + b) % 256 < a := by omega
    have h3 : IntKind.u8.wrap (a + b) < a := by rw [wrap_u8]; exact h2
    go_enter Try.func18, Try.ntmps18
    go_wp2
    go_ret2
    exact ⟨rfl, rfl⟩

/-- the reference's Most: one below the power of two -/
theorem most_lt (k : Nat) (w : World) (hk : k < 64) :
    Calls Try.prog 73 #[.int .i64 k] w fun e w' => e = .returned (.int .u64 (pow2 k - 1)) ∧ w = w' := by
  have h64 : ((k : Int) == 64) = false := by simp; omega
  go_enter Try.func73, Try.ntmps73
  go_wp2
  go_loop [3, 4] (fun n i => ∃ j : Nat, j ≤ k ∧ i = .int .i64 j ∧ n = .int .u64 (pow2 j)) (fun _ i => k - (intOf i).toNat)
  case atStart => exact ⟨0, Nat.zero_le _, rfl, rfl⟩
  case round =>
    obtain ⟨j, hj, rfl, rfl⟩ := hrel
    have hp := pow2_pos j
    have hq := pow2_le (show j ≤ 63 by omega)
    have h63 := pow2_63
    by_cases hlt : j < k
    · have hb : pow2 j < 9223372036854775808 := by have := pow2_lt (show j < 63 by omega); omega
      have H : Hid (pow2 (j + 1) = pow2 j * 2) := pow2_succ j
      clear h63 hq
      go_wp2
      go_round
      case rel => exact ⟨j + 1, by omega, by go_num, by rw [H.out]⟩
      case measure => simp [intOf]; omega
    · obtain rfl : j = k := by omega
      have hub : pow2 j ≤ 9223372036854775808 := by omega
      clear h63 hq
      go_wp2
      go_ret
      exact ⟨rfl, rfl⟩
theorem most_8 (w : World) : Calls Try.prog 73 #[.int .i64 8] w fun e w' => e = .returned (.int .u64 255) ∧ w = w' := most_lt 8 w (by omega)
theorem most_16 (w : World) : Calls Try.prog 73 #[.int .i64 16] w fun e w' => e = .returned (.int .u64 65535) ∧ w = w' := most_lt 16 w (by omega)
theorem most_32 (w : World) : Calls Try.prog 73 #[.int .i64 32] w fun e w' => e = .returned (.int .u64 4294967295) ∧ w = w' := most_lt 32 w (by omega)
theorem most_64 (w : World) :
    Calls Try.prog 73 #[.int .i64 64] w fun e w' => e = .returned (.int .u64 18446744073709551615) ∧ w = w' := by
  go_enter Try.func73, Try.ntmps73
  go_wp2
  go_ret
  exact ⟨rfl, rfl⟩

theorem refadd_8_yes (a b : Int) (w : World) (ha : 0 ≤ a) (ha' : a < 256) (hb : 0 ≤ b) (hb' : b < 256) (h : a + b < 256) :
    Calls Try.prog 12 #[.int .i64 8, .int .u64 a, .int .u64 b] w fun e w' => e = .returned (.tuple #[.int .u64 (a + b), .bool true]) ∧ w = w' := by
  go_enter Try.func12, Try.ntmps12
  go_wp2_with (go_at_call 73; refine (most_8 _).mono ?_; rintro e w' ⟨rfl, rfl⟩)
  go_ret2
  exact ⟨rfl, rfl⟩

theorem refadd_8_no (a b : Int) (w : World) (ha : 0 ≤ a) (ha' : a < 256) (hb : 0 ≤ b) (hb' : b < 256) (h : 256 ≤ a + b) :
    Calls Try.prog 12 #[.int .i64 8, .int .u64 a, .int .u64 b] w fun e w' => e = .returned (.tuple #[.int .u64 0, .bool false]) ∧ w = w' := by
  go_enter Try.func12, Try.ntmps12
  go_wp2_with (go_at_call 73; refine (most_8 _).mono ?_; rintro e w' ⟨rfl, rfl⟩)
  go_ret2
  exact ⟨rfl, rfl⟩

theorem refadd_16_yes (a b : Int) (w : World) (ha : 0 ≤ a) (ha' : a < 65536) (hb : 0 ≤ b) (hb' : b < 65536) (h : a + b < 65536) :
    Calls Try.prog 12 #[.int .i64 16, .int .u64 a, .int .u64 b] w fun e w' => e = .returned (.tuple #[.int .u64 (a + b), .bool true]) ∧ w = w' := by
  go_enter Try.func12, Try.ntmps12
  go_wp2_with (go_at_call 73; refine (most_16 _).mono ?_; rintro e w' ⟨rfl, rfl⟩)
  go_ret2
  exact ⟨rfl, rfl⟩

theorem refadd_16_no (a b : Int) (w : World) (ha : 0 ≤ a) (ha' : a < 65536) (hb : 0 ≤ b) (hb' : b < 65536) (h : 65536 ≤ a + b) :
    Calls Try.prog 12 #[.int .i64 16, .int .u64 a, .int .u64 b] w fun e w' => e = .returned (.tuple #[.int .u64 0, .bool false]) ∧ w = w' := by
  go_enter Try.func12, Try.ntmps12
  go_wp2_with (go_at_call 73; refine (most_16 _).mono ?_; rintro e w' ⟨rfl, rfl⟩)
  go_ret2
  exact ⟨rfl, rfl⟩

theorem refadd_32_yes (a b : Int) (w : World) (ha : 0 ≤ a) (ha' : a < 4294967296) (hb : 0 ≤ b) (hb' : b < 4294967296) (h : a + b < 4294967296) :
    Calls Try.prog 12 #[.int .i64 32, .int .u64 a, .int .u64 b] w fun e w' => e = .returned (.tuple #[.int .u64 (a + b), .bool true]) ∧ w = w' := by
  go_enter Try.func12, Try.ntmps12
  go_wp2_with (go_at_call 73; refine (most_32 _).mono ?_; rintro e w' ⟨rfl, rfl⟩)
  go_ret2
  exact ⟨rfl, rfl⟩

theorem refadd_32_no (a b : Int) (w : World) (ha : 0 ≤ a) (ha' : a < 4294967296) (hb : 0 ≤ b) (hb' : b < 4294967296) (h : 4294967296 ≤ a + b) :
    Calls Try.prog 12 #[.int .i64 32, .int .u64 a, .int .u64 b] w fun e w' => e = .returned (.tuple #[.int .u64 0, .bool false]) ∧ w = w' := by
  go_enter Try.func12, Try.ntmps12
  go_wp2_with (go_at_call 73; refine (most_32 _).mono ?_; rintro e w' ⟨rfl, rfl⟩)
  go_ret2
  exact ⟨rfl, rfl⟩

theorem refadd_64_yes (a b : Int) (w : World) (ha : 0 ≤ a) (ha' : a < 18446744073709551616) (hb : 0 ≤ b) (hb' : b < 18446744073709551616) (h : a + b < 18446744073709551616) :
    Calls Try.prog 12 #[.int .i64 64, .int .u64 a, .int .u64 b] w fun e w' => e = .returned (.tuple #[.int .u64 (a + b), .bool true]) ∧ w = w' := by
  go_enter Try.func12, Try.ntmps12
  go_wp2_with (go_at_call 73; refine (most_64 _).mono ?_; rintro e w' ⟨rfl, rfl⟩)
  go_ret2
  exact ⟨rfl, rfl⟩

theorem refadd_64_no (a b : Int) (w : World) (ha : 0 ≤ a) (ha' : a < 18446744073709551616) (hb : 0 ≤ b) (hb' : b < 18446744073709551616) (h : 18446744073709551616 ≤ a + b) :
    Calls Try.prog 12 #[.int .i64 64, .int .u64 a, .int .u64 b] w fun e w' => e = .returned (.tuple #[.int .u64 0, .bool false]) ∧ w = w' := by
  go_enter Try.func12, Try.ntmps12
  go_wp2_with (go_at_call 73; refine (most_64 _).mono ?_; rintro e w' ⟨rfl, rfl⟩)
  go_ret2
  exact ⟨rfl, rfl⟩

end Go.Proofs.Ytaekhijmnbeahaa
