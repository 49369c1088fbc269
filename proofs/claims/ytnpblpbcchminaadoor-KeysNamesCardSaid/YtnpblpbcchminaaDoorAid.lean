/- Small facts on numbers that the walks of this seat share. No program in sight. -/
import Derived.WalkKit
import Derived.ProofKit
import Derived.OpenShut
import Derived.Lib.Hide
import Derived.PlainAid
namespace Go.Proofs.YtnpblpbcchminaaDoor
open Go.ChangeShapes Go.WideShapes Go.ChangeAt Go.RowKit
set_option linter.unusedVariables false

theorem wrap_u16 (n : Int) : IntKind.u16.wrap n = n % 65536 := by simp [IntKind.wrap, IntKind.bits, IntKind.signed]
theorem wrap_u64 (n : Int) : IntKind.u64.wrap n = n % 18446744073709551616 := by simp [IntKind.wrap, IntKind.bits, IntKind.signed]
theorem wrap_u8 (n : Int) : IntKind.u8.wrap n = n % 256 := by simp [IntKind.wrap, IntKind.bits, IntKind.signed]
theorem wrap_u32 (n : Int) : IntKind.u32.wrap n = n % 4294967296 := by simp [IntKind.wrap, IntKind.bits, IntKind.signed]

theorem ret_pair {k : IntKind} {a a' : Int} {b b' : Bool} (h : a = a') (g : b = b') : Ending.returned (.tuple #[.int k a, .bool b]) = .returned (.tuple #[.int k a', .bool b']) := by rw [h, g]
theorem ret_int {k : IntKind} {a a' : Int} (h : a = a') : Ending.returned (.int k a) = .returned (.int k a') := by rw [h]
theorem ret_bool {b b' : Bool} (g : b = b') : Ending.returned (.bool b) = .returned (.bool b') := by rw [g]
theorem val_int {k : IntKind} {a a' : Int} (h : a = a') : Value.int k a = .int k a' := by rw [h]

theorem wf_u64 {a : Int} (h : (Lit.int .u64 a).wf = true) : 0 ≤ a ∧ a < 18446744073709551616 := by
  simp only [Lit.wf, Bool.and_eq_true, IntKind.min, IntKind.max, IntKind.signed, IntKind.bits] at h; simp at h; omega
theorem wf_u32 {a : Int} (h : (Lit.int .u32 a).wf = true) : 0 ≤ a ∧ a < 4294967296 := by
  simp only [Lit.wf, Bool.and_eq_true, IntKind.min, IntKind.max, IntKind.signed, IntKind.bits] at h; simp at h; omega
theorem wf_u8 {a : Int} (h : (Lit.int .u8 a).wf = true) : 0 ≤ a ∧ a < 256 := by
  simp only [Lit.wf, Bool.and_eq_true, IntKind.min, IntKind.max, IntKind.signed, IntKind.bits] at h; simp at h; omega
theorem wf_i64 {a : Int} (h : (Lit.int .i64 a).wf = true) : -9223372036854775808 ≤ a ∧ a ≤ 9223372036854775807 := by
  simp only [Lit.wf, Bool.and_eq_true, IntKind.min, IntKind.max, IntKind.signed, IntKind.bits] at h; simp at h; omega

/-- powers of two as integers -/
def pow2 (k : Nat) : Int := ((2 ^ k : Nat) : Int)
theorem pow2_zero : pow2 0 = 1 := rfl
theorem pow2_succ (k : Nat) : pow2 (k + 1) = pow2 k * 2 := by unfold pow2; rw [Nat.pow_succ]; omega
theorem pow2_pos (k : Nat) : 1 ≤ pow2 k := by unfold pow2; have := Nat.one_le_two_pow (n := k); omega
theorem pow2_le {a b : Nat} (h : a ≤ b) : pow2 a ≤ pow2 b := by unfold pow2; have := Nat.pow_le_pow_right (n := 2) (by omega) h; omega
theorem pow2_lt {a b : Nat} (h : a < b) : pow2 a < pow2 b := by have := pow2_le (show a + 1 ≤ b from h); have h1 := pow2_succ a; have := pow2_pos a; omega
theorem pow2_8 : pow2 8 = 256 := rfl
theorem pow2_16 : pow2 16 = 65536 := rfl
theorem pow2_32 : pow2 32 = 4294967296 := rfl
theorem pow2_63 : pow2 63 = 9223372036854775808 := rfl
theorem pow2_64 : pow2 64 = 18446744073709551616 := rfl
end Go.Proofs.YtnpblpbcchminaaDoor
