/- Contracts of bits.Below and bits.Log, and of the reference's: whatever number they are given. -/
import Derived.Test.YtaekhijmnbeahaaRows
import Derived.Test.YtaekhijmnbeahaaLogPlain
namespace Go.Proofs.Ytaekhijmnbeahaa
open Go.ChangeShapes Go.WideShapes Go.ChangeAt Go.RowKit
set_option linter.unusedVariables false

theorem below_no (n : Int) (w : World) (h0 : 0 ≤ n) (h : n < 2) :
    Calls Try.prog 64 #[.int .u64 n] w fun e w' => e = .returned (.tuple #[.int .u64 0, .bool false]) ∧ w = w' := by
  go_enter Try.func64, Try.ntmps64
  go_wp2
  go_ret2
  exact ⟨rfl, rfl⟩

theorem log_no (w : World) :
    Calls Try.prog 66 #[.int .u64 0] w fun e w' => e = .returned (.tuple #[.int .i64 0, .bool false]) ∧ w = w' := by
  go_enter Try.func66, Try.ntmps66
  go_wp2
  go_ret2
  exact ⟨rfl, rfl⟩

theorem below_yes (n : Int) (w : World) (h2 : 2 ≤ n) (h : n < 18446744073709551616) :
    Calls Try.prog 64 #[.int .u64 n] w fun e w' => e = .returned (.tuple #[.int .u64 (blwI n), .bool true]) ∧ w = w' := by
  go_enter Try.func64, Try.ntmps64
  go_wp2
  go_loop [4] (fun v => ∃ (e : Nat) (p : Int), Hid (p = ((2 ^ e : Nat) : Int)) ∧ p ≤ 9223372036854775808 ∧ 1 ≤ p ∧ n ≤ 2 * p ∧ v = .int .u64 p) (fun v => (intOf v).toNat)
  case atStart => exact ⟨63, 9223372036854775808, Lib.hid pw_63.symm, by omega, by omega, by omega, rfl⟩
  case round =>
    obtain ⟨e, p, HE, hp, hp1, hnp, rfl⟩ := hrel
    by_cases hlt : p < n
    · go_wp2
      go_ret2
      exact ⟨ret_pair (blwI_eq HE.out hlt hnp) rfl, rfl⟩
    · have hq : 2 ≤ p := by omega
      have HH := Lib.hid (pw_half HE.out hq)
      go_wp2
      go_round
      case rel => exact ⟨e - 1, p / 2, Lib.hid HH.out.1, by omega, by omega, by have := HH.out.2; omega, rfl⟩
      case measure => simp [intOf]; omega

theorem log_yes (n : Int) (w : World) (h1 : 1 ≤ n) (h : n < 18446744073709551616) :
    Calls Try.prog 66 #[.int .u64 n] w fun e w' => e = .returned (.tuple #[.int .i64 (lgI n), .bool true]) ∧ w = w' := by
  have hne : (n == 0) = false := by simp; omega
  have hl := lgI_bd h
  go_enter Try.func66, Try.ntmps66
  go_wp2
  go_loop [0, 4] (fun v i => ∃ y j : Int, 0 ≤ y ∧ y < 18446744073709551616 ∧ 0 ≤ j ∧ v = .int .u64 y ∧ i = .int .i64 j ∧ Hid (j + blenI y = lgI n)) (fun v _ => (intOf v).toNat)
  case atStart => exact ⟨n - 1, 0, by omega, by omega, by omega, rfl, rfl, Lib.hid (by have := blenI_lg h1; omega)⟩
  case round =>
    obtain ⟨y, j, hy0, hy, hj0, rfl, rfl, HJ⟩ := hrel
    by_cases hlt : 0 < y
    · have HQ := Lib.hid (blenI_half hlt)
      have hjb : j + 1 ≤ 64 := by have := HJ.out; have := HQ.out; have := blenI_bd (y := y / 2) (by omega); omega
      go_wp2
      go_round
      case rel => exact ⟨y / 2, j + 1, by omega, by omega, by omega, rfl, rfl, Lib.hid (by have := HJ.out; have := HQ.out; omega)⟩
      case measure => simp [intOf]; omega
    · obtain rfl : y = 0 := by omega
      go_wp2
      go_ret2
      exact ⟨ret_pair (by have := HJ.out; rw [blenI_zero] at this; omega) rfl, rfl⟩

theorem refbelow_no (n : Int) (w : World) (h0 : 0 ≤ n) (h : n < 2) :
    Calls Try.prog 65 #[.int .u64 n] w fun e w' => e = .returned (.tuple #[.int .u64 0, .bool false]) ∧ w = w' := by
  go_enter Try.func65, Try.ntmps65
  go_wp2
  go_ret2
  exact ⟨rfl, rfl⟩

theorem reflog_no (w : World) :
    Calls Try.prog 67 #[.int .u64 0] w fun e w' => e = .returned (.tuple #[.int .i64 0, .bool false]) ∧ w = w' := by
  go_enter Try.func67, Try.ntmps67
  go_wp2
  go_ret2
  exact ⟨rfl, rfl⟩

theorem refbelow_yes (n : Int) (w : World) (h2 : 2 ≤ n) (h : n < 18446744073709551616) :
    Calls Try.prog 65 #[.int .u64 n] w fun e w' => e = .returned (.tuple #[.int .u64 (blwI n), .bool true]) ∧ w = w' := by
  go_enter Try.func65, Try.ntmps65
  go_wp2
  go_loop [4] (fun v => ∃ (e : Nat) (p : Int), Hid (p = ((2 ^ e : Nat) : Int)) ∧ p ≤ 9223372036854775808 ∧ 1 ≤ p ∧ p < n ∧ v = .int .u64 p) (fun v => (18446744073709551616 - intOf v).toNat)
  case atStart => exact ⟨0, 1, Lib.hid rfl, by omega, by omega, by omega, rfl⟩
  case round =>
    obtain ⟨e, p, HE, hp, hp1, hnp, rfl⟩ := hrel
    by_cases hlt : p < 9223372036854775808
    · have h3 := (pw_lt63 HE.out hlt).2
      by_cases hc : p * 2 < n
      · go_wp2
        go_round
        case rel => exact ⟨e + 1, p * 2, Lib.hid (by rw [pw_succ]; have := HE.out; omega), by omega, by omega, by omega, rfl⟩
        case measure => simp [intOf]; omega
      · go_wp2
        go_ret2
        exact ⟨ret_pair (blwI_eq HE.out hnp (by omega)) rfl, rfl⟩
    · have hc : n ≤ 2 * p := by omega
      go_wp2
      go_ret2
      exact ⟨ret_pair (blwI_eq HE.out hnp (by omega)) rfl, rfl⟩

theorem reflog_yes (n : Int) (w : World) (h1 : 1 ≤ n) (h : n < 18446744073709551616) :
    Calls Try.prog 67 #[.int .u64 n] w fun e w' => e = .returned (.tuple #[.int .i64 (lgI n), .bool true]) ∧ w = w' := by
  have hne : (n == 0) = false := by simp; omega
  have hl := lgI_bd h
  go_enter Try.func67, Try.ntmps67
  go_wp2
  go_loop [4, 5] (fun i v => ∃ (e : Nat) (p j : Int), Hid (p = ((2 ^ e : Nat) : Int) ∧ j = e) ∧ 0 ≤ j ∧ j ≤ 63 ∧ p ≤ 9223372036854775808 ∧ 1 ≤ p ∧ (2 ≤ p → p < 2 * n) ∧ i = .int .i64 j ∧ v = .int .u64 p) (fun _ v => (18446744073709551616 - intOf v).toNat)
  case atStart => exact ⟨0, 1, 0, Lib.hid ⟨rfl, rfl⟩, by omega, by omega, by omega, by omega, by omega, rfl, rfl⟩
  case round =>
    obtain ⟨e, p, j, HE, hj0, he, hp, hp1, hnp, rfl, rfl⟩ := hrel
    by_cases hlt : p < n
    · by_cases hc : p < 9223372036854775808
      · have h3 := (pw_lt63 HE.out.1 hc).2
        have h4 : j + 1 ≤ 63 := by have := (pw_lt63 HE.out.1 hc).1; have := HE.out.2; omega
        have hcb : (p == 9223372036854775808) = false := by simp; omega
        go_wp2
        go_round
        case rel => exact ⟨e + 1, p * 2, j + 1, Lib.hid ⟨by rw [pw_succ]; have := HE.out.1; omega, by have := HE.out.2; omega⟩, by omega, by omega, by omega, by omega, by omega, rfl, rfl⟩
        case measure => simp [intOf]; omega
      · obtain rfl : p = 9223372036854775808 := by omega
        have HL : Hid (lgI n = j + 1) := Lib.hid (by rw [lgI_eq HE.out.1 hlt (by omega)]; have := HE.out.2; omega)
        go_wp2
        go_ret2
        exact ⟨ret_pair (by have := HL.out; omega) rfl, rfl⟩
    · have HL : Hid (lgI n = j) := Lib.hid (by
        have h0 := HE.out
        cases e with
        | zero => rw [pw_zero] at h0; obtain rfl : n = 1 := by omega
                  rw [lgI_one]; omega
        | succ k => have h3 := pw_pos k; rw [pw_succ] at h0; rw [lgI_eq (n := n) (e := k) rfl (by omega) (by omega)]; omega)
      clear hnp
      go_wp2
      go_ret2
      exact ⟨ret_pair (by have := HL.out; omega) rfl, rfl⟩

end Go.Proofs.Ytaekhijmnbeahaa
