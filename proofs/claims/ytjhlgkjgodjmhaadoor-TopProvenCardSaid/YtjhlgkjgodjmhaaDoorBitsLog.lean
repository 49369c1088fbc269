/- Contracts of bits.Below and bits.Log, and of the reference's: whatever number they are given. -/
import Derived.Test.YtjhlgkjgodjmhaaDoorRows
import Derived.Test.YtjhlgkjgodjmhaaDoorLogPlain
namespace Go.Proofs.YtjhlgkjgodjmhaaDoor
open Go.ChangeShapes Go.WideShapes Go.ChangeAt Go.RowKit
set_option linter.unusedVariables false

theorem log_no (w : World) :
    Calls Tryd.prog 27 #[.int .u64 0] w fun e w' => e = .returned (.tuple #[.int .i64 0, .bool false]) ∧ w = w' := by
  go_enter Tryd.func27, Tryd.ntmps27
  go_wp2
  go_ret2
  exact ⟨rfl, rfl⟩

theorem log_yes (n : Int) (w : World) (h1 : 1 ≤ n) (h : n < 18446744073709551616) :
    Calls Tryd.prog 27 #[.int .u64 n] w fun e w' => e = .returned (.tuple #[.int .i64 (lgI n), .bool true]) ∧ w = w' := by
  have hne : (n == 0) = false := by simp; omega
  have hl := lgI_bd h
  go_enter Tryd.func27, Tryd.ntmps27
  go_wp2
  go_loop [0, 4] (fun v i => ∃ y j : Int, 0 ≤ y ∧ y < 18446744073709551616 ∧ 0 ≤ j ∧ v = .int .u64 y ∧ i = .int .i64 j ∧ Hid (j + blenI y = lgI n)) (fun v _ => (intOf v).toNat)
  case atStart => exact ⟨n - 1, 0, by omega, by omega, by omega, rfl, rfl, Lib.hid (by have := blenI_lg h1; omega)⟩
  case round =>
    obtain ⟨y, j, hy0, hy, hj0, rfl, rfl, HJ⟩ := hrel
    by_cases hlt : 0 < y
    · have HQ := Lib.hid (blenI_half hlt)
      have hjb : j + 1 ≤ 64 := by have := HJ.out; have := HQ.out; have := blenI_bd (y := y / 2) (by omega); omega
      go_wp2
      go_round
      case rel => exact ⟨y / 2, j + 1, by omega, by omega, by omega, rfl, rfl, Lib.hid (by have := HJ.out; have := HQ.out; omega)⟩
      case measure => simp [intOf]; omega
    · obtain rfl : y = 0 := by omega
      go_wp2
      go_ret2
      exact ⟨ret_pair (by have := HJ.out; rw [blenI_zero] at this; omega) rfl, rfl⟩

end Go.Proofs.YtjhlgkjgodjmhaaDoor
