/- Contracts of bits.Below and bits.Log, and of the reference's: whatever number they are given. -/
import Derived.Test.YtchfbdbgmlcfiaaGreatDoorRows
import Derived.Test.YtchfbdbgmlcfiaaGreatDoorLogPlain
namespace Go.Proofs.YtchfbdbgmlcfiaaGreatDoor
open Go.ChangeShapes Go.WideShapes Go.ChangeAt Go.RowKit
set_option linter.unusedVariables false

theorem refbelow_no (n : Int) (w : World) (h0 : 0 ≤ n) (h : n < 2) :
    Calls Tryz.prog 158 #[.int .u64 n] w fun e w' => e = .returned (.tuple #[.int .u64 0, .bool false]) ∧ w = w' := by
  go_enter Tryz.func158, Tryz.ntmps158
  go_wp2
  go_ret2
  exact ⟨rfl, rfl⟩

theorem refbelow_yes (n : Int) (w : World) (h2 : 2 ≤ n) (h : n < 18446744073709551616) :
    Calls Tryz.prog 158 #[.int .u64 n] w fun e w' => e = .returned (.tuple #[.int .u64 (blwI n), .bool true]) ∧ w = w' := by
  go_enter Tryz.func158, Tryz.ntmps158
  go_wp2
  go_loop [4] (fun v => ∃ (e : Nat) (p : Int), Hid (p = ((2 ^ e : Nat) : Int)) ∧ p ≤ 9223372036854775808 ∧ 1 ≤ p ∧ p < n ∧ v = .int .u64 p) (fun v => (18446744073709551616 - intOf v).toNat)
  case atStart => exact ⟨0, 1, Lib.hid rfl, by omega, by omega, by omega, rfl⟩
  case round =>
    obtain ⟨e, p, HE, hp, hp1, hnp, rfl⟩ := hrel
    by_cases hlt : p < 9223372036854775808
    · have h3 := (pw_lt63 HE.out hlt).2
      by_cases hc : p * 2 < n
      · go_wp2
        go_round
        case rel => exact ⟨e + 1, p * 2, Lib.hid (by rw [pw_succ]; have := HE.out; omega), by omega, by omega, by omega, rfl⟩
        case measure => simp [intOf]; omega
      · go_wp2
        go_ret2
        exact ⟨ret_pair (blwI_eq HE.out hnp (by omega)) rfl, rfl⟩
    · have hc : n ≤ 2 * p := by omega
      go_wp2
      go_ret2
      exact ⟨ret_pair (blwI_eq HE.out hnp (by omega)) rfl, rfl⟩

end Go.Proofs.YtchfbdbgmlcfiaaGreatDoor
