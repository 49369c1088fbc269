/- The walk of alive, of BitsBetween and of BitsSums: for any numbers they answer true. -/
import Derived.Test.YtaekhijmnbeahaaBitsLog
import Derived.Test.YtaekhijmnbeahaaLawOnes
namespace Go.Proofs.Ytaekhijmnbeahaa
open Go.ChangeShapes Go.WideShapes Go.ChangeAt Go.RowKit
set_option linter.unusedVariables false

theorem below_5 (w : World) : Calls Try.prog 64 #[.int .u64 5] w fun e w' => e = .returned (.tuple #[.int .u64 4, .bool true]) ∧ w = w' := by
  have h := below_yes 5 w (by omega) (by omega)
  rw [blwI_5] at h
  exact h

theorem log_5 (w : World) : Calls Try.prog 66 #[.int .u64 5] w fun e w' => e = .returned (.tuple #[.int .i64 3, .bool true]) ∧ w = w' := by
  have h := log_yes 5 w (by omega) (by omega)
  rw [lgI_5] at h
  exact h

theorem add_255 (w : World) : Calls Try.prog 11 #[.int .u8 200, .int .u8 55] w fun e w' => e = .returned (.tuple #[.int .u8 255, .bool true]) ∧ w = w' := by
  have h := add_A8 200 55 w (by omega) (by omega) (by omega) (by omega)
  rw [show addV 256 200 55 = 255 from rfl, show addB 256 200 55 = true from rfl] at h
  exact h

theorem add_256 (w : World) : Calls Try.prog 11 #[.int .u8 200, .int .u8 56] w fun e w' => e = .returned (.tuple #[.int .u8 0, .bool false]) ∧ w = w' := by
  have h := add_A8 200 56 w (by omega) (by omega) (by omega) (by omega)
  rw [show addV 256 200 56 = 0 from rfl, show addB 256 200 56 = false from rfl] at h
  exact h

theorem left_192 (w : World) : Calls Try.prog 40 #[.int .u8 3, .int .i64 6] w fun e w' => e = .returned (.tuple #[.int .u8 192, .bool true]) ∧ w = w' := by
  have h := left_A8 3 6 w (by omega) (by omega) (by omega) (by omega)
  rw [show leftV 256 3 (Int.toNat 6) = 192 from rfl, show leftB 256 3 (Int.toNat 6) = true from rfl] at h
  exact h

theorem ones_11 (w : World) : Calls Try.prog 48 #[.int .u8 11] w fun e w' => e = .returned (.int .i64 2) ∧ w = w' := by
  have h := ones_A8' 11 w (by omega) (by omega)
  rw [onesI_11] at h
  exact h

theorem cnt_11 (w : World) : Calls Try.prog 56 #[.int .u8 11] w fun e w' => e = .returned (.int .i64 3) ∧ w = w' := by
  have h := cnt_A8' 11 w (by omega) (by omega)
  rw [cntI_11] at h
  exact h

set_option maxRecDepth 100000 in
theorem alive_any (w : World) : Calls Try.prog 72 #[] w fun e w' => e = .returned (.bool true) ∧ w = w' := by
  go_enter Try.func72, Try.ntmps72
  go_wp2_with (first | (go_at_call 64; (with_reducible refine (below_5 _).mono ?_); rintro e w' ⟨rfl, rfl⟩) | (go_at_call 66; (with_reducible refine (log_5 _).mono ?_); rintro e w' ⟨rfl, rfl⟩) | (go_at_call 11; (with_reducible refine (add_255 _).mono ?_); rintro e w' ⟨rfl, rfl⟩) | (go_at_call 11; (with_reducible refine (add_256 _).mono ?_); rintro e w' ⟨rfl, rfl⟩) | (go_at_call 40; (with_reducible refine (left_192 _).mono ?_); rintro e w' ⟨rfl, rfl⟩) | (go_at_call 48; (with_reducible refine (ones_11 _).mono ?_); rintro e w' ⟨rfl, rfl⟩) | (go_at_call 56; (with_reducible refine (cnt_11 _).mono ?_); rintro e w' ⟨rfl, rfl⟩))
  go_ret
  exact ⟨rfl, rfl⟩

theorem between_0 (w : World) : Calls Try.prog 8 #[.int .u64 0] w fun e w' => e = .returned (.bool true) ∧ w = w' := by
  go_enter Try.func8, Try.ntmps8
  go_wp2_with (first | (go_at_call 72; refine (alive_any _).mono ?_; rintro e w' ⟨rfl, rfl⟩) | (go_at_call 64; refine (below_no _ _ (by omega) (by omega)).mono ?_; rintro e w' ⟨rfl, rfl⟩) | (go_at_call 66; refine (log_no _).mono ?_; rintro e w' ⟨rfl, rfl⟩))
  go_ret
  exact ⟨rfl, rfl⟩
theorem log_1 (w : World) : Calls Try.prog 66 #[.int .u64 1] w fun e w' => e = .returned (.tuple #[.int .i64 0, .bool true]) ∧ w = w' := by
  have h := log_yes 1 w (by omega) (by omega)
  rw [lgI_one] at h
  exact h
theorem between_1 (w : World) : Calls Try.prog 8 #[.int .u64 1] w fun e w' => e = .returned (.bool true) ∧ w = w' := by
  go_enter Try.func8, Try.ntmps8
  go_wp2_with (first | (go_at_call 72; refine (alive_any _).mono ?_; rintro e w' ⟨rfl, rfl⟩) | (go_at_call 64; refine (below_no _ _ (by omega) (by omega)).mono ?_; rintro e w' ⟨rfl, rfl⟩) | (go_at_call 66; refine (log_1 _).mono ?_; rintro e w' ⟨rfl, rfl⟩))
  go_ret
  exact ⟨rfl, rfl⟩
set_option maxRecDepth 100000 in
theorem between_2 (n : Int) (w : World) (h2 : 2 ≤ n) (h : n < 18446744073709551616) : Calls Try.prog 8 #[.int .u64 n] w fun e w' => e = .returned (.bool true) ∧ w = w' := by
  obtain ⟨b1, b2, b3⟩ := blwI_bd h2
  have b4 := blwI_le h
  obtain ⟨l1, l2⟩ := lgI_bd h
  have l3 := lgI_pos h2
  obtain ⟨m1, m2⟩ := lgI_bd (n := blwI n) (by omega)
  have b5 : n - blwI n ≤ blwI n := by omega
  have t1 : (lgI (blwI n) == lgI n - 1) = true := by have := lgI_blwI h2; simp; omega
  have hc : cntI (blwI n) = 1 := cntI_blwI h h2
  have t2 : (cntI (blwI n) == 1) = true := by rw [hc]; rfl
  have hp : IntKind.u64.wrap (2 ^ ((lgI n).toNat - 1)) = blwI n := by
    rw [show (lgI n).toNat - 1 = (lgI n - 1).toNat by omega, ← blwI_pow h2]; exact IntWalk.u64_in _ (by omega)
  have t3 : (blwI n == IntKind.u64.wrap (2 ^ ((lgI n).toNat - 1))) = true := by rw [hp]; simp
  clear hp hc
  go_enter Try.func8, Try.ntmps8
  go_wp2_with (first | (go_at_call 72; refine (alive_any _).mono ?_; rintro e w' ⟨rfl, rfl⟩) | (go_at_call 64; refine (below_yes _ _ (by omega) (by omega)).mono ?_; rintro e w' ⟨rfl, rfl⟩) | (go_at_call 66; refine (log_yes _ _ (by omega) (by omega)).mono ?_; rintro e w' ⟨rfl, rfl⟩) | (go_at_call 60; refine (cnt_A64' _ _ (by omega) (by omega)).mono ?_; rintro e w' ⟨rfl, rfl⟩))
  go_ret
  exact ⟨rfl, rfl⟩
end Go.Proofs.Ytaekhijmnbeahaa
