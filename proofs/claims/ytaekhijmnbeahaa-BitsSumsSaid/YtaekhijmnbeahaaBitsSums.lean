/- The walk of BitsSums: for any numbers it answers true. -/
import Derived.Test.YtaekhijmnbeahaaBitsAlive
namespace Go.Proofs.Ytaekhijmnbeahaa
open Go.ChangeShapes Go.WideShapes Go.ChangeAt Go.RowKit
set_option linter.unusedVariables false

theorem pow_last (x : Int) (j : Nat) (n b : Int) (hb : b = x * 2 ^ j) (hj : (j : Int) = n) : b = x * 2 ^ n.toNat := by
  obtain rfl : n.toNat = j := by omega
  exact hb
set_option maxRecDepth 100000 in
set_option maxHeartbeats 1000000 in
theorem sums_walk (x y n : Int) (w : World) (hx : 0 ≤ x) (hx' : x < 4294967296) (hy : 0 ≤ y) (hy' : y < 4294967296) (hn : 0 ≤ n) (hn' : n < 256) :
    Calls Try.prog 9 #[.int .u32 x, .int .u32 y, .int .u8 n] w fun e w' => e = .returned (.bool true) ∧ w = w' := by
  have e3 : addV 18446744073709551616 x y = x + y := addV_yes (by omega)
  have e4 : addB 18446744073709551616 x y = true := addB_yes (by omega)
  have HG := Lib.hid (fun i (h : i ≤ n.toNat) => pow_grow x i n.toNat hx h)
  have HS := Lib.hid (fun i => pow_next x i)
  by_cases h : x + y < 4294967296
  all_goals
    first
    | (have e1 : addV 4294967296 x y = x + y := addV_yes (by omega)
       have e1' : addV 4294967296 y x = x + y := by rw [addV_yes (by omega)]; omega
       have e2 : addB 4294967296 x y = true := addB_yes (by omega)
       have e2' : addB 4294967296 y x = true := addB_yes (by omega))
    | (have e1 : addV 4294967296 x y = 0 := addV_no (by omega)
       have e1' : addV 4294967296 y x = 0 := addV_no (by omega)
       have e2 : addB 4294967296 x y = false := addB_no (by omega)
       have e2' : addB 4294967296 y x = false := addB_no (by omega))
    go_enter Try.func9, Try.ntmps9
    go_wp2_with (first | (go_at_call 72; refine (alive_any _).mono ?_; rintro e w' ⟨rfl, rfl⟩) | (go_at_call 14; refine (add_A32 _ _ _ (by omega) (by omega) (by omega) (by omega)).mono ?_; rintro e w' ⟨rfl, rfl⟩) | (go_at_call 15; refine (add_A64 _ _ _ (by omega) (by omega) (by omega) (by omega)).mono ?_; rintro e w' ⟨rfl, rfl⟩) | (go_at_call 43; refine (left_A32 _ _ _ (by omega) (by omega) (by omega) (by omega)).mono ?_; rintro e w' ⟨rfl, rfl⟩))
    clear e1 e1' e2 e2' e3 e4
    go_loop [15, 16, 17] (fun b f i => ∃ (j : Nat) (i' b' : Int) (f' : Bool), b = .int .u32 b' ∧ f = .bool f' ∧ i = .int .i64 i' ∧ 0 ≤ b' ∧ b' < 4294967296 ∧ 0 ≤ i' ∧ i' ≤ n ∧ Hid ((j : Int) = i' ∧ (f' = true → b' = x * 2 ^ j) ∧ (f' = false → b' = 0 ∧ 4294967296 ≤ x * 2 ^ n.toNat))) (fun _ _ i => (n - intOf i).toNat)
    case atStart => exact ⟨0, 0, x, true, rfl, rfl, rfl, hx, hx', by omega, hn, Lib.hid ⟨rfl, fun _ => by simp, fun h => by simp at h⟩⟩
    case round =>
      obtain ⟨j, i, b, f, rfl, rfl, rfl, hb, hb', hi, hi', HJ⟩ := hrel
      cases f
      · have HL : Hid (leftV 4294967296 x n.toNat = b ∧ leftB 4294967296 x n.toNat = false) := Lib.hid ⟨by rw [leftV_no (HJ.out.2.2 rfl).2, (HJ.out.2.2 rfl).1], leftB_no (HJ.out.2.2 rfl).2⟩
        have t1 : (leftV 4294967296 x n.toNat == b) = true := by rw [HL.out.1]; simp
        have t2 : leftB 4294967296 x n.toNat = false := HL.out.2
        by_cases hlt : i < n
        all_goals
          go_wp2
          go_ret
          exact ⟨rfl, rfl⟩
      · by_cases hlt : i < n
        · have HB : Hid (addB 4294967296 b b = true ∧ addV 4294967296 b b = b * 2 ∨ addB 4294967296 b b = false ∧ addV 4294967296 b b = 0 ∧ 4294967296 ≤ x * 2 ^ n.toNat) := Lib.hid (by
            by_cases h2 : b + b < 4294967296
            · exact Or.inl ⟨addB_yes h2, by rw [addV_yes h2]; omega⟩
            · refine Or.inr ⟨addB_no (by omega), addV_no (by omega), ?_⟩
              have a1 := HG.out (j + 1) (by have := HJ.out.1; omega)
              have a2 := HS.out j
              have a3 := HJ.out.2.1 rfl
              omega)
          have HE := Lib.hid (HJ.out.2.1 rfl)
          have HI := Lib.hid HJ.out.1
          have hbd := addV_bd 4294967296 b b (by omega) (by omega) (by omega)
          go_wp2_with (first | (go_at_call 72; refine (alive_any _).mono ?_; rintro e w' ⟨rfl, rfl⟩) | (go_at_call 14; refine (add_A32 _ _ _ (by omega) (by omega) (by omega) (by omega)).mono ?_; rintro e w' ⟨rfl, rfl⟩) | (go_at_call 15; refine (add_A64 _ _ _ (by omega) (by omega) (by omega) (by omega)).mono ?_; rintro e w' ⟨rfl, rfl⟩) | (go_at_call 43; refine (left_A32 _ _ _ (by omega) (by omega) (by omega) (by omega)).mono ?_; rintro e w' ⟨rfl, rfl⟩))
          go_round
          case rel => exact ⟨j + 1, i + 1, addV 4294967296 b b, addB 4294967296 b b, rfl, rfl, rfl, hbd.1, hbd.2, by omega, by omega, Lib.hid ⟨by have := HI.out; omega, fun hf => by
              rcases HB.out with ⟨_, q⟩ | ⟨q, _⟩
              · rw [q, HS.out j, HE.out]
              · rw [q] at hf; simp at hf, fun hf => by
              rcases HB.out with ⟨q, _⟩ | ⟨_, q⟩
              · rw [q] at hf; simp at hf
              · exact q⟩⟩
          case measure => simp [intOf]; omega
        · have HL : Hid (leftV 4294967296 x n.toNat = b ∧ leftB 4294967296 x n.toNat = true) := Lib.hid (by
            have q := pow_last x j n b (HJ.out.2.1 rfl) (by have := HJ.out.1; omega)
            exact ⟨by rw [leftV_yes (by omega), q], leftB_yes (by omega)⟩)
          have t1 : (leftV 4294967296 x n.toNat == b) = true := by rw [HL.out.1]; simp
          have t2 : leftB 4294967296 x n.toNat = true := HL.out.2
          go_wp2
          go_ret
          exact ⟨rfl, rfl⟩
end Go.Proofs.Ytaekhijmnbeahaa
