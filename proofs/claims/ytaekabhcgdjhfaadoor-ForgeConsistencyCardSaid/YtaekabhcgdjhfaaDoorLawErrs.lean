/- cartularylaw01.Code, At, Is at the errors of package api: what they answer. Condition: the package-level variables read as listed. -/
import Derived.Test.YtaekabhcgdjhfaaDoorErrs
import Derived.Test.YtaekabhcgdjhfaaDoorMem
import Derived.BigQuiet
import Derived.Deep.QuietTactic
namespace Go.Proofs.YtaekabhcgdjhfaaDoor
open Go.ChangeShapes Go.WideShapes Go.ChangeAt Go.RowKit
set_option linter.unusedVariables false
set_option maxRecDepth 100000 in
set_option maxHeartbeats 1000000 in
theorem code_sent (a : Nat → Addr) (B k : Nat) (w : World) (hL : Laid B a w) (h1 : 1 ≤ k) (h2 : k ≤ 16) :
    Calls Tryd.prog 59 #[errV a k] w fun e w' => e = .returned (.int .i64 k) ∧ Below w.heap.size w w' := by
  unfold errV
  have hs := hL.size
  have hlo := hL.low
  have c1 := hL.e1
  have c2 := hL.e2
  have c3 := hL.e3
  have c4 := hL.e4
  have c5 := hL.e5
  have c6 := hL.e6
  have c7 := hL.e7
  have c8 := hL.e8
  have c9 := hL.e9
  have c10 := hL.e10
  have c11 := hL.e11
  have c12 := hL.e12
  have c13 := hL.e13
  have c14 := hL.e14
  have c15 := hL.e15
  have c16 := hL.e16
  go_enter Tryd.func59, Tryd.ntmps59
  go_wp2
  have hcell : ∀ j : Nat, j < 16 → (w.alloc (.cells #[.iface 169 (.pointer (some (a 1))), .iface 169 (.pointer (some (a 2))), .iface 169 (.pointer (some (a 3))), .iface 169 (.pointer (some (a 4))), .iface 169 (.pointer (some (a 5))), .iface 169 (.pointer (some (a 6))), .iface 169 (.pointer (some (a 7))), .iface 169 (.pointer (some (a 8))), .iface 169 (.pointer (some (a 9))), .iface 169 (.pointer (some (a 10))), .iface 169 (.pointer (some (a 11))), .iface 169 (.pointer (some (a 12))), .iface 169 (.pointer (some (a 13))), .iface 169 (.pointer (some (a 14))), .iface 169 (.pointer (some (a 15))), .iface 169 (.pointer (some (a 16)))] 133)).cell? ⟨w.heap.size, j, none⟩ = some (.iface 169 (.pointer (some (a (j + 1))))) := by
    intro j hj
    refine cell_new _ _ _ _ ?_
    rcases (by omega : j = 0 ∨ j = 1 ∨ j = 2 ∨ j = 3 ∨ j = 4 ∨ j = 5 ∨ j = 6 ∨ j = 7 ∨ j = 8 ∨ j = 9 ∨ j = 10 ∨ j = 11 ∨ j = 12 ∨ j = 13 ∨ j = 14 ∨ j = 15) with rfl | rfl | rfl | rfl | rfl | rfl | rfl | rfl | rfl | rfl | rfl | rfl | rfl | rfl | rfl | rfl <;> rfl
  have hBW : Below w.heap.size w (w.alloc (.cells #[.iface 169 (.pointer (some (a 1))), .iface 169 (.pointer (some (a 2))), .iface 169 (.pointer (some (a 3))), .iface 169 (.pointer (some (a 4))), .iface 169 (.pointer (some (a 5))), .iface 169 (.pointer (some (a 6))), .iface 169 (.pointer (some (a 7))), .iface 169 (.pointer (some (a 8))), .iface 169 (.pointer (some (a 9))), .iface 169 (.pointer (some (a 10))), .iface 169 (.pointer (some (a 11))), .iface 169 (.pointer (some (a 12))), .iface 169 (.pointer (some (a 13))), .iface 169 (.pointer (some (a 14))), .iface 169 (.pointer (some (a 15))), .iface 169 (.pointer (some (a 16)))] 133)) := (Below.refl _ _).alloc (Nat.le_refl _) _
  obtain ⟨W, hW⟩ : ∃ W, w.alloc (.cells #[.iface 169 (.pointer (some (a 1))), .iface 169 (.pointer (some (a 2))), .iface 169 (.pointer (some (a 3))), .iface 169 (.pointer (some (a 4))), .iface 169 (.pointer (some (a 5))), .iface 169 (.pointer (some (a 6))), .iface 169 (.pointer (some (a 7))), .iface 169 (.pointer (some (a 8))), .iface 169 (.pointer (some (a 9))), .iface 169 (.pointer (some (a 10))), .iface 169 (.pointer (some (a 11))), .iface 169 (.pointer (some (a 12))), .iface 169 (.pointer (some (a 13))), .iface 169 (.pointer (some (a 14))), .iface 169 (.pointer (some (a 15))), .iface 169 (.pointer (some (a 16)))] 133) = W := ⟨_, rfl⟩
  rw [hW] at hcell hBW ⊢
  have hLW := Lib.hid (hL.below (hBW.mono hL.size))
  have HC := Lib.hid hcell
  have hsW : w.heap.size < W.heap.size := by rw [← hW]; simp
  clear hW hcell hL c1 c2 c3 c4 c5 c6 c7 c8 c9 c10 c11 c12 c13 c14 c15 c16
  go_loop [4, 5] (fun n i => ∃ (j n' : Int), 0 ≤ j ∧ j ≤ 16 ∧ i = .int .i64 j ∧ n = .int .i64 n' ∧ -1 ≤ n' ∧ n' ≤ 16 ∧ (k ≤ j → n' = k) ∧ (j < k → n' = -1)) (fun _ i => (16 - intOf i).toNat)
  case atStart => exact ⟨0, -1, by omega, by omega, rfl, rfl, by omega, by omega, by omega, by omega⟩
  case round =>
    obtain ⟨j, n', h0, hj, rfl, rfl, hn1, hn2, hn3, hn4⟩ := hrel
    by_cases hlt : j < 16
    · obtain ⟨j, rfl⟩ := Int.eq_ofNat_of_zero_le h0
      have hc := HC.out j (by omega)
      by_cases hk : k = j + 1
      · have hn' : n' = -1 := hn4 (by omega)
        subst hn'
        clear hn3 hn4
        subst hk
        go_wp2_with (go_at_call 63; refine (is_same _ _).mono ?_; rintro e w' ⟨rfl, rfl⟩)
        go_round
        case rel => exact ⟨j + 1, j + 1, by omega, by omega, by go_num, by go_num, by omega, by omega, by omega, by omega⟩
        case measure => simp [intOf]; omega
      · have HN := Lib.hid (And.intro hn3 hn4)
        clear hn3 hn4
        go_wp2_with (go_at_call 63; refine (is_other _ _ _ (hLW.out.dist k (j + 1) h1 h2 (by omega) (by omega) hk) (hLW.out.row k h1 h2) (hLW.out.row (j + 1) (by omega) (by omega))).mono ?_; rintro e w' ⟨rfl, rfl⟩)
        go_round
        case rel => exact ⟨j + 1, n', by omega, by omega, by go_num, by go_num, by omega, by omega, by have := HN.out; omega, by have := HN.out; omega⟩
        case measure => simp [intOf]; omega
    · have hn' : n' = k := hn3 (by omega)
      subst hn'
      clear hn3 hn4
      go_wp2
      go_ret
      exact ⟨rfl, hBW⟩
theorem code_nil (w : World) : Calls Tryd.prog 59 #[.nilIface] w fun e w' => e = .returned (.int .i64 0) ∧ w = w' := by
  go_enter Tryd.func59, Tryd.ntmps59
  go_wp2
  go_ret
  exact ⟨rfl, rfl⟩
set_option maxRecDepth 100000 in
theorem at_sent (a : Nat → Addr) (B k : Nat) (w : World) (hL : Laid B a w) (h1 : 1 ≤ k) (h2 : k ≤ 16) :
    Calls Tryd.prog 58 #[errV a k] w fun e w' => e = .returned (.tuple #[.int .i64 0, .bool false]) ∧ Below w.heap.size w w' := by
  unfold errV
  have hs := hL.size
  have hlo := hL.low
  have hg := cell_alloc hL.ety (.cells #[.pointer none] 128)
  clear hL
  go_enter Tryd.func58, Tryd.ntmps58
  go_wp2_with (go_at_call 67; refine (as_miss _ _ _ hg).mono ?_; rintro e w' ⟨rfl, hb⟩)
  go_ret2
  exact ⟨rfl, ((Below.refl _ _).alloc (Nat.le_refl _) _).trans (hb.mono (by simp))⟩
theorem at_nil (w : World) :
    Calls Tryd.prog 58 #[.nilIface] w fun e w' => e = .returned (.tuple #[.int .i64 0, .bool false]) ∧ Below w.heap.size w w' := by
  go_enter Tryd.func58, Tryd.ntmps58
  go_wp2_with (go_at_call 67; refine (as_nil _ _).mono ?_; rintro e w' ⟨rfl, rfl⟩)
  go_ret2
  exact ⟨rfl, (Below.refl _ _).alloc (Nat.le_refl _) _⟩
set_option maxRecDepth 100000 in
theorem is_sent (a : Nat → Addr) (B k : Nat) (w : World) (hL : Laid B a w) (h1 : 1 ≤ k) (h2 : k ≤ 16) :
    Calls Tryd.prog 36 #[errV a k, .int .i64 k] w fun e w' => e = .returned (.bool true) ∧ Below w.heap.size w w' := by
  have hLL := Lib.hid hL
  clear hL
  have hkk : ((k : Int) == k) = true := by simp
  go_enter Tryd.func36, Tryd.ntmps36
  go_wp2_with fail
  refine (at_sent a B k _ hLL.out h1 h2).mono ?_
  rintro e w1 ⟨rfl, hb1⟩
  have hL1 := Lib.hid (hLL.out.below (hb1.mono hLL.out.size))
  go_wp2_with fail
  refine (code_sent a B k _ hL1.out h1 h2).mono ?_
  rintro e w2 ⟨rfl, hb2⟩
  have hb : Below w.heap.size w w2 := hb1.trans (hb2.mono hb1.size)
  go_wp2
  go_ret
  exact ⟨rfl, hb⟩
end Go.Proofs.YtaekabhcgdjhfaaDoor
