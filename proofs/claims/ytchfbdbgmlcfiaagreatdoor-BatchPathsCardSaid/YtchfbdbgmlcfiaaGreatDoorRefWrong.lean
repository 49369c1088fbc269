/- cartularyref19.wrong: which fault. No condition. -/
import Derived.Test.YtchfbdbgmlcfiaaGreatDoorRefTops
import Derived.Test.YtchfbdbgmlcfiaaGreatDoorBatchApi
namespace Go.Proofs.YtchfbdbgmlcfiaaGreatDoor
open Go.ChangeShapes Go.WideShapes Go.ChangeAt Go.RowKit
set_option linter.unusedVariables false
/-- a fault as the reference has it: its number, no place -/
def faultV (k : Nat) : Value := .agg #[.int .i64 k, .int .i64 (if k = 0 then 0 else -1)]

theorem plain2 (w : World) : Calls Tryz.prog 16 #[.int .i64 2] w fun ev w' => ev = .returned (.agg #[.int .i64 2, .int .i64 (-1)]) ∧ Below w.heap.size w w' := by
  go_enter Tryz.func16, Tryz.ntmps16
  go_wp2
  refine bodyPost_ret (v := .agg #[.int .i64 2, .int .i64 (-1)]) (by simp [results, Tryz.results16, go_sem]) rfl ⟨rfl, ?_⟩
  repeat (first | exact Below.refl _ _ | (refine below_drewN ?_) | (refine Below.drew ?_) | (refine Below.alloc ?_ (by simp; try omega) _) | (refine Below.setCell ?_ (by simp; try omega) _))

theorem plain10 (w : World) : Calls Tryz.prog 16 #[.int .i64 10] w fun ev w' => ev = .returned (.agg #[.int .i64 10, .int .i64 (-1)]) ∧ Below w.heap.size w w' := by
  go_enter Tryz.func16, Tryz.ntmps16
  go_wp2
  refine bodyPost_ret (v := .agg #[.int .i64 10, .int .i64 (-1)]) (by simp [results, Tryz.results16, go_sem]) rfl ⟨rfl, ?_⟩
  repeat (first | exact Below.refl _ _ | (refine below_drewN ?_) | (refine Below.drew ?_) | (refine Below.alloc ?_ (by simp; try omega) _) | (refine Below.setCell ?_ (by simp; try omega) _))

set_option maxRecDepth 100000 in
set_option maxHeartbeats 2000000 in
theorem refwrong_2 (x sz : Int) (A1 A2 : Option Addr) (n m c1 c2 : Nat) (w : World) (hx0 : 0 ≤ x) (hx1 : x < 18446744073709551616) (hs0 : 0 ≤ sz) (hs1 : sz < 18446744073709551616) (hn : n ≤ 9223372036854775807) (hm : m ≤ 9223372036854775807) (hk : n = 0) :
    Calls Tryz.prog 27 #[.int .u64 x, .int .u64 sz, .slice A1 n c1, .slice A2 m c2] w fun ev w' => ev = .returned (.agg #[.int .i64 2, .int .i64 (-1)]) ∧ Below w.heap.size w w' := by
  have hS := Lib.hid (Slot.new w (.int .i64 0) (.int .i64 0) 29)
  have hwn : IntKind.u64.wrap (n : Int) = n := IntWalk.u64_in _ (by omega)
  subst hk

  go_enter Tryz.func27, Tryz.ntmps27
  go_wp2_with fail
  refine (plain2 _).mono ?_
  rintro ev w1 ⟨rfl, b1⟩
  have hS1 := hS.out.below b1 (by simp)
  have hSx := hS1
  obtain ⟨⟨u0, c0⟩, ⟨u1, c1⟩, f0, f1⟩ := hSx
  have hk0 := hS1.k0 (.int .i64 2) (.int .i64 (-1))
  have hk1 := hS1.k1 (.int .i64 2) (.int .i64 (-1))
  have HB : Hid (Below w.heap.size w w1) := Lib.hid (((Below.refl _ w).alloc (Nat.le_refl _) _).trans (b1.mono (by simp)))
  clear b1 hS1
  go_wp2
  refine bodyPost_ret (v := .agg #[.int .i64 2, .int .i64 (-1)]) (by simp [results, Tryz.results27, go_sem, hk0, hk1]) rfl ⟨rfl, ?_⟩
  exact Below.setCell (Below.setCell HB.out (by simp) _) (by simp) _
set_option maxRecDepth 100000 in
set_option maxHeartbeats 2000000 in
theorem refwrong_5 (x sz : Int) (A1 A2 : Option Addr) (n m c1 c2 : Nat) (w : World) (hx0 : 0 ≤ x) (hx1 : x < 18446744073709551616) (hs0 : 0 ≤ sz) (hs1 : sz < 18446744073709551616) (hn : n ≤ 9223372036854775807) (hm : m ≤ 9223372036854775807) (h0 : n ≠ 0) (hk : 9223372036854775808 < sz ∨ sz < x ∨ sz - x < n) :
    Calls Tryz.prog 27 #[.int .u64 x, .int .u64 sz, .slice A1 n c1, .slice A2 m c2] w fun ev w' => ev = .returned (.agg #[.int .i64 5, .int .i64 (-1)]) ∧ Below w.heap.size w w' := by
  have hS := Lib.hid (Slot.new w (.int .i64 0) (.int .i64 0) 29)
  have hwn : IntKind.u64.wrap (n : Int) = n := IntWalk.u64_in _ (by omega)
  have hn0 : ((n : Int) == 0) = false := by simp; omega
  have hh : 9223372036854775808 < sz ∨ (¬ 9223372036854775808 < sz ∧ sz < x) ∨ (¬ 9223372036854775808 < sz ∧ ¬ sz < x ∧ x ≤ sz ∧ sz - x < n) := by omega
  clear hk
  rcases hh with q | ⟨q, q1⟩ | ⟨q, q1, q2, q3⟩
  all_goals
    go_enter Tryz.func27, Tryz.ntmps27
    go_wp2_with fail
    refine (plain5 _).mono ?_
    rintro ev w1 ⟨rfl, b1⟩
    have hS1 := hS.out.below b1 (by simp)
    have hSx := hS1
    obtain ⟨⟨u0, c0⟩, ⟨u1, c1⟩, f0, f1⟩ := hSx
    have hk0 := hS1.k0 (.int .i64 5) (.int .i64 (-1))
    have hk1 := hS1.k1 (.int .i64 5) (.int .i64 (-1))
    have HB : Hid (Below w.heap.size w w1) := Lib.hid (((Below.refl _ w).alloc (Nat.le_refl _) _).trans (b1.mono (by simp)))
    clear b1 hS1
    go_wp2
    refine bodyPost_ret (v := .agg #[.int .i64 5, .int .i64 (-1)]) (by simp [results, Tryz.results27, go_sem, hk0, hk1]) rfl ⟨rfl, ?_⟩
    exact Below.setCell (Below.setCell HB.out (by simp) _) (by simp) _
set_option maxRecDepth 100000 in
set_option maxHeartbeats 2000000 in
theorem refwrong_10 (x sz : Int) (A1 A2 : Option Addr) (n m c1 c2 : Nat) (w : World) (hx0 : 0 ≤ x) (hx1 : x < 18446744073709551616) (hs0 : 0 ≤ sz) (hs1 : sz < 18446744073709551616) (hn : n ≤ 9223372036854775807) (hm : m ≤ 9223372036854775807) (h0 : n ≠ 0) (hk : ¬ (9223372036854775808 < sz ∨ sz < x ∨ sz - x < n)) (hl : (batchL 64 x (x + n) 0 sz).length ≠ m) :
    Calls Tryz.prog 27 #[.int .u64 x, .int .u64 sz, .slice A1 n c1, .slice A2 m c2] w fun ev w' => ev = .returned (.agg #[.int .i64 10, .int .i64 (-1)]) ∧ Below w.heap.size w w' := by
  have hS := Lib.hid (Slot.new w (.int .i64 0) (.int .i64 0) 29)
  have hwn : IntKind.u64.wrap (n : Int) = n := IntWalk.u64_in _ (by omega)
  have hn0 : ((n : Int) == 0) = false := by simp; omega
  have q : ¬ 9223372036854775808 < sz := by omega
  have q1 : ¬ sz < x := by omega
  have q2 : x ≤ sz := by omega
  have q3 : ¬ sz - x < n := by omega
  have hsum : x + (n : Int) < 18446744073709551616 := by omega
  have HRB := Lib.hid (fun w => refBatch_ok x (x + n) sz w hx0 (by omega) (by omega) (by omega))
  obtain ⟨lst, hlst⟩ : ∃ l, batchL 64 x (x + n) 0 sz = l := ⟨_, rfl⟩
  rw [hlst] at hl HRB
  obtain ⟨qn, hq⟩ : ∃ q, lst.length = q := ⟨_, rfl⟩
  rw [hq] at hl HRB
  have hne : ((qn : Int) != (m : Int)) = true := by simp; omega
  clear hk hlst hq hl
  go_enter Tryz.func27, Tryz.ntmps27
  go_wp2_with fail
  refine (HRB.out _).mono ?_
  rintro ev w1 ⟨v1, rfl, o1, b1⟩
  have hs1 := b1.size
  obtain ⟨Aq, cq, rfl, hcq⟩ := own_shape o1
  clear o1
  have hS1 := hS.out.below b1 (by simp)
  have HB1 : Hid (Below w.heap.size w w1) := Lib.hid (((Below.refl _ w).alloc (Nat.le_refl _) _).trans (b1.mono (by simp)))
  have HS1 := Lib.hid hS1
  have hsl : w.heap.size < w1.heap.size := by simp at hs1; omega
  clear b1 hS1 hs1
  go_wp2_with fail
  refine (plain10 _).mono ?_
  rintro ev w2 ⟨rfl, b2⟩
  have hS2 := (HS1.out.below ((Below.refl _ w1).alloc (Nat.le_refl _) (.cells #[.int .i64 0, .int .i64 0] 29)) hsl).below b2 (by simp; omega)
  have hSx := hS2
  obtain ⟨⟨u0, c0⟩, ⟨u1, c1⟩, f0, f1⟩ := hSx
  have hk0 := hS2.k0 (.int .i64 10) (.int .i64 (-1))
  have hk1 := hS2.k1 (.int .i64 10) (.int .i64 (-1))
  have HB : Hid (Below w.heap.size w w2) := Lib.hid ((HB1.out.alloc (by omega) _).trans (b2.mono (by simp; omega)))
  clear b2 hS2
  go_wp2
  refine bodyPost_ret (v := .agg #[.int .i64 10, .int .i64 (-1)]) (by simp [results, Tryz.results27, go_sem, hk0, hk1]) rfl ⟨rfl, ?_⟩
  exact Below.setCell (Below.setCell HB.out (by simp) _) (by simp) _
set_option maxRecDepth 100000 in
set_option maxHeartbeats 2000000 in
theorem refwrong_ok (x sz : Int) (A1 A2 : Option Addr) (n m c1 c2 : Nat) (w : World) (hx0 : 0 ≤ x) (hx1 : x < 18446744073709551616) (hs0 : 0 ≤ sz) (hs1 : sz < 18446744073709551616) (hn : n ≤ 9223372036854775807) (hm : m ≤ 9223372036854775807) (h0 : n ≠ 0) (hk : ¬ (9223372036854775808 < sz ∨ sz < x ∨ sz - x < n)) (hl : (batchL 64 x (x + n) 0 sz).length = m) :
    Calls Tryz.prog 27 #[.int .u64 x, .int .u64 sz, .slice A1 n c1, .slice A2 m c2] w fun ev w' => ev = .returned (.agg #[.int .i64 0, .int .i64 0]) ∧ Below w.heap.size w w' := by
  have hS := Lib.hid (Slot.new w (.int .i64 0) (.int .i64 0) 29)
  have hwn : IntKind.u64.wrap (n : Int) = n := IntWalk.u64_in _ (by omega)
  have hn0 : ((n : Int) == 0) = false := by simp; omega
  have q : ¬ 9223372036854775808 < sz := by omega
  have q1 : ¬ sz < x := by omega
  have q2 : x ≤ sz := by omega
  have q3 : ¬ sz - x < n := by omega
  have hsum : x + (n : Int) < 18446744073709551616 := by omega
  have HRB := Lib.hid (fun w => refBatch_ok x (x + n) sz w hx0 (by omega) (by omega) (by omega))
  obtain ⟨lst, hlst⟩ : ∃ l, batchL 64 x (x + n) 0 sz = l := ⟨_, rfl⟩
  rw [hlst] at hl HRB
  obtain ⟨qn, hq⟩ : ∃ q, lst.length = q := ⟨_, rfl⟩
  rw [hq] at hl HRB
  have hne : ((qn : Int) != (m : Int)) = false := by simp [hl]
  clear hk hlst hq hl
  go_enter Tryz.func27, Tryz.ntmps27
  go_wp2_with fail
  refine (HRB.out _).mono ?_
  rintro ev w1 ⟨v1, rfl, o1, b1⟩
  have hs1 := b1.size
  obtain ⟨Aq, cq, rfl, hcq⟩ := own_shape o1
  clear o1
  have hS1 := hS.out.below b1 (by simp)
  have HB1 : Hid (Below w.heap.size w w1) := Lib.hid (((Below.refl _ w).alloc (Nat.le_refl _) _).trans (b1.mono (by simp)))
  have HS1 := Lib.hid hS1
  have hsl : w.heap.size < w1.heap.size := by simp at hs1; omega
  clear b1 hS1 hs1
  have hS2 := HS1.out.below ((Below.refl _ w1).alloc (Nat.le_refl _) (.cells #[.int .i64 0, .int .i64 0] 29)) hsl
  have hSx := hS2
  obtain ⟨⟨u0, c0⟩, ⟨u1, c1⟩, f0, f1⟩ := hSx
  have hk0 := hS2.k0 (.int .i64 0) (.int .i64 0)
  have hk1 := hS2.k1 (.int .i64 0) (.int .i64 0)
  have HB : Hid (Below w.heap.size w (w1.alloc (.cells #[.int .i64 0, .int .i64 0] 29))) := Lib.hid (HB1.out.alloc (by omega) _)
  clear hS2
  obtain ⟨wx, hwx⟩ : ∃ x, (w1.alloc (.cells #[.int .i64 0, .int .i64 0] 29)) = x := ⟨_, rfl⟩
  rw [hwx] at c0 c1 f0 f1 hk0 hk1 HB
  have HWX := Lib.hid hwx
  clear hwx
  go_upto_region 7 with fail
  rw [HWX.out]
  go_wp2
  refine bodyPost_ret (v := .agg #[.int .i64 0, .int .i64 0]) (by simp [results, Tryz.results27, go_sem, hk0, hk1]) rfl ⟨rfl, ?_⟩
  exact Below.setCell (Below.setCell HB.out (by simp) _) (by simp) _
theorem refwrong_any (x sz : Int) (A1 A2 : Option Addr) (n m c1 c2 : Nat) (w : World) (hx0 : 0 ≤ x) (hx1 : x < 18446744073709551616) (hs0 : 0 ≤ sz) (hs1 : sz < 18446744073709551616) (hn : n ≤ 9223372036854775807) (hm : m ≤ 9223372036854775807) :
    Calls Tryz.prog 27 #[.int .u64 x, .int .u64 sz, .slice A1 n c1, .slice A2 m c2] w fun ev w' => ev = .returned (faultV (batchK x sz n m)) ∧ Below w.heap.size w w' := by
  unfold batchK
  split
  · exact refwrong_2 x sz A1 A2 n m c1 c2 w hx0 hx1 hs0 hs1 hn hm (by assumption)
  · split
    · exact refwrong_5 x sz A1 A2 n m c1 c2 w hx0 hx1 hs0 hs1 hn hm (by assumption) (by assumption)
    · split
      · exact refwrong_10 x sz A1 A2 n m c1 c2 w hx0 hx1 hs0 hs1 hn hm (by assumption) (by assumption) (by assumption)
      · exact refwrong_ok x sz A1 A2 n m c1 c2 w hx0 hx1 hs0 hs1 hn hm (by assumption) (by assumption) (by rename_i h; exact Classical.not_not.1 h)

end Go.Proofs.YtchfbdbgmlcfiaaGreatDoor
