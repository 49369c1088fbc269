import Derived.Test.YtnpblpbcchminaaGreatDoorKbKeysVer
/- keys.may of any signature. Condition: the table reads as listed. -/
namespace Go.Proofs.YtnpblpbcchminaaGreatDoor
open Go.ChangeShapes Go.WideShapes Go.ChangeAt Go.RowKit
set_option linter.unusedVariables false
set_option maxRecDepth 100000 in
set_option maxHeartbeats 8000000 in
theorem may_any (x : Int) (m n : Nat) (A A2 : Option Addr) (c c2 : Nat) (w : World) :
    Calls Tryz.prog 33 #[.agg #[.int .i64 x, .slice A m c, .slice A2 n c2]] w fun ev w' => ev = .returned (.bool (decide (0 ≤ x ∧ x < 64 ∧ m = 67 ∧ n ≤ 6))) ∧ Below w.heap.size w w' := by
  obtain ⟨wv, hwv⟩ : ∃ y9 : World, (w.alloc (.cells #[.int .i64 x, .slice A m c, .slice A2 n c2] 26)) = y9 := ⟨_, rfl⟩
  have HBv : Hid (Below w.heap.size w wv) := Lib.hid (by rw [← hwv]; exact ((Below.refl _ _).alloc (by simp <;> omega) _))
  have HSV : Hid (wv.heap.size = w.heap.size + 1) := Lib.hid (by rw [← hwv]; simp)
  have RZ : Hid (wv.heap[w.heap.size]? = some (.cells #[.int .i64 x, .slice A m c, .slice A2 n c2] 26 (0, 0))) := Lib.hid (by rw [← hwv]; exact heap_at _ _ _ (by simp <;> omega))
  have HWV := Lib.hid hwv
  have c0 : wv.cell? ⟨w.heap.size, 0, none⟩ = some (.int .i64 x) := (cell_of_row wv w.heap.size 0 _ 26 (0, 0) RZ.out).trans rfl
  have c1 : wv.cell? ⟨w.heap.size, 1, none⟩ = some (.slice A m c) := (cell_of_row wv w.heap.size 1 _ 26 (0, 0) RZ.out).trans rfl
  have c2' : wv.cell? ⟨w.heap.size, 2, none⟩ = some (.slice A2 n c2) := (cell_of_row wv w.heap.size 2 _ 26 (0, 0) RZ.out).trans rfl
  clear hwv
  by_cases h0 : 0 ≤ x
  · have d0 : decide (0 ≤ x) = true := by simp; exact h0
    by_cases h1 : x < 64
    · have d1 : decide (x < 64) = true := by simp; exact h1
      by_cases h2 : m = 67
      · have d2 : ((m : Int) == 67) = true := by simp; omega
        have d2n : (m == 67) = true := by simp; omega
        have he : decide (0 ≤ x ∧ x < 64 ∧ m = 67 ∧ n ≤ 6) = decide (n ≤ 6) := by
          by_cases h3 : n ≤ 6 <;> simp [h0, h1, h2, h3]
        have hn : decide ((n : Int) ≤ 6) = decide (n ≤ 6) := by by_cases h3 : n ≤ 6 <;> simp [h3] <;> omega
        rw [he]
        clear h0 h1 h2 he
        go_enter Tryz.func33, Tryz.ntmps33
        go_upto_region 1 with fail
        rw [HWV.out]
        go_wp2_with fail
        go_ret
        exact ⟨by first | rfl | (simp only [hn]; rfl) | simp [hn], HBv.out⟩
      · have d2 : ((m : Int) == 67) = false := by simp; omega
        have d2n : (m == 67) = false := by simp; omega
        have he : decide (0 ≤ x ∧ x < 64 ∧ m = 67 ∧ n ≤ 6) = false := by simp [h2]
        rw [he]
        clear h0 h1 h2 he
        go_enter Tryz.func33, Tryz.ntmps33
        go_upto_region 1 with fail
        rw [HWV.out]
        go_wp2_with fail
        go_ret
        exact ⟨rfl, HBv.out⟩
    · have d1 : decide (x < 64) = false := by simp; omega
      have he : decide (0 ≤ x ∧ x < 64 ∧ m = 67 ∧ n ≤ 6) = false := by simp; omega
      rw [he]
      clear h0 h1 he
      go_enter Tryz.func33, Tryz.ntmps33
      go_upto_region 1 with fail
      rw [HWV.out]
      go_wp2_with fail
      go_ret
      exact ⟨rfl, HBv.out⟩
  · have d0 : decide (0 ≤ x) = false := by simp; omega
    have he : decide (0 ≤ x ∧ x < 64 ∧ m = 67 ∧ n ≤ 6) = false := by simp; omega
    rw [he]
    clear h0 he
    go_enter Tryz.func33, Tryz.ntmps33
    go_upto_region 1 with fail
    rw [HWV.out]
    go_wp2_with fail
    go_ret
    exact ⟨rfl, HBv.out⟩
end Go.Proofs.YtnpblpbcchminaaGreatDoor
