/- cartularyref07.batch: what the reference answers. No condition. -/
import Derived.Test.YtchfbdbgmlcfiaaGreatDoorRefPath
import Derived.Test.YtchfbdbgmlcfiaaGreatDoorShapeBatch
namespace Go.Proofs.YtchfbdbgmlcfiaaGreatDoor
open Go.ChangeShapes Go.WideShapes Go.ChangeAt Go.RowKit
set_option linter.unusedVariables false
theorem refbatch_out (f : Nat) (x y b e : Int) (w : World) (h0 : 0 ≤ b) (h1 : b < e) (h2 : e ≤ 9223372036854775808) (h3 : 0 ≤ x) (h4 : x < y) (h5 : y ≤ 9223372036854775808) (ho : e ≤ x ∨ y ≤ b) :
    Calls Tryz.prog 157 #[.int .u64 x, .int .u64 y, .agg #[.int .u64 b, .int .u64 e]] w (RefPost 101 2 w (batchL f x y b e).length (spanCells (batchL f x y b e))) := by
  rw [batchL_out ho]
  by_cases hc : y ≤ b
  · clear ho
    go_enter Tryz.func157, Tryz.ntmps157
    go_wp2
    go_ret
    refine ⟨_, rfl, own_congr (by have h := own_new (w := w.alloc (.cells #[.int .u64 b, .int .u64 e] 101)) (base := w.heap.size) #[.int .u64 b, .int .u64 e] 101 1 2 (by simp) rfl (by decide); rw [World.size_alloc] at h; exact h) rfl rfl, ?_⟩
    repeat (first | exact Below.refl _ _ | (refine below_drewN ?_) | (refine Below.drew ?_) | (refine Below.alloc ?_ (by simp; try omega) _) | (refine Below.setCell ?_ (by simp; try omega) _))
  · have hx : e ≤ x := by omega
    clear ho
    go_enter Tryz.func157, Tryz.ntmps157
    go_wp2
    go_ret
    refine ⟨_, rfl, own_congr (by have h := own_new (w := w.alloc (.cells #[.int .u64 b, .int .u64 e] 101)) (base := w.heap.size) #[.int .u64 b, .int .u64 e] 101 1 2 (by simp) rfl (by decide); rw [World.size_alloc] at h; exact h) rfl rfl, ?_⟩
    repeat (first | exact Below.refl _ _ | (refine below_drewN ?_) | (refine Below.drew ?_) | (refine Below.alloc ?_ (by simp; try omega) _) | (refine Below.setCell ?_ (by simp; try omega) _))
theorem refbatch_in (f : Nat) (x y b e : Int) (w : World) (h0 : 0 ≤ b) (h1 : b < e) (h2 : e ≤ 9223372036854775808) (h3 : 0 ≤ x) (h4 : x < y) (h5 : y ≤ 9223372036854775808) (hx : x ≤ b) (hy : e ≤ y) :
    Calls Tryz.prog 157 #[.int .u64 x, .int .u64 y, .agg #[.int .u64 b, .int .u64 e]] w (RefPost 101 2 w (batchL f x y b e).length (spanCells (batchL f x y b e))) := by
  rw [batchL_in (by omega) ⟨hx, hy⟩]
  have n1 : ¬ y ≤ b := by omega
  have n2 : ¬ e ≤ x := by omega
  go_enter Tryz.func157, Tryz.ntmps157
  go_wp2
  go_ret
  refine ⟨_, rfl, World.ownsRow_nil _ _ _ _, ?_⟩
  repeat (first | exact Below.refl _ _ | (refine below_drewN ?_) | (refine Below.drew ?_) | (refine Below.alloc ?_ (by simp; try omega) _) | (refine Below.setCell ?_ (by simp; try omega) _))
set_option maxRecDepth 100000 in
set_option maxHeartbeats 2000000 in
theorem refbatch (f : Nat) : ∀ (x y b e : Int) (w : World), f ≤ 64 → 0 ≤ b → b < e → e ≤ 9223372036854775808 → 0 ≤ x → x < y → y ≤ 9223372036854775808 → e - b ≤ pow2 f →
    Calls Tryz.prog 157 #[.int .u64 x, .int .u64 y, .agg #[.int .u64 b, .int .u64 e]] w (RefPost 101 2 w (batchL f x y b e).length (spanCells (batchL f x y b e))) := by
  induction f with
  | zero =>
    intro x y b e w hf64 h0 h1 he hx0 hxy hy hfu
    rw [pow2_zero] at hfu
    by_cases ho : e ≤ x ∨ y ≤ b
    · exact refbatch_out 0 x y b e w h0 h1 he hx0 hxy hy ho
    · exact refbatch_in 0 x y b e w h0 h1 he hx0 hxy hy (by omega) (by omega)
  | succ f ih =>
    intro x y b e w hf64 h0 h1 he hx0 hxy hy hfu
    by_cases ho : e ≤ x ∨ y ≤ b
    · exact refbatch_out _ x y b e w h0 h1 he hx0 hxy hy ho
    · by_cases hin : x ≤ b ∧ e ≤ y
      · exact refbatch_in _ x y b e w h0 h1 he hx0 hxy hy hin.1 hin.2
      · have hk := blwI_bd (n := e - b) (by omega)
        have hkf := blwI_le_pow (n := e - b) (f := f) (by omega) hfu
        obtain ⟨i0, hi, hz0, hz1, hz2⟩ := info_parts info_span
        have HI := Lib.hid ih
        clear ih
        obtain ⟨m, hm⟩ : ∃ m, b + blwI (e - b) = m := ⟨_, rfl⟩
        have HP : Hid (batchL (f + 1) x y b e = batchL f x y b m ++ batchL f x y m e) := Lib.hid (by rw [batchL_half ho hin, hm])
        have hmb : b < m ∧ m < e := by omega
        have hpw : Hid (m - b ≤ pow2 f ∧ e - m ≤ pow2 f) := Lib.hid (by omega)
        have HL1 := Lib.hid (batchL_len f x y b m (by omega) (by omega))
        have HL2 := Lib.hid (batchL_len f x y m e (by omega) (by omega))
        have n1 : ¬ y ≤ b := by omega
        have n2 : ¬ e ≤ x := by omega
        have hn3 : Hid (¬ (x ≤ b ∧ e ≤ y)) := Lib.hid hin
        clear hfu hkf ho hin
        by_cases hxb : x ≤ b
        all_goals
          try have n3 : ¬ e ≤ y := by have := hn3.out; omega
          go_enter Tryz.func157, Tryz.ntmps157
          go_wp2_with fail
          refine (refsplit_yes _ _ (by omega) (by omega)).mono ?_
          rintro ev w' ⟨rfl, rfl⟩
          obtain ⟨t, ht⟩ : ∃ t, blwI (e - b) = t := ⟨_, rfl⟩
          rw [ht]
          have htm : b + t = m := by omega
          rw [ht] at hk hm
          go_wp2_with fail
          refine (HI.out x y b m _ (by omega) h0 (by omega) (by omega) hx0 hxy hy hpw.out.1).mono ?_
          rintro ev w1 ⟨v1, rfl, o1, b1⟩
          have k0 := cell_below b1 (cell_new #[.int .u64 b, .int .u64 e] 101 0 (.int .u64 b) rfl) (by simp)
          have k1 := cell_below b1 (cell_new #[.int .u64 b, .int .u64 e] 101 1 (.int .u64 e) rfl) (by simp)
          have hs1 := b1.size
          simp only [World.size_alloc] at hs1
          have hb01 : Below w.heap.size w w1 := ((Below.refl _ w).alloc (Nat.le_refl _) _).trans (b1.mono (by simp))
          have o1 := own_mono (base' := w.heap.size) o1 (by simp)
          clear b1
          go_wp2_with fail
          refine (HI.out x y m e _ (by omega) (by omega) (by omega) (by omega) hx0 hxy hy hpw.out.2).mono ?_
          rintro ev w2 ⟨v2, rfl, o2, b2⟩
          have o1 := own_below o1 b2 (Nat.le_refl _)
          have hs2 := b2.size
          have hb02 : Below w.heap.size w w2 := hb01.trans (b2.mono (by omega))
          go_wp2_with (at_builtin; refine wpList_append_list rfl _ _ 92 rfl w.heap.size w1.heap.size 101 i0 (.agg #[.int .u64 0, .int .u64 0]) 2 16 Tryz.underlying92 hi hz0 hz1 hz2 rfl (by decide) v1 v2 _ _ _ _ rfl rfl o1 o2 (spanCells_cell _) (by have := HL1.out; have := HL2.out; unfold maxLen; omega) (by have := HL1.out; have := HL2.out; omega) (by omega) ?_; intro v3 w3 hown3 hgrow3 hat3)
          go_ret
          refine ⟨_, rfl, own_congr hown3 (by rw [HP.out]; simp) (by rw [HP.out, spanCells_append]), hb02.grown hgrow3 (by omega) (fun k hk => (o1.lt k hk).1)⟩
end Go.Proofs.YtchfbdbgmlcfiaaGreatDoor
