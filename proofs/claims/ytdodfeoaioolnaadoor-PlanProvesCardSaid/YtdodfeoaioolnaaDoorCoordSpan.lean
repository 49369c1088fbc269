/- coord.may, coord.Span of a tree that may be. No condition. -/
import Derived.Test.YtdodfeoaioolnaaDoorRows
import Derived.Test.YtdodfeoaioolnaaDoorMem
import Derived.OwnWalk
import Derived.BigQuiet
import Derived.Deep.QuietTactic
import Derived.Outline
namespace Go.Proofs.YtdodfeoaioolnaaDoor
open Go.ChangeShapes Go.WideShapes Go.ChangeAt Go.RowKit
set_option linter.unusedVariables false
theorem may_yes (lv ix : Int) (w : World) (h0 : 0 ≤ lv) (h1 : lv ≤ 63) (h2 : 0 ≤ ix) (h3 : ix < 9223372036854775808 / 2 ^ lv.toNat) :
    Calls Tryd.prog 64 #[.agg #[.int .u8 lv, .int .u64 ix]] w fun ev w' => ev = .returned (.bool true) ∧ Below w.heap.size w w' := by
  have hb : ix < 9223372036854775808 := by have := Int.ediv_le_self (b := 2 ^ lv.toNat) (show (0 : Int) ≤ 9223372036854775808 by omega); omega
  go_enter Tryd.func64, Tryd.ntmps64
  go_wp2
  refine bodyPost_ret (v := .bool true) (by simp [results, Tryd.results64, go_sem]) rfl ⟨rfl, ?_⟩
  repeat (first | exact Below.refl _ _ | (refine below_drewN ?_) | (refine Below.drew ?_) | (refine Below.alloc ?_ (by simp; try omega) _) | (refine Below.setCell ?_ (by simp; try omega) _))
theorem span_tree (lv ix at_ : Int) (w : World) (h0 : 0 ≤ lv) (h1 : lv ≤ 63) (h2 : 0 ≤ ix) (h3 : ix * 2 ^ lv.toNat = at_) (h4 : at_ + 2 ^ lv.toNat ≤ 9223372036854775808) :
    Calls Tryd.prog 50 #[.agg #[.int .u8 lv, .int .u64 ix]] w fun ev w' => ev = .returned (.tuple #[.agg #[.int .u64 at_, .int .u64 (at_ + 2 ^ lv.toNat)], .bool true]) ∧ Below w.heap.size w w' := by
  obtain ⟨t, ht⟩ : ∃ t : Int, 2 ^ lv.toNat = t := ⟨_, rfl⟩
  have hp : 0 < t := by rw [← ht]; exact Int.pow_pos (by decide)
  rw [ht] at h3 h4 ⊢
  have hat : 0 ≤ at_ := by rw [← h3]; exact Int.mul_nonneg h2 (by omega)
  have h5 : ix < 9223372036854775808 / 2 ^ lv.toNat := by
    rw [ht, Int.lt_iff_add_one_le]
    refine (Int.le_ediv_iff_mul_le hp).2 ?_
    rw [Int.add_mul, h3]; omega
  have hb : ix < 9223372036854775808 := by have := Int.ediv_le_self (b := 2 ^ lv.toNat) (show (0 : Int) ≤ 9223372036854775808 by omega); omega
  have e1 : Hid (IntKind.u64.wrap (ix * 2 ^ lv.toNat) = at_) := Lib.hid (by rw [wrap_u64, ht, h3]; exact Int.emod_eq_of_lt hat (by omega))
  have e2 : Hid (IntKind.u64.wrap ((ix + 1) * 2 ^ lv.toNat) = at_ + t) := Lib.hid (by rw [wrap_u64, ht, Int.add_mul, h3, Int.one_mul]; exact Int.emod_eq_of_lt (by omega) (by omega))
  clear h3 h4 ht
  go_enter Tryd.func50, Tryd.ntmps50
  go_wp2_with fail
  refine (may_yes _ _ _ h0 h1 h2 h5).mono ?_
  rintro ev w1 ⟨rfl, b1⟩
  have c0 := cell_below b1 (cell_alloc (cell_new #[.int .u8 lv, .int .u64 ix] 80 0 (.int .u8 lv) rfl) (.cells #[.int .u64 0, .int .u64 0] 93)) (by simp; try omega)
  have c1 := cell_below b1 (cell_alloc (cell_new #[.int .u8 lv, .int .u64 ix] 80 1 (.int .u64 ix) rfl) (.cells #[.int .u64 0, .int .u64 0] 93)) (by simp; try omega)
  have d0 := cell_below b1 (cell_new (w := w.alloc (.cells #[.int .u8 lv, .int .u64 ix] 80)) #[.int .u64 0, .int .u64 0] 93 0 (.int .u64 0) rfl) (by simp; try omega)
  have d1 := cell_below b1 (cell_new (w := w.alloc (.cells #[.int .u8 lv, .int .u64 ix] 80)) #[.int .u64 0, .int .u64 0] 93 1 (.int .u64 0) rfl) (by simp; try omega)
  have fz := frozen_below b1 (b := w.heap.size + 1) (o := 0) (v := false) (by simp) (by simp; try omega)
  have fz1 := frozen_below b1 (b := w.heap.size + 1) (o := 1) (v := false) (by simp) (by simp; try omega)
  simp at d0 d1
  have HB : Hid (Below w.heap.size w w1) := Lib.hid (((Below.refl _ _).alloc (by simp) _).alloc (by simp) _ |>.trans (b1.mono (by simp; omega)))
  clear b1
  go_wp2
  have k0 : ∀ u, (w1.setCell ⟨w.heap.size + 1, 0, none⟩ u).cell? ⟨w.heap.size + 1, 0, none⟩ = some u := fun u => World.cell?_setCell_same' _ _ _ (by rw [d0]; rfl)
  have k1 : ∀ u v, ((w1.setCell ⟨w.heap.size + 1, 0, none⟩ u).setCell ⟨w.heap.size + 1, 1, none⟩ v).cell? ⟨w.heap.size + 1, 1, none⟩ = some v := fun u v => World.cell?_setCell_same' _ _ _ (by rw [World.cell?_setCell_other _ _ _ _ (by intro e; cases e), d1]; rfl)
  have k2 : ∀ u v, ((w1.setCell ⟨w.heap.size + 1, 0, none⟩ u).setCell ⟨w.heap.size + 1, 1, none⟩ v).cell? ⟨w.heap.size + 1, 0, none⟩ = some u := fun u v => by rw [World.cell?_setCell_other _ _ _ _ (by intro e; cases e)]; exact k0 u
  have e1o := e1.out
  have e2o := e2.out
  refine bodyPost_ret (v := .tuple #[.agg #[.int .u64 at_, .int .u64 (at_ + t)], .bool true]) (by simp [results, Tryd.results50, go_sem, k1, k2, e1o, e2o]) rfl ⟨rfl, ?_⟩
  exact Below.setCell (Below.setCell HB.out (by simp) _) (by simp) _
end Go.Proofs.YtdodfeoaioolnaaDoor
