/- cartularyref07.Path, Proof, Batch: what the reference answers. No condition. -/

import Derived.Test.YtchfbdbgmlcfiaaGreatDoorRefBatch
namespace Go.Proofs.YtchfbdbgmlcfiaaGreatDoor
open Go.ChangeShapes Go.WideShapes Go.ChangeAt Go.RowKit
set_option linter.unusedVariables false
/-- a list and no fault -/
def RefList (e size : Nat) (w : World) (n : Nat) (xs : List Value) (ev : Ending) (w' : World) : Prop :=
  ∃ v, ev = .returned (.tuple #[v, .agg #[.int .i64 0, .int .i64 0]]) ∧ w'.ownsRow w.heap.size e size v n xs ∧ Below w.heap.size w w'
/-- no list and a fault -/
def RefFail (w : World) (ev : Ending) (w' : World) : Prop :=
  ev = .returned (.tuple #[.slice none 0 0, .agg #[.int .i64 5, .int .i64 (-1)]]) ∧ Below w.heap.size w w'
theorem plain5 (w : World) : Calls Tryz.prog 16 #[.int .i64 5] w fun ev w' => ev = .returned (.agg #[.int .i64 5, .int .i64 (-1)]) ∧ Below w.heap.size w w' := by
  go_enter Tryz.func16, Tryz.ntmps16
  go_wp2
  refine bodyPost_ret (v := .agg #[.int .i64 5, .int .i64 (-1)]) (by simp [results, Tryz.results16, go_sem]) rfl ⟨rfl, ?_⟩
  repeat (first | exact Below.refl _ _ | (refine below_drewN ?_) | (refine Below.drew ?_) | (refine Below.alloc ?_ (by simp; try omega) _) | (refine Below.setCell ?_ (by simp; try omega) _))
theorem fault_no (w : World) : Calls Tryz.prog 106 #[.bool false] w fun ev w' => ev = .returned (.agg #[.int .i64 0, .int .i64 0]) ∧ Below w.heap.size w w' := by
  go_enter Tryz.func106, Tryz.ntmps106
  go_wp2
  refine bodyPost_ret (v := .agg #[.int .i64 0, .int .i64 0]) (by simp [results, Tryz.results106, go_sem]) rfl ⟨rfl, ?_⟩
  repeat (first | exact Below.refl _ _ | (refine below_drewN ?_) | (refine Below.drew ?_) | (refine Below.alloc ?_ (by simp; try omega) _) | (refine Below.setCell ?_ (by simp; try omega) _))
/-- the result's block, before and behind the last store -/
structure Slot (b : Nat) (w : World) : Prop where
  c0 : ∃ u, w.cell? ⟨b, 0, none⟩ = some u
  c1 : ∃ u, w.cell? ⟨b, 1, none⟩ = some u
  f0 : w.frozen? ⟨b, 0, none⟩ = false
  f1 : w.frozen? ⟨b, 1, none⟩ = false
theorem Slot.new (w : World) (u v : Value) (t : TypeId) : Slot w.heap.size (w.alloc (.cells #[u, v] t)) :=
  ⟨⟨_, cell_new _ _ 0 _ rfl⟩, ⟨_, cell_new _ _ 1 _ rfl⟩, by simp, by simp⟩
theorem Slot.below {b B : Nat} {w w' : World} (h : Slot b w) (hb : Below B w w') (hB : b < B) : Slot b w' := by
  obtain ⟨⟨u, a⟩, ⟨v, c⟩, d, e⟩ := h
  exact ⟨⟨u, cell_below hb a hB⟩, ⟨v, cell_below hb c hB⟩, frozen_below hb d hB, frozen_below hb e hB⟩
theorem Slot.k0 {b : Nat} {w : World} (h : Slot b w) (u v : Value) : ((w.setCell ⟨b, 0, none⟩ u).setCell ⟨b, 1, none⟩ v).cell? ⟨b, 0, none⟩ = some u := by
  obtain ⟨⟨x, a⟩, _, _, _⟩ := h
  rw [World.cell?_setCell_other _ _ _ _ (by intro e; cases e)]; exact World.cell?_setCell_same' _ _ _ (by rw [a]; rfl)
theorem Slot.k1 {b : Nat} {w : World} (h : Slot b w) (u v : Value) : ((w.setCell ⟨b, 0, none⟩ u).setCell ⟨b, 1, none⟩ v).cell? ⟨b, 1, none⟩ = some v := by
  obtain ⟨_, ⟨x, a⟩, _, _⟩ := h
  exact World.cell?_setCell_same' _ _ _ (by rw [World.cell?_setCell_other _ _ _ _ (by intro e; cases e), a]; rfl)
theorem fault_yes (w : World) : Calls Tryz.prog 106 #[.bool true] w fun ev w' => ev = .returned (.agg #[.int .i64 5, .int .i64 (-1)]) ∧ Below w.heap.size w w' := by
  have hS := Lib.hid (Slot.new w (.int .i64 0) (.int .i64 0) 29)
  go_enter Tryz.func106, Tryz.ntmps106
  go_wp2_with fail
  refine (plain5 _).mono ?_
  rintro ev w1 ⟨rfl, b1⟩
  have hS1 := hS.out.below b1 (by simp)
  have hSx := hS1
  obtain ⟨⟨u0, c0⟩, ⟨u1, c1⟩, f0, f1⟩ := hSx
  have hk0 := hS1.k0 (.int .i64 5) (.int .i64 (-1))
  have hk1 := hS1.k1 (.int .i64 5) (.int .i64 (-1))
  have HB : Hid (Below w.heap.size w w1) := Lib.hid (((Below.refl _ w).alloc (Nat.le_refl _) _).trans (b1.mono (by simp)))
  clear b1 hS1
  go_wp2
  refine bodyPost_ret (v := .agg #[.int .i64 5, .int .i64 (-1)]) (by simp [results, Tryz.results106, go_sem, hk0, hk1]) rfl ⟨rfl, ?_⟩
  exact Below.setCell (Below.setCell HB.out (by simp) _) (by simp) _

set_option maxRecDepth 100000 in
set_option maxHeartbeats 1000000 in
theorem refPath_ok (ix sz : Int) (w : World) (h0 : 0 ≤ ix) (h1 : ix < sz) (h2 : sz ≤ 9223372036854775808) :
    Calls Tryz.prog 28 #[.int .u64 ix, .int .u64 sz] w (RefList 101 2 w (pathL 64 ix 0 sz).length (spanCells (pathL 64 ix 0 sz))) := by
  have hp : Hid (sz - 0 ≤ pow2 64) := Lib.hid (by rw [pow2_64]; omega)
  have hS := Lib.hid (Slot.new w (.int .i64 0) (.int .i64 0) 29)

  go_enter Tryz.func28, Tryz.ntmps28
  go_wp2_with fail
  refine (refpath 64 0 sz ix _ (Nat.le_refl _) (by omega) (by omega) h2 h0 (by omega) hp.out).mono ?_
  rintro ev w1 ⟨v1, rfl, o1, b1⟩
  have hS1 := Lib.hid (hS.out.below b1 (by simp))
  go_wp2_with fail
  refine (fault_no _).mono ?_
  rintro ev w2 ⟨rfl, b2⟩
  have hs1 := b1.size
  have hS2 := hS1.out.below b2 (by simp at hs1; omega)
  have o2 := own_below o1 b2 (Nat.le_refl _)
  have hSx := hS2
  obtain ⟨⟨u0, c0⟩, ⟨u1, c1⟩, f0, f1⟩ := hSx
  have hk0 := hS2.k0 (.int .i64 0) (.int .i64 0)
  have hk1 := hS2.k1 (.int .i64 0) (.int .i64 0)
  have HB : Hid (Below w.heap.size w w2) := Lib.hid (((Below.refl _ w).alloc (Nat.le_refl _) _).trans ((b1.mono (by simp)).trans (b2.mono (by simp at hs1; omega))))
  have HO : Hid (((w2.setCell ⟨w.heap.size, 0, none⟩ (.int .i64 0)).setCell ⟨w.heap.size, 1, none⟩ (.int .i64 0)).ownsRow w.heap.size 101 2 v1 (pathL 64 ix 0 sz).length (spanCells (pathL 64 ix 0 sz))) := Lib.hid (by
    have hlow : some w.heap.size ≠ v1.ownBlock := own_ne_low o2 (by simp)
    exact own_mono (own_setCell (own_setCell o2 hlow _) hlow _) (by simp))
  clear b1 b2 hS2 o1 o2 hs1
  go_wp2
  refine bodyPost_ret (v := .tuple #[v1, .agg #[.int .i64 0, .int .i64 0]]) (by simp [results, Tryz.results28, go_sem, hk0, hk1]) rfl ⟨v1, rfl, HO.out, ?_⟩
  exact Below.setCell (Below.setCell HB.out (by simp) _) (by simp) _
set_option maxRecDepth 100000 in
theorem refPath_fail (ix sz : Int) (w : World) (h0 : 0 ≤ ix) (h1 : ix < 18446744073709551616) (h2 : 0 ≤ sz) (h3 : sz < 18446744073709551616) (h : 9223372036854775808 < sz ∨ sz ≤ ix) :
    Calls Tryz.prog 28 #[.int .u64 ix, .int .u64 sz] w (RefFail w) := by
  have hS := Lib.hid (Slot.new w (.int .i64 0) (.int .i64 0) 29)
  by_cases hc : 9223372036854775808 < sz
  all_goals
    try have hle : sz ≤ ix := by omega
    clear h
    go_enter Tryz.func28, Tryz.ntmps28
    go_wp2_with fail
    refine (fault_yes _).mono ?_
    rintro ev w1 ⟨rfl, b1⟩
    have hS1 := hS.out.below b1 (by simp)
    have hSx := hS1
    obtain ⟨⟨u0, c0⟩, ⟨u1, c1⟩, f0, f1⟩ := hSx
    have hk0 := hS1.k0 (.int .i64 5) (.int .i64 (-1))
    have hk1 := hS1.k1 (.int .i64 5) (.int .i64 (-1))
    have HB : Hid (Below w.heap.size w w1) := Lib.hid (((Below.refl _ w).alloc (Nat.le_refl _) _).trans (b1.mono (by simp)))
    clear b1 hS1
    go_wp2
    refine bodyPost_ret (v := .tuple #[.slice none 0 0, .agg #[.int .i64 5, .int .i64 (-1)]]) (by simp [results, Tryz.results28, go_sem, hk0, hk1]) rfl ⟨rfl, ?_⟩
    exact Below.setCell (Below.setCell HB.out (by simp) _) (by simp) _

set_option maxRecDepth 100000 in
set_option maxHeartbeats 1000000 in
theorem refBatch_ok (x y sz : Int) (w : World) (h0 : 0 ≤ x) (h1 : x < y) (h2 : y ≤ sz) (h3 : sz ≤ 9223372036854775808) :
    Calls Tryz.prog 105 #[.int .u64 x, .int .u64 y, .int .u64 sz] w (RefList 101 2 w (batchL 64 x y 0 sz).length (spanCells (batchL 64 x y 0 sz))) := by
  have hp : Hid (sz - 0 ≤ pow2 64) := Lib.hid (by rw [pow2_64]; omega)
  have hS := Lib.hid (Slot.new w (.int .i64 0) (.int .i64 0) 29)

  go_enter Tryz.func105, Tryz.ntmps105
  go_wp2_with fail
  refine (refbatch 64 x y 0 sz _ (Nat.le_refl _) (by omega) (by omega) h3 h0 h1 (by omega) hp.out).mono ?_
  rintro ev w1 ⟨v1, rfl, o1, b1⟩
  have hS1 := Lib.hid (hS.out.below b1 (by simp))
  go_wp2_with fail
  refine (fault_no _).mono ?_
  rintro ev w2 ⟨rfl, b2⟩
  have hs1 := b1.size
  have hS2 := hS1.out.below b2 (by simp at hs1; omega)
  have o2 := own_below o1 b2 (Nat.le_refl _)
  have hSx := hS2
  obtain ⟨⟨u0, c0⟩, ⟨u1, c1⟩, f0, f1⟩ := hSx
  have hk0 := hS2.k0 (.int .i64 0) (.int .i64 0)
  have hk1 := hS2.k1 (.int .i64 0) (.int .i64 0)
  have HB : Hid (Below w.heap.size w w2) := Lib.hid (((Below.refl _ w).alloc (Nat.le_refl _) _).trans ((b1.mono (by simp)).trans (b2.mono (by simp at hs1; omega))))
  have HO : Hid (((w2.setCell ⟨w.heap.size, 0, none⟩ (.int .i64 0)).setCell ⟨w.heap.size, 1, none⟩ (.int .i64 0)).ownsRow w.heap.size 101 2 v1 (batchL 64 x y 0 sz).length (spanCells (batchL 64 x y 0 sz))) := Lib.hid (by
    have hlow : some w.heap.size ≠ v1.ownBlock := own_ne_low o2 (by simp)
    exact own_mono (own_setCell (own_setCell o2 hlow _) hlow _) (by simp))
  clear b1 b2 hS2 o1 o2 hs1
  go_wp2
  refine bodyPost_ret (v := .tuple #[v1, .agg #[.int .i64 0, .int .i64 0]]) (by simp [results, Tryz.results105, go_sem, hk0, hk1]) rfl ⟨v1, rfl, HO.out, ?_⟩
  exact Below.setCell (Below.setCell HB.out (by simp) _) (by simp) _
set_option maxRecDepth 100000 in
theorem refBatch_fail (x y sz : Int) (w : World) (h0 : 0 ≤ x) (h1 : x < 18446744073709551616) (h2 : 0 ≤ y) (h3 : y < 18446744073709551616) (h4 : 0 ≤ sz) (h5 : sz < 18446744073709551616) (h : 9223372036854775808 < sz ∨ sz < y ∨ y ≤ x) :
    Calls Tryz.prog 105 #[.int .u64 x, .int .u64 y, .int .u64 sz] w (RefFail w) := by
  have hS := Lib.hid (Slot.new w (.int .i64 0) (.int .i64 0) 29)
  have hh : 9223372036854775808 < sz ∨ (¬ 9223372036854775808 < sz ∧ sz < y) ∨ (¬ 9223372036854775808 < sz ∧ ¬ sz < y ∧ y ≤ x) := by omega
  clear h
  rcases hh with q | ⟨q, q1⟩ | ⟨q, q1, q2⟩
  all_goals
    go_enter Tryz.func105, Tryz.ntmps105
    go_wp2_with fail
    refine (fault_yes _).mono ?_
    rintro ev w1 ⟨rfl, b1⟩
    have hS1 := hS.out.below b1 (by simp)
    have hSx := hS1
    obtain ⟨⟨u0, c0⟩, ⟨u1, c1⟩, f0, f1⟩ := hSx
    have hk0 := hS1.k0 (.int .i64 5) (.int .i64 (-1))
    have hk1 := hS1.k1 (.int .i64 5) (.int .i64 (-1))
    have HB : Hid (Below w.heap.size w w1) := Lib.hid (((Below.refl _ w).alloc (Nat.le_refl _) _).trans (b1.mono (by simp)))
    clear b1 hS1
    go_wp2
    refine bodyPost_ret (v := .tuple #[.slice none 0 0, .agg #[.int .i64 5, .int .i64 (-1)]]) (by simp [results, Tryz.results105, go_sem, hk0, hk1]) rfl ⟨rfl, ?_⟩
    exact Below.setCell (Below.setCell HB.out (by simp) _) (by simp) _

end Go.Proofs.YtchfbdbgmlcfiaaGreatDoor
