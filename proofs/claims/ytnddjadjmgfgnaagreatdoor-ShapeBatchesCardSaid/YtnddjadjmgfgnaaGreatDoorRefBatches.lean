/- The walk of ShapeBatches: whatever it is given it answers true. Condition: the package-level variables read as listed. -/
import Derived.Test.YtnddjadjmgfgnaaGreatDoorLawSpans
import Derived.Test.YtnddjadjmgfgnaaGreatDoorRefTops
namespace Go.Proofs.YtnddjadjmgfgnaaGreatDoor
open Go.ChangeShapes Go.WideShapes Go.ChangeAt Go.RowKit
set_option linter.unusedVariables false
set_option maxRecDepth 100000 in
set_option maxHeartbeats 4000000 in
theorem refBatches_good (a : Nat → Addr) (B : Nat) (x y sz : Int) (w : World) (hE0 : Env B a w) (h0 : 0 ≤ x) (h1 : x < y) (h2 : y ≤ sz) (h3 : sz ≤ 9223372036854775808) :
    Calls Tryz.prog 4 #[.int .u64 x, .int .u64 y, .int .u64 sz] w fun ev w' => ev = .returned (.bool true) ∧ Below w.heap.size w w' := by
  have hE := Lib.hid hE0
  clear hE0
  have HLEN0 := (batchL_len 64 x y 0 sz (by omega) (by rw [pow2_64]; omega))
  have PO0 := fun w' : World => (batch_ok x y sz w' h0 h1 h2 h3)
  have RO0 := fun w' : World => (refBatch_ok x y sz w' h0 h1 h2 h3)
  obtain ⟨L, hLL⟩ : ∃ L, batchL 64 x y 0 sz = L := ⟨_, rfl⟩
  rw [hLL] at HLEN0
  simp only [hLL] at PO0 RO0
  have HLEN := Lib.hid HLEN0
  have PO := Lib.hid PO0
  have RO := Lib.hid RO0
  clear hLL HLEN0 PO0 RO0

  go_enter Tryz.func4, Tryz.ntmps4
  go_wp2_with fail
  refine (PO.out _).mono ?_
  rintro ev w1 ⟨v1, rfl, o1, b1⟩
  have hs1 := b1.size
  go_wp2_with fail
  refine (PO.out _).mono ?_
  rintro ev w2 ⟨v2, rfl, o2, b2⟩
  have hs2 := b2.size
  go_wp2_with fail
  refine (RO.out _).mono ?_
  rintro ev w3 ⟨v3, rfl, o3, b3⟩
  have hs3 := b3.size
  have HAP : Hid (v1.ownBlock = none ∨ v1.ownBlock ≠ v2.ownBlock) := Lib.hid (by
    cases hq : v1.ownBlock with
    | none => exact .inl rfl
    | some g => exact .inr (fun q => by have := (o1.lt g hq).2; have := (o2.lt g q.symm).1; omega))
  have HO1 := Lib.hid (own_mono (base' := w.heap.size) (own_below (own_below o1 b2 (Nat.le_refl _)) b3 (Nat.le_refl _)) (Nat.le_refl _))
  have HO2 := Lib.hid (own_mono (base' := w.heap.size) (own_below o2 b3 (Nat.le_refl _)) (by omega))
  have HRD := Lib.hid (rd_own o3)
  have hE3 := Lib.hid (show Env B a w3 from (by (repeat (first | exact hE.out | (refine Env.step ?_ (by assumption)) | (refine Env.alloc ?_ _)))))
  have HB := Lib.hid (show Gr w w3 from (by (repeat (first | exact Gr.refl _ | (refine Gr.step ?_ (by assumption)) | (refine Gr.alloc ?_ _) | (refine Gr.drew ?_) | (refine Gr.drewN ?_ _)))))
  clear o1 o2 o3 b1 b2 b3
  go_wp2_with fail
  refine (spans_any a B w.heap.size L .nilIface 0 0 _ _ _ _ (hE3.out.alloc _) (by have := HLEN.out; omega) (by simp; omega) (fun w' _ => same_none w') (HO1.out.alloc _) (HO2.out.alloc _) (HRD.out.alloc _) HAP.out).mono ?_
  rintro ev w4 ⟨rfl, b4⟩
  have HBB : Hid (Below w.heap.size w w4) := Lib.hid ((HB.out.alloc _).trans b4)
  clear b4
  go_wp2
  go_ret
  exact ⟨rfl, HBB.out⟩

set_option maxRecDepth 100000 in
set_option maxHeartbeats 4000000 in
theorem refBatches_bad (a : Nat → Addr) (B : Nat) (x y sz : Int) (w : World) (hE0 : Env B a w) (h0 : 0 ≤ x) (h1 : x < 18446744073709551616) (h2 : 0 ≤ y) (h3 : y < 18446744073709551616) (h4 : 0 ≤ sz) (h5 : sz < 18446744073709551616) (h : 9223372036854775808 < sz ∨ sz < y ∨ y ≤ x) :
    Calls Tryz.prog 4 #[.int .u64 x, .int .u64 y, .int .u64 sz] w fun ev w' => ev = .returned (.bool true) ∧ Below w.heap.size w w' := by
  have hE := Lib.hid hE0
  have HH := Lib.hid h
  clear hE0 h

  go_enter Tryz.func4, Tryz.ntmps4
  go_wp2_with fail
  refine (batch_fail a B x y sz _ (Env.laid (by (repeat (first | exact hE.out | (refine Env.step ?_ (by assumption)) | (refine Env.alloc ?_ _))))) h0 h1 h2 h3 h4 h5 HH.out).mono ?_
  rintro ev w1 ⟨rfl, b1⟩
  have hs1 := b1.size
  go_wp2_with fail
  refine (batch_fail a B x y sz _ (Env.laid (by (repeat (first | exact hE.out | (refine Env.step ?_ (by assumption)) | (refine Env.alloc ?_ _))))) h0 h1 h2 h3 h4 h5 HH.out).mono ?_
  rintro ev w2 ⟨rfl, b2⟩
  have hs2 := b2.size
  go_wp2_with fail
  refine (refBatch_fail x y sz _ h0 h1 h2 h3 h4 h5 HH.out).mono ?_
  rintro ev w3 ⟨rfl, b3⟩
  have hs3 := b3.size
  have hE3 := Lib.hid (show Env B a w3 from (by (repeat (first | exact hE.out | (refine Env.step ?_ (by assumption)) | (refine Env.alloc ?_ _)))))
  have HB := Lib.hid (show Gr w w3 from (by (repeat (first | exact Gr.refl _ | (refine Gr.step ?_ (by assumption)) | (refine Gr.alloc ?_ _) | (refine Gr.drew ?_) | (refine Gr.drewN ?_ _)))))
  clear b1 b2 b3
  go_wp2_with fail
  refine (spans_any a B w.heap.size [] (errV a 5) 5 (-1) _ _ _ _ (hE3.out.alloc _) (by simp) (by simp; omega) (fun w' h => same_sent a B 5 w' h (by omega) (by omega)) (World.ownsRow_nil _ _ _ _) (World.ownsRow_nil _ _ _ _) (rd_own (World.ownsRow_nil _ w.heap.size 70 2)) (.inl rfl)).mono ?_
  rintro ev w4 ⟨rfl, b4⟩
  have HBB : Hid (Below w.heap.size w w4) := Lib.hid ((HB.out.alloc _).trans b4)
  clear b4
  go_wp2
  go_ret
  exact ⟨rfl, HBB.out⟩

end Go.Proofs.YtnddjadjmgfgnaaGreatDoor
