/- cartularylaw07: span, alive. Condition: the package-level variables read as listed. -/
import Derived.Test.YtnddjadjmgfgnaaDoorShapeBatch
import Derived.Test.YtnddjadjmgfgnaaDoorShapeProof
import Derived.Test.YtnddjadjmgfgnaaDoorCover
import Derived.Test.YtnddjadjmgfgnaaDoorLawErrs
import Derived.Test.YtnddjadjmgfgnaaDoorSameLists
namespace Go.Proofs.YtnddjadjmgfgnaaDoor
open Go.ChangeShapes Go.WideShapes Go.ChangeAt Go.RowKit
set_option linter.unusedVariables false
/-- what the listed variables give, and the table -/
structure Env (B : Nat) (a : Nat → Addr) (w : World) : Prop where
  laid : Laid B a w
  tab : TzTab w
theorem Env.step {B : Nat} {a : Nat → Addr} {w w' : World} (h : Env B a w) (hb : Below w.heap.size w w') : Env B a w' :=
  ⟨h.laid.below (hb.mono h.laid.size), h.tab.below hb (Nat.le_trans h.laid.low h.laid.size)⟩
theorem Env.alloc {B : Nat} {a : Nat → Addr} {w : World} (h : Env B a w) (o : Obj) : Env B a (w.alloc o) := h.step ((Below.refl _ _).alloc (Nat.le_refl _) _)
theorem peaks_ok (a : Nat → Addr) (B : Nat) (sz : Int) (w : World) (hE : Env B a w) (h0 : 0 ≤ sz) (h2 : sz ≤ 9223372036854775808) :
    Calls Tryd.prog 16 #[.int .u64 sz] w (ListPost 48 2 w (coverL 128 0 sz.toNat).length (coordCells (coverL 128 0 sz.toNat))) := by
  have HE := Lib.hid hE
  clear hE
  go_enter Tryd.func16, Tryd.ntmps16
  go_wp2_with fail
  refine (cover_ok 0 _ _ HE.out.tab (Nat.le_trans HE.out.laid.low HE.out.laid.size) (by omega) (by omega) (by omega)).mono ?_
  rintro ev w1 ⟨v, rfl, hown, hb⟩
  go_wp2
  refine bodyPost_ret (v := .tuple #[v, .nilIface]) (by simp [results, Tryd.results16, go_sem]) rfl ⟨v, rfl, hown, hb⟩
theorem peaks_fail (a : Nat → Addr) (B : Nat) (sz : Int) (w : World) (hE : Env B a w) (h0 : 9223372036854775808 < sz) (h2 : sz < 18446744073709551616) :
    Calls Tryd.prog 16 #[.int .u64 sz] w (FailPost (errV a 5) w) := by
  have he := hE.laid.e5
  have hlo := hE.laid.low
  have hsz := hE.laid.size
  have hg : 0 < w.heap.size := block_of_cell he
  clear hE
  go_enter Tryd.func16, Tryd.ntmps16
  go_wp2
  go_quiet (fail)
  go_wp2
  refine bodyPost_ret (v := .tuple #[.slice none 0 0, errV a 5]) (by simp [results, Tryd.results16, go_sem, errV]) rfl ⟨rfl, ?_⟩
  repeat (first | exact Below.refl _ _ | (refine below_drewN ?_) | (refine Below.drew ?_) | (refine Below.alloc ?_ (by simp; try omega) _))
theorem span_any (b e : Int) (w : World) :
    Calls Tryd.prog 12 #[.int .u64 b, .int .u64 e] w fun ev w' => ev = .returned (.agg #[.int .u64 b, .int .u64 e]) ∧ Below w.heap.size w w' := by
  go_enter Tryd.func12, Tryd.ntmps12
  go_wp2
  refine bodyPost_ret (v := .agg #[.int .u64 b, .int .u64 e]) (by simp [results, Tryd.results12, go_sem]) rfl ⟨rfl, ?_⟩
  repeat (first | exact Below.refl _ _ | (refine Below.drew ?_) | (refine Below.alloc ?_ (by simp; try omega) _) | (refine Below.setCell ?_ (by simp; try omega) _))
theorem p03 : pathL 64 0 0 3 = [(1, 2), (2, 3)] := by decide +kernel
theorem q35 : proofL 64 3 0 5 = [(2, 3), (3, 4), (0, 2), (4, 5)] := by decide +kernel
theorem r135 : batchL 64 1 3 0 5 = [(0, 1), (3, 4), (4, 5)] := by decide +kernel
theorem s7 : coverL 128 0 (Int.toNat 7) = [(2, 0), (1, 2), (0, 6)] := by decide +kernel
theorem path_03 (w : World) : Calls Tryd.prog 13 #[.int .u64 0, .int .u64 3] w (ListPost 32 2 w 2 (spanCells [(1, 2), (2, 3)])) := by
  have h := path_ok 0 3 w (by omega) (by omega) (by omega)
  rw [p03] at h; exact h
theorem proof_35 (w : World) : Calls Tryd.prog 15 #[.int .u64 3, .int .u64 5] w (ListPost 32 2 w 4 (spanCells [(2, 3), (3, 4), (0, 2), (4, 5)])) := by
  have h := proof_ok 3 5 w (by omega) (by omega) (by omega)
  rw [q35] at h; exact h
theorem batch_135 (w : World) : Calls Tryd.prog 7 #[.int .u64 1, .int .u64 3, .int .u64 5] w (ListPost 32 2 w 3 (spanCells [(0, 1), (3, 4), (4, 5)])) := by
  have h := batch_ok 1 3 5 w (by omega) (by omega) (by omega) (by omega)
  rw [r135] at h; exact h
theorem peaks_7 (a : Nat → Addr) (B : Nat) (w : World) (hE : Env B a w) : Calls Tryd.prog 16 #[.int .u64 7] w (ListPost 48 2 w 3 (coordCells [(2, 0), (1, 2), (0, 6)])) := by
  have h := peaks_ok a B 7 w hE (by omega) (by omega)
  rw [s7] at h; exact h
set_option maxRecDepth 100000 in
set_option maxHeartbeats 4000000 in
theorem alive_any (a : Nat → Addr) (B : Nat) (w : World) (hE0 : Env B a w) :
    Calls Tryd.prog 8 #[] w fun ev w' => ev = .returned (.bool true) ∧ Below w.heap.size w w' := by
  have hE := Lib.hid hE0
  clear hE0
  go_enter Tryd.func8, Tryd.ntmps8
  go_wp2_with fail
  refine (path_03 _).mono ?_
  rintro ev w1 ⟨v1, rfl, o1, b1⟩
  go_wp2_with fail
  refine (proof_35 _).mono ?_
  rintro ev w2 ⟨v2, rfl, o2, b2⟩
  go_wp2_with fail
  refine (batch_135 _).mono ?_
  rintro ev w3 ⟨v3, rfl, o3, b3⟩
  go_wp2_with fail
  refine (peaks_7 a B _ (by (repeat (first | exact hE.out | (refine Env.step ?_ (by assumption)) | (refine Env.alloc ?_ _))))).mono ?_
  rintro ev w4 ⟨v4, rfl, o4, b4⟩
  go_wp2_with fail
  refine (path_fail a B 3 3 _ (Env.laid (by (repeat (first | exact hE.out | (refine Env.step ?_ (by assumption)) | (refine Env.alloc ?_ _))))) (by omega) (by omega) (by omega) (by omega) (by omega)).mono ?_
  rintro ev w5 ⟨rfl, b5⟩
  have O1 := Lib.hid (rd_own o1)
  have O2 := Lib.hid (rd_own o2)
  have O3 := Lib.hid (rd_own o3)
  have O4 := Lib.hid (rd_own o4)
  clear o1 o2 o3 o4
  unfold errV
  go_wp2_with fail
  refine (is_sent a B 5 _ (Env.laid (by (repeat (first | exact hE.out | (refine Env.step ?_ (by assumption)) | (refine Env.alloc ?_ _))))) (by omega) (by omega)).mono ?_
  rintro ev w6 ⟨rfl, b6⟩
  go_wp2_with (go_at_call 12; refine (span_any _ _ _).mono ?_; rintro ev w' ⟨rfl, hb⟩)
  refine (same_spans [(1, 2), (2, 3)] _ _ _ (by simp) (by (repeat (first | exact O1.out | exact rd_new _ _ _ _ _ rfl | (refine Rd.below ?_ (by assumption)) | (refine Rd.alloc ?_ _)))) (by (repeat (first | exact O1.out | exact rd_new _ _ _ _ _ rfl | (refine Rd.below ?_ (by assumption)) | (refine Rd.alloc ?_ _))))).mono ?_
  rintro ev w7 ⟨rfl, b7⟩
  go_wp2_with (go_at_call 12; refine (span_any _ _ _).mono ?_; rintro ev w' ⟨rfl, hb⟩)
  refine (same_spans [(2, 3), (3, 4), (0, 2), (4, 5)] _ _ _ (by simp) (by (repeat (first | exact O2.out | exact rd_new _ _ _ _ _ rfl | (refine Rd.below ?_ (by assumption)) | (refine Rd.alloc ?_ _)))) (by (repeat (first | exact O2.out | exact rd_new _ _ _ _ _ rfl | (refine Rd.below ?_ (by assumption)) | (refine Rd.alloc ?_ _))))).mono ?_
  rintro ev w8 ⟨rfl, b8⟩
  go_wp2_with (go_at_call 12; refine (span_any _ _ _).mono ?_; rintro ev w' ⟨rfl, hb⟩)
  refine (same_spans [(0, 1), (3, 4), (4, 5)] _ _ _ (by simp) (by (repeat (first | exact O3.out | exact rd_new _ _ _ _ _ rfl | (refine Rd.below ?_ (by assumption)) | (refine Rd.alloc ?_ _)))) (by (repeat (first | exact O3.out | exact rd_new _ _ _ _ _ rfl | (refine Rd.below ?_ (by assumption)) | (refine Rd.alloc ?_ _))))).mono ?_
  rintro ev w9 ⟨rfl, b9⟩
  go_wp2_with fail
  refine (same_coords [(2, 0), (1, 2), (0, 6)] _ _ _ (by simp) (by (repeat (first | exact O4.out | exact rd_new _ _ _ _ _ rfl | (refine Rd.below ?_ (by assumption)) | (refine Rd.alloc ?_ _)))) (by (repeat (first | exact O4.out | exact rd_new _ _ _ _ _ rfl | (refine Rd.below ?_ (by assumption)) | (refine Rd.alloc ?_ _))))).mono ?_
  rintro ev w10 ⟨rfl, b10⟩
  have HB : Hid (Gr w w10) := Lib.hid (by (repeat (first | exact Gr.refl _ | (refine Gr.step ?_ (by assumption)) | (refine Gr.alloc ?_ _) | (refine Gr.drew ?_) | (refine Gr.drewN ?_ _))))
  go_wp2
  go_ret
  exact ⟨rfl, HB.out⟩
end Go.Proofs.YtnddjadjmgfgnaaDoor
