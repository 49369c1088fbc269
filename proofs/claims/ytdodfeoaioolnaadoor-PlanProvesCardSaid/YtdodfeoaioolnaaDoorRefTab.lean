/- ref04.table, ref04.start. -/
import Derived.Test.YtdodfeoaioolnaaDoorHashAny
import Derived.Test.YtdodfeoaioolnaaDoorRefBlock
import Derived.Great.BuildSlice
namespace Go.Proofs.YtdodfeoaioolnaaDoor
open Go.ChangeShapes Go.WideShapes Go.ChangeAt Go.RowKit
set_option linter.unusedVariables false
set_option maxRecDepth 100000 in
set_option maxHeartbeats 4000000 in
theorem start_any (w : World) :
    Calls Tryd.prog 70 #[] w fun ev w' => ev = .returned (.agg (intsV shaH0)) ∧ Below w.heap.size w w' := by
  go_enter Tryd.func70, Tryd.ntmps70
  go_wp2_with fail
  refine bodyPost_ret (v := .agg (intsV shaH0)) (results_cell_row rfl _ _ w.heap.size 126 (intsV shaH0) (0, 0) _ rfl (heap_alloc_new _ _) Tryd.underlying126 rfl (by kernel_rfl)) rfl ⟨rfl, (Below.refl _ _).alloc (Nat.le_refl _) _⟩
theorem shaK_len : shaK.length = 64 := rfl
set_option maxRecDepth 100000 in
set_option maxHeartbeats 4000000 in
theorem table_any (w : World) :
    Calls Tryd.prog 69 #[] w fun ev w' => ev = .returned (.agg (intsV shaK)) ∧ Below w.heap.size w w' := by
  have hP : (Tryd.prog.info? 123).map (·.size) = some 1 := by kernel_rfl
  have hZ : ((Tryd.prog.info? 124).bind (·.zero)).map (·.cells.size) = some shaK.length := by rw [shaK_len]; kernel_rfl
  have hI0 : (Tryd.prog.info? 124).map (·.size) = some (intsV shaK).size := by rw [intsV_size, shaK_len]; kernel_rfl
  have HX := Lib.hid (And.intro hP (And.intro hZ hI0))
  have ho := intsV_one shaK
  have hl := shaK_len
  have hsz := intsV_size shaK
  have HO := Lib.hid ho
  have hBa : Hid (Below w.heap.size w (w.alloc (.cells (List.replicate 64 (Value.int .u32 0)).toArray 124))) := Lib.hid ((Below.refl _ _).alloc (Nat.le_refl _) _)
  have hRa : Hid (IRow (w.alloc (.cells (List.replicate 64 (Value.int .u32 0)).toArray 124)) w.heap.size .u32 124 (List.replicate 64 0)) := Lib.hid (irow_new _ _ _ _ (by simp))
  obtain ⟨wa, hwa⟩ : ∃ wa, w.alloc (.cells (List.replicate 64 (Value.int .u32 0)).toArray 124) = wa := ⟨_, rfl⟩
  rw [hwa] at hBa hRa
  simp only [List.replicate, List.toArray] at hwa
  have HS : Hid (((List.replicate 64 (0 : Int)).map (Value.int .u32)).toArray.size = (intsV shaK).size) := Lib.hid (by rw [hsz, hl]; simp)
  clear hP hZ hI0 ho hl hsz
  go_enter Tryd.func69, Tryd.ntmps69
  go_wp2_with (first | (refine wpList_buildFlatArrTo rfl 124 123 64 _ rfl .u32 shaK _ rfl Tryd.underlying124 HX.out.1 HX.out.2.1 rfl ?_) | (refine wpList_store_row rfl 124 _ _ rfl w.heap.size (intsV shaK) rfl rfl 124 _ hRa.out HX.out.2.2 HS.out HO.out ?_))
  refine bodyPost_ret (v := .agg (intsV shaK)) (results_cell_row rfl _ _ w.heap.size 124 (intsV shaK) (0, 0) _ rfl (setRow_heap _ _ _ _ _ _ hRa.out) Tryd.underlying124 rfl HX.out.2.2) rfl ⟨rfl, below_setRow hBa.out _ _ (Nat.le_refl _)⟩
end Go.Proofs.YtdodfeoaioolnaaDoor
