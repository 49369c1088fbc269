/- ref04.table, ref04.start. -/
import Derived.Test.YtchfbdbgmlcfiaaGreatDoorHashAny
import Derived.Test.YtchfbdbgmlcfiaaGreatDoorRefBlock
import Derived.Great.BuildSlice
namespace Go.Proofs.YtchfbdbgmlcfiaaGreatDoor
open Go.ChangeShapes Go.WideShapes Go.ChangeAt Go.RowKit
set_option linter.unusedVariables false
set_option maxRecDepth 100000 in
set_option maxHeartbeats 4000000 in
theorem start_any (w : World) :
    Calls Tryz.prog 169 #[] w fun ev w' => ev = .returned (.agg (intsV shaH0)) ∧ Below w.heap.size w w' := by
  go_enter Tryz.func169, Tryz.ntmps169
  go_wp2_with fail
  refine bodyPost_ret (v := .agg (intsV shaH0)) (results_cell_row rfl _ _ w.heap.size 264 (intsV shaH0) (0, 0) _ rfl (heap_alloc_new _ _) Tryz.underlying264 rfl (by kernel_rfl)) rfl ⟨rfl, (Below.refl _ _).alloc (Nat.le_refl _) _⟩
theorem shaK_len : shaK.length = 64 := rfl
set_option maxRecDepth 100000 in
set_option maxHeartbeats 4000000 in
theorem table_any (w : World) :
    Calls Tryz.prog 168 #[] w fun ev w' => ev = .returned (.agg (intsV shaK)) ∧ Below w.heap.size w w' := by
  have hP : (Tryz.prog.info? 261).map (·.size) = some 1 := by kernel_rfl
  have hZ : ((Tryz.prog.info? 262).bind (·.zero)).map (·.cells.size) = some shaK.length := by rw [shaK_len]; kernel_rfl
  have hI0 : (Tryz.prog.info? 262).map (·.size) = some (intsV shaK).size := by rw [intsV_size, shaK_len]; kernel_rfl
  have HX := Lib.hid (And.intro hP (And.intro hZ hI0))
  have ho := intsV_one shaK
  have hl := shaK_len
  have hsz := intsV_size shaK
  have HO := Lib.hid ho
  have hBa : Hid (Below w.heap.size w (w.alloc (.cells (List.replicate 64 (Value.int .u32 0)).toArray 262))) := Lib.hid ((Below.refl _ _).alloc (Nat.le_refl _) _)
  have hRa : Hid (IRow (w.alloc (.cells (List.replicate 64 (Value.int .u32 0)).toArray 262)) w.heap.size .u32 262 (List.replicate 64 0)) := Lib.hid (irow_new _ _ _ _ (by simp))
  obtain ⟨wa, hwa⟩ : ∃ wa, w.alloc (.cells (List.replicate 64 (Value.int .u32 0)).toArray 262) = wa := ⟨_, rfl⟩
  rw [hwa] at hBa hRa
  simp only [List.replicate, List.toArray] at hwa
  have HS : Hid (((List.replicate 64 (0 : Int)).map (Value.int .u32)).toArray.size = (intsV shaK).size) := Lib.hid (by rw [hsz, hl]; simp)
  clear hP hZ hI0 ho hl hsz
  go_enter Tryz.func168, Tryz.ntmps168
  go_wp2_with (first | (refine wpList_buildFlatArrTo rfl 262 261 64 _ rfl .u32 shaK _ rfl Tryz.underlying262 HX.out.1 HX.out.2.1 rfl ?_) | (refine wpList_store_row rfl 262 _ _ rfl w.heap.size (intsV shaK) rfl rfl 262 _ hRa.out HX.out.2.2 HS.out HO.out ?_))
  refine bodyPost_ret (v := .agg (intsV shaK)) (results_cell_row rfl _ _ w.heap.size 262 (intsV shaK) (0, 0) _ rfl (setRow_heap _ _ _ _ _ _ hRa.out) Tryz.underlying262 rfl HX.out.2.2) rfl ⟨rfl, below_setRow hBa.out _ _ (Nat.le_refl _)⟩
end Go.Proofs.YtchfbdbgmlcfiaaGreatDoor
