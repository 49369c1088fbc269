/- What a log that is not there answers; closed facts on five leaves. Condition: the package-level variables read as listed. -/
import Derived.Test.YtmfngcnmacjbfaaDoorBuildRows
import Derived.Test.YtmfngcnmacjbfaaDoorNaiveLives
namespace Go.Proofs.YtmfngcnmacjbfaaDoor
open Go.ChangeShapes Go.WideShapes Go.ChangeAt Go.RowKit
set_option linter.unusedVariables false
set_option maxRecDepth 100000 in
theorem append_nil (a : Nat → Addr) (B : Nat) (s : ByteArray) (w : World) (hE : Env B a w) :
    Calls Tryd.prog 51 #[.pointer none, .string s] w fun ev w' => ev = .returned (.tuple #[.int .u64 0, errV a 1]) ∧ Below w.heap.size w w' := by
  have he := hE.laid.e1
  clear hE
  go_enter Tryd.func51, Tryd.ntmps51
  go_wp2
  go_quiet (fail)
  go_wp2
  refine bodyPost_ret (v := .tuple #[.int .u64 0, errV a 1]) (by simp [results, Tryd.results51, go_sem, errV]) rfl ⟨rfl, ?_⟩
  exact below_drewN (Below.refl _ _)
set_option maxRecDepth 100000 in
set_option maxHeartbeats 4000000 in
theorem tree_nil (a : Nat → Addr) (B b0 : Nat) (b e : Int) (w : World) (hE : Env B a w) (h1 : w.cell? ⟨b0, 1, none⟩ = some (.bool false)) :
    Calls Tryd.prog 26 #[.pointer (some ⟨b0, 0, none⟩), .agg #[.int .u64 b, .int .u64 e]] w fun ev w' => ev = .returned (.tuple #[hv zeroH, errV a 1]) ∧ Below w.heap.size w w' := by
  have hE' := Lib.hid hE
  have hb0 := block_of_cell h1
  obtain ⟨zv, ez, RZ, HZS, HZI, HZO⟩ := row_of zeroH zeroH_length
  have HZV : Hid (zv = #[.int .u8 0, .int .u8 0, .int .u8 0, .int .u8 0, .int .u8 0, .int .u8 0, .int .u8 0, .int .u8 0, .int .u8 0, .int .u8 0, .int .u8 0, .int .u8 0, .int .u8 0, .int .u8 0, .int .u8 0, .int .u8 0, .int .u8 0, .int .u8 0, .int .u8 0, .int .u8 0, .int .u8 0, .int .u8 0, .int .u8 0, .int .u8 0, .int .u8 0, .int .u8 0, .int .u8 0, .int .u8 0, .int .u8 0, .int .u8 0, .int .u8 0, .int .u8 0]) := Lib.hid (by rw [zeroH_v] at ez; cases ez; rfl)
  rw [ez]
  clear ez
  obtain ⟨wv, hwv⟩ : ∃ wv, ((w.alloc (.cells #[.pointer (some ⟨b0, 0, none⟩)] 53)).alloc (.cells #[.int .u64 b, .int .u64 e] 50)).alloc (.cells (List.replicate 32 (Value.int .u8 0)).toArray 29) = wv := ⟨_, rfl⟩
  have HBv : Hid (Gr w wv) := Lib.hid (by rw [← hwv]; exact (((Below.refl _ _).alloc (Nat.le_refl _) _).alloc (by simp) _).alloc (by simp; omega) _)
  have HRv : Hid (wv.heap[w.heap.size + 1 + 1]? = some (.cells (List.replicate 32 (Value.int .u8 0)).toArray 29 (0, 0))) := Lib.hid (by rw [← hwv]; exact heap_at _ _ _ (by simp))
  have r0 : wv.heap[w.heap.size]? = some (.cells #[.pointer (some ⟨b0, 0, none⟩)] 53 (0, 0)) := by
    rw [← hwv, (((Below.refl _ _).alloc (Nat.le_refl _) _).alloc (by simp) _).block w.heap.size (by simp)]; exact heap_at _ _ _ rfl
  have p0 : wv.cell? ⟨w.heap.size, 0, none⟩ = some (.pointer (some ⟨b0, 0, none⟩)) := by rw [cell_of_row wv w.heap.size 0 _ 53 (0, 0) r0]; rfl
  have q1 := cell_below HBv.out h1 hb0
  have bq : Gr w wv := HBv.out
  have HWV := Lib.hid hwv
  simp only [List.replicate, List.toArray] at HWV
  clear hE h1 hb0 hwv r0
  go_enter Tryd.func26, Tryd.ntmps26
  go_upto_region 1 with fail
  rw [HWV.out]
  go_wp2_with fail
  refine wp_region_held_drew (S := Gr w) (by kernel_rfl) (Gr.drew bq) (fun hHeld => ?_)
  refine wpAnyH_take (i := 0) (v := _) rfl (by kernel_rfl) (by kernel_rfl) (by kernel_rfl) (fun _ _ _ h => h) (show YieldsIf _ _ _ _ (.agg zv) _ from .inl ⟨by rfl, fun w h => by rw [HZV.out]; kernel_rfl⟩) (by assumption) ?_
  try simp only [Act.put, List.getElem_toArray, List.getElem_cons_zero, List.setIfInBounds_toArray, List.set_cons_zero, List.set_cons_succ]
  refine wpAnyH_take (i := 1) (v := ?tv2) rfl (by kernel_rfl) (by kernel_rfl) (by kernel_rfl) (fun _ _ _ h => h) (Or.inl ⟨by rfl, ?ty2⟩) (by assumption) ?tr2
  case ty2 => (intro w hSw; (try dsimp only at hSw); have q9 := cell_below hSw (hE'.out.laid.e1) (block_of_cell hE'.out.laid.e1); go_simp; (try with_reducible rfl))
  try simp only [Act.put, List.getElem_toArray, List.getElem_cons_zero, List.getElem_cons_succ, List.setIfInBounds_toArray, List.set_cons_zero, List.set_cons_succ]
  refine wpAnyH_ready (rs := [2]) (by kernel_rfl) (by simp) ?_
  refine AllReadyH.cons (i := 2) rfl (fun K2 hK2 => ?_) AllReadyH.nil
  rw [if_pos (by rfl)]
  refine wp_store_row 29 _ _ rfl (w.heap.size + 1 + 1) zv rfl rfl 29 _ (HRv.out) HZI.out (by rw [HZS.out]; simp) HZO.out ?_
  refine hK2.out _ _ (show Gr w _ from below_setRow (show Gr w wv.drew from (by repeat (first | exact Gr.refl _ | (refine Gr.step ?_ (by assumption)) | (refine Gr.alloc ?_ _) | (refine Gr.drew ?_)))) _ _ (by omega)) (fun hHeld2 => ?_)
  clear hK2 K2
  try simp only [Act.put, List.getElem_toArray, List.getElem_cons_zero, List.getElem_cons_succ]
  refine wpAnyH_take (i := 3) (v := ?tv3) rfl (by kernel_rfl) (by kernel_rfl) (by kernel_rfl) (fun _ _ _ h => h) (Or.inl ⟨by rfl, ?ty3⟩) (by assumption) ?tr3
  case ty3 => (intro w hSw; (try dsimp only at hSw); go_simp; (try with_reducible rfl))
  try simp only [Act.put, List.getElem_toArray, List.getElem_cons_zero, List.getElem_cons_succ, List.setIfInBounds_toArray, List.set_cons_zero, List.set_cons_succ]
  refine wpAnyH_done (by kernel_rfl) ?_ _
  go_wp2
  refine bodyPost_ret (v := .tuple #[.agg zv, errV a 1]) (results_row_tmp rfl _ _ (w.heap.size + 1 + 1) 29 zv (0, 0) _ rfl (setRow_heap wv.drew _ _ _ _ _ HRv.out) Tryd.underlying29 rfl HZI.out _ rfl) rfl ⟨rfl, hHeld2⟩
set_option maxRecDepth 100000 in
set_option maxHeartbeats 2000000 in
theorem lroot_nil (a : Nat → Addr) (B b0 : Nat) (sz : Int) (w : World) (hE : Env B a w) (h1 : w.cell? ⟨b0, 1, none⟩ = some (.bool false)) :
    Calls Tryd.prog 37 #[.pointer (some ⟨b0, 0, none⟩), .int .u64 sz] w fun ev w' => ev = .returned (.tuple #[hv zeroH, errV a 1]) ∧ Below w.heap.size w w' := by
  have hBa : Hid (Below w.heap.size w (w.alloc (.cells (List.replicate 32 (Value.int .u8 0)).toArray 29))) := Lib.hid ((Below.refl _ _).alloc (Nat.le_refl _) _)
  have HG := Lib.hid (heap_at w (.cells (List.replicate 32 (Value.int .u8 0)).toArray 29) w.heap.size rfl)
  have hsw : w.heap.size < (w.alloc (.cells (List.replicate 32 (Value.int .u8 0)).toArray 29)).heap.size := by simp
  obtain ⟨wa, hwa⟩ : ∃ wa, w.alloc (.cells (List.replicate 32 (Value.int .u8 0)).toArray 29) = wa := ⟨_, rfl⟩
  rw [hwa] at hBa HG hsw
  have hst := tree_nil a B b0 0 sz wa (hE.step hBa.out) (cell_below hBa.out h1 (block_of_cell h1))
  have HWA := Lib.hid hwa
  simp only [List.replicate, List.toArray] at HWA
  obtain ⟨vx, evx, EX, ZX, IX, OX⟩ := row_of zeroH zeroH_length
  rw [evx] at hst ⊢
  have HST := Lib.hid hst
  clear hE h1 hwa hst evx
  go_enter Tryd.func37, Tryd.ntmps37
  go_upto_region 1 with fail
  rw [HWA.out]
  go_wp2_with fail
  refine HST.out.mono ?_
  rintro ev w1 ⟨rfl, hb⟩
  have HG1 := Lib.hid ((hb.block _ hsw).trans HG.out)
  have HB := Lib.hid hb
  clear hb
  unfold errV
  go_wp2_with (refine wpList_store_row rfl 29 _ _ rfl w.heap.size vx rfl rfl 29 _ HG1.out IX.out (by rw [ZX.out]; simp) OX.out ?_)
  refine bodyPost_ret (v := .tuple #[.agg vx, errV a 1]) (results_row_tmp rfl _ _ w.heap.size 29 vx (0, 0) _ rfl (setRow_heap _ _ _ _ _ _ HG1.out) Tryd.underlying29 rfl IX.out _ rfl) rfl ⟨rfl, ?_⟩
  exact below_setRow (hBa.out.trans (HB.out.mono (by omega))) _ _ (by omega)
def l5 : List ByteArray := [⟨#[97]⟩, ⟨#[98]⟩, ⟨#[99]⟩, ⟨#[100]⟩, ⟨#[101]⟩]
theorem l5_kept : keptL l5 = l5 := by unfold keptL; rfl
theorem l5_proofs : proofL 64 3 0 5 = [(2, 3), (3, 4), (0, 2), (4, 5)] := by decide +kernel
theorem l5_batches : batchL 64 1 3 0 5 = [(0, 1), (3, 4), (4, 5)] := by decide +kernel
theorem treeB_one (L : List ByteArray) (i : Nat) (s : ByteArray) (h : L[i]? = some s) : treeB L i (i + 1) = leafH s := by
  unfold treeB
  rw [if_neg (by omega), treeT_leaf nodeH _ _ _ (by omega)]
  unfold leafG
  rw [List.getD_eq_getElem?_getD, Int.toNat_natCast, h]; rfl
theorem l5_02 : treeB l5 0 2 = nodeH (leafH ⟨#[97]⟩) (leafH ⟨#[98]⟩) := by
  have hk : blwI (2 - 0) = 1 := by decide +kernel
  unfold treeB
  rw [if_neg (by omega), treeT_node nodeH _ 0 2 (by omega) (by rw [pow2_64]; omega), hk, treeT_leaf nodeH _ 0 (0 + 1) (by omega), treeT_leaf nodeH _ (0 + 1) 2 (by omega)]
  rfl
theorem l5_proof : treesB l5 (proofL 64 3 0 5) = [leafH ⟨#[99]⟩, leafH ⟨#[100]⟩, nodeH (leafH ⟨#[97]⟩) (leafH ⟨#[98]⟩), leafH ⟨#[101]⟩] := by
  rw [l5_proofs]
  unfold treesB
  rw [List.map_cons, List.map_cons, List.map_cons, List.map_cons, List.map_nil]
  rw [show treeB l5 2 3 = _ from treeB_one l5 2 ⟨#[99]⟩ rfl, show treeB l5 3 4 = _ from treeB_one l5 3 ⟨#[100]⟩ rfl, l5_02, show treeB l5 4 5 = _ from treeB_one l5 4 ⟨#[101]⟩ rfl]
theorem l5_batch : treesB l5 (batchL 64 1 3 0 5) = [leafH ⟨#[97]⟩, leafH ⟨#[100]⟩, leafH ⟨#[101]⟩] := by
  rw [l5_batches]
  unfold treesB
  rw [List.map_cons, List.map_cons, List.map_cons, List.map_nil]
  rw [show treeB l5 0 1 = _ from treeB_one l5 0 ⟨#[97]⟩ rfl, show treeB l5 3 4 = _ from treeB_one l5 3 ⟨#[100]⟩ rfl, show treeB l5 4 5 = _ from treeB_one l5 4 ⟨#[101]⟩ rfl]
end Go.Proofs.YtmfngcnmacjbfaaDoor
