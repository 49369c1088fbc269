/- batch.walk.says at one leaf of the stretch. -/
import Derived.Test.YtaekabhcgdjhfaaDoorBatchSays
import Derived.Test.YtaekabhcgdjhfaaDoorLen64
import Derived.StillTailTactics
namespace Go.Proofs.YtaekabhcgdjhfaaDoor
open Go.ChangeShapes Go.WideShapes Go.ChangeAt Go.RowKit
set_option linter.unusedVariables false
set_option maxRecDepth 100000 in
set_option maxHeartbeats 4000000 in
theorem bsays_leaf (W g o m cap t : Nat) (x b e : Int) (pv nt : Value) (p : List UInt8) (w : World) (hW : WalkAt w W x (.slice (some ⟨g, o, none⟩) m cap) pv nt) (hx0 : 0 ≤ x) (hb : b = x + t) (he : b < e) (hem : e ≤ 9223372036854775808) (he2 : e - b < 2)
    (htm : t < m) (hc : m ≤ cap) (hcm : cap ≤ 9223372036854775807) (hp : p.length = 32) (hr : w.rangeAt g (o + t * 32) (bytesV p)) (hgW : g ≠ W) :
    Calls Tryd.prog 62 #[.pointer (some ⟨W, 0, none⟩), .agg #[.int .u64 b, .int .u64 e]] w fun ev w' => ev = .returned (hv p) ∧ Below w.heap.size w w' := by
  have c0 : w.cell? ⟨W, 0, none⟩ = some (.int .u64 x) := by rw [cell_of_row w W 0 _ 136 (0, 0) hW]; rfl
  have c2 : w.cell? ⟨W, 1, none⟩ = some (.slice (some ⟨g, o, none⟩) m cap) := by rw [cell_of_row w W 1 _ 136 (0, 0) hW]; rfl
  have hWl : W < w.heap.size := (Array.getElem?_eq_some_iff.1 hW).1
  have hd : decide (e ≤ x) = false := by simp; omega
  have hd2 : decide (x + (m : Int) ≤ b) = false := by simp; omega
  have hm8 : (m : Int) < 18446744073709551616 := by omega
  have hm9 : x + (m : Int) < 18446744073709551616 := by omega
  have hbt : b - x = (t : Int) := by omega
  have hb0 : 0 ≤ b := by omega
  have hxb : x ≤ b := by omega
  have hwt : IntKind.u64.wrap (t : Int) = (t : Int) := IntWalk.u64_in _ (by omega)
  have hbe : b ≤ e := by omega
  have htm' : (t : Int) < m := by omega
  have hgl := rangeAt_lt hr (by intro q; have := congrArg List.length q; rw [bytesV_length, hp] at this; simp at this)
  obtain ⟨ps, hps⟩ : ∃ ps, bytesV p = ps := ⟨_, rfl⟩
  have kr : Hid (∀ w', Below w.heap.size w w' → w'.rangeAt g (o + t * 32) ps) := Lib.hid (fun w' hb => by rw [← hps]; exact rangeAt_below hb hr hgl)
  have hpl : ps.length = 32 := by rw [← hps, bytesV_length, hp]
  have HI := Lib.hid (show (Tryd.prog.info? 34).map (·.size) = some ps.length by rw [hpl]; kernel_rfl)
  have HI2 := Lib.hid (show (Tryd.prog.info? 34).map (·.size) = some ps.toArray.size by simp only [List.size_toArray, hpl]; kernel_rfl)
  have HO := Lib.hid (show ps.toArray.all (·.oneCell') = true by rw [← hps]; exact bytesV_all _)
  have HZ := Lib.hid (show ps.toArray.size = 32 by simp [hpl])
  have HPS := Lib.hid hps
  have HHH := Lib.hid (And.intro hb (And.intro he (And.intro he2 htm)))
  have hbx : (Tryd.prog.info? 82).map (·.size) = some 2 := by kernel_rfl
  obtain ⟨wv, hwv⟩ : ∃ wv, (w.alloc (.cells #[.int .u64 b, .int .u64 e] 82)).alloc (.cells (List.replicate 32 (Value.int .u8 0)).toArray 34) = wv := ⟨_, rfl⟩
  have hBv : Below w.heap.size w wv := by rw [← hwv]; exact ((Below.refl _ _).alloc (Nat.le_refl _) _).alloc (by simp) _
  have hsv : wv.heap.size = w.heap.size + 1 + 1 := by rw [← hwv]; simp
  have hzv : wv.heap[w.heap.size + 1]? = some (.cells (List.replicate 32 (Value.int .u8 0)).toArray 34 (0, 0)) := by rw [← hwv]; exact heap_at _ _ _ (by simp)
  have hsp : wv.heap[w.heap.size]? = some (.cells #[.int .u64 b, .int .u64 e] 82 (0, 0)) := by rw [← hwv, ((Below.refl _ (w.alloc (.cells #[.int .u64 b, .int .u64 e] 82))).alloc (Nat.le_refl _) _).block _ (by simp)]; exact heap_at _ _ _ rfl
  have s0 : wv.cell? ⟨w.heap.size, 0, none⟩ = some (.int .u64 b) := by rw [cell_of_row wv w.heap.size 0 _ 82 (0, 0) hsp]; rfl
  have s1 : wv.cell? ⟨w.heap.size, 1, none⟩ = some (.int .u64 e) := by rw [cell_of_row wv w.heap.size 1 _ 82 (0, 0) hsp]; rfl
  have v0 := cell_below hBv c0 hWl
  have v2 := cell_below hBv c2 hWl
  have HBv := Lib.hid hBv
  have HWV := Lib.hid (show (w.alloc (.cells #[.int .u64 b, .int .u64 e] 82)).alloc (.cells (List.replicate 32 (Value.int .u8 0)).toArray 34) = wv from hwv)
  simp only [List.replicate, List.toArray] at HWV
  have HSV := Lib.hid hsv
  have HZV := Lib.hid hzv
  clear hW hr hp hps hpl hb he he2 htm hwv hBv hsv hzv hsp c0 c2
  have hWv : W < wv.heap.size := by have := HBv.out.size; omega
  have hsw : w.heap.size < wv.heap.size := by have := HSV.out; omega
  go_enter Tryd.func62, Tryd.ntmps62
  go_wp2_with fail
  rw [HWV.out]
  go_quiet (fail)
  obtain ⟨wq, hwq⟩ : ∃ wq, wv.drewN nq = wq := ⟨_, rfl⟩
  have q0 : wq.cell? ⟨W, 0, none⟩ = some (.int .u64 x) := by rw [← hwq]; exact v0
  have q1 : wq.cell? ⟨W, 1, none⟩ = some (.slice (some ⟨g, o, none⟩) m cap) := by rw [← hwq]; exact v2
  have q2 : wq.cell? ⟨w.heap.size, 0, none⟩ = some (.int .u64 b) := by rw [← hwq]; exact s0
  have q3 : wq.cell? ⟨w.heap.size, 1, none⟩ = some (.int .u64 e) := by rw [← hwq]; exact s1
  have HBq : Hid (Below w.heap.size w wq) := Lib.hid (by rw [← hwq]; exact below_drewN HBv.out)
  have HZq : Hid (wq.heap[w.heap.size + 1]? = some (.cells (List.replicate 32 (Value.int .u8 0)).toArray 34 (0, 0))) := Lib.hid (by rw [← hwq]; exact HZV.out)
  have hWq : W < wq.heap.size := by rw [← hwq]; exact hWv
  have hsq : w.heap.size < wq.heap.size := by rw [← hwq]; exact hsw
  rw [hwq]
  clear hwq v0 v2 s0 s1
  go_wp2_with fail
  refine (split_no _ _ (by omega) (by omega) (.inl HHH.out.2.2.1)).mono ?_
  rintro ev w6 ⟨rfl, rfl⟩
  go_wp2_with fail
  go_still_tail 13, (by kernel_rfl)
  refine wpStill_load_mid rfl 34 _ rfl g (o + t * 32) rfl ps _ (kr.out _ (below_drewN (n := 1) HBq.out)) Tryd.underlying34 rfl HI.out ?_
  refine wpStill_nil ?_
  go_wp2_with (refine wpList_store_row rfl 34 _ _ rfl (w.heap.size + 1) ps.toArray rfl rfl 34 _ HZq.out HI2.out (by rw [HZ.out]; simp) HO.out ?_)
  refine bodyPost_ret (v := .agg ps.toArray) (results_cell_row rfl _ _ (w.heap.size + 1) 34 ps.toArray (0, 0) _ rfl (setRow_heap _ _ _ _ _ _ HZq.out) Tryd.underlying34 rfl HI2.out) rfl ⟨by rw [hv, HPS.out], ?_⟩
  exact below_setRow (below_drewN (n := 1) HBq.out) _ _ (by omega)
end Go.Proofs.YtaekabhcgdjhfaaDoor
