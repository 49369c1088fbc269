/- cartularylaw15.half, mth: the hash of a stretch of hashes. Condition: the package-level variables read as listed. -/
import Derived.Test.YtdodfeoaioolnaaDoorPlanAlive
namespace Go.Proofs.YtdodfeoaioolnaaDoor
open Go.ChangeShapes Go.WideShapes Go.ChangeAt Go.RowKit
set_option linter.unusedVariables false
theorem half_any (n : Nat) (w : World) (h2 : 2 ≤ n) (hn : n ≤ 1000000) : Calls Tryd.prog 52 #[.int .i64 (n : Int)] w fun ev w' => ev = .returned (.int .i64 (blw n : Int)) ∧ w = w' := by
  obtain ⟨x, hx⟩ : ∃ x : Int, (n : Int) = x := ⟨_, rfl⟩
  rw [hx]
  have x1 : 2 ≤ x := by omega
  have x2 : x ≤ 1000000 := by omega
  have HX := Lib.hid hx
  clear hx h2 hn
  go_enter Tryd.func52, Tryd.ntmps52
  go_wp2
  go_loop [3] (fun i => ∃ (k : Int), 1 ≤ k ∧ k < x ∧ i = .int .i64 k ∧ Hid (∃ e : Nat, k = ((2 ^ e : Nat) : Int))) (fun i => (x - intOf i).toNat)
  case atStart => exact ⟨1, by omega, by omega, rfl, Lib.hid ⟨0, rfl⟩⟩
  case round =>
    obtain ⟨k, h1, hkx, rfl, HE⟩ := hrel
    by_cases hlt : k < x - k
    · have HE2 : Hid (∃ e : Nat, 2 * k = ((2 ^ e : Nat) : Int)) := Lib.hid (by obtain ⟨e, he⟩ := HE.out; exact ⟨e + 1, by rw [he, Nat.pow_succ]; omega⟩)
      go_wp2
      go_round
      case rel => exact ⟨2 * k, by omega, by omega, by go_num, HE2⟩
      case measure => simp [intOf]; omega
    · have HF : Hid (k = (blw n : Int)) := Lib.hid (by
        obtain ⟨e, he⟩ := HE.out
        have := blwI_eq (n := x) he hkx (by omega)
        rw [this, ← HX.out]
        unfold blwI
        rw [Int.toNat_natCast])
      go_wp2
      go_ret
      exact ⟨by rw [← HF.out]; rfl, rfl⟩
theorem hin_take {w : World} {A : Option Addr} {n c k : Nat} {l : List (List UInt8)} (h : HIn w A n c l) (hk : k ≤ n) : HIn w A k c (l.take k) := by
  obtain ⟨h1, h2, h3, h4, h5⟩ := h
  refine ⟨fun x hx => h1 x (List.mem_of_mem_take hx), by rw [List.length_take]; omega, by omega, h4, ?_⟩
  rcases h5 with rfl | ⟨g, o, rfl, h7⟩
  · exact .inl (by simp)
  · refine .inr ⟨g, o, rfl, fun j v hj => h7 j v ?_⟩
    have e : hashCells l = hashCells (l.take k) ++ hashCells (l.drop k) := by rw [← hashCells_append, List.take_append_drop]
    rw [e, List.getElem?_append_left (List.getElem?_eq_some_iff.1 hj).1]; exact hj
theorem hin_drop {w : World} {g o n c k : Nat} {l : List (List UInt8)} (h : HIn w (some ⟨g, o, none⟩) n c l) (hk : k ≤ n) : HIn w (some ⟨g, o + k * 32, none⟩) (n - k) (c - k) (l.drop k) := by
  obtain ⟨h1, h2, h3, h4, h5⟩ := h
  refine ⟨fun x hx => h1 x (List.mem_of_mem_drop hx), by rw [List.length_drop]; omega, by omega, by omega, ?_⟩
  rcases h5 with rfl | ⟨g', o', e, h7⟩
  · exact .inl (by simp)
  · simp only [Option.some.injEq, Addr.mk.injEq, and_true] at e
    obtain ⟨rfl, rfl⟩ := e
    refine .inr ⟨g, o + k * 32, rfl, fun j v hj => ?_⟩
    have h32 : H32 (l.take k) := fun x hx => h1 x (List.mem_of_mem_take hx)
    have hl : (hashCells (l.take k)).length = k * 32 := by rw [hashCells_length h32, List.length_take]; congr 1; omega
    have e : hashCells l = hashCells (l.take k) ++ hashCells (l.drop k) := by rw [← hashCells_append, List.take_append_drop]
    have := h7 (k * 32 + j) v (by rw [e, List.getElem?_append_right (by omega), hl, Nat.add_sub_cancel_left]; exact hj)
    rwa [show o + k * 32 + j = o + (k * 32 + j) by omega]
/-- a stretch of a list -/
def cut (L : List (List UInt8)) (b n : Nat) : List (List UInt8) := (L.drop b).take n
theorem cut_take (L : List (List UInt8)) (b n k : Nat) (h : k ≤ n) : (cut L b n).take k = cut L b k := by unfold cut; rw [List.take_take]; congr 1; omega
theorem cut_drop (L : List (List UInt8)) (b n k : Nat) (h : k ≤ n) : (cut L b n).drop k = cut L (b + k) (n - k) := by unfold cut; rw [List.drop_take, List.drop_drop]
theorem cut_len {L : List (List UInt8)} {b n : Nat} (h : b + n ≤ L.length) : (cut L b n).length = n := by unfold cut; rw [List.length_take, List.length_drop]; omega
theorem cut_at {L : List (List UInt8)} {b n i : Nat} (h : i < n) : (cut L b n)[i]? = L[b + i]? := by unfold cut; rw [List.getElem?_take_of_lt h, List.getElem?_drop]
set_option maxRecDepth 100000 in
set_option maxHeartbeats 8000000 in
theorem mth_any (a : Nat → Addr) (B : Nat) (L : List (List UInt8)) (hL : H32 L) : ∀ (f b n c : Nat) (A : Option Addr) (w : World), n ≤ f → b + n ≤ L.length → n ≤ 1000 → EnvP B a w → HIn w A n c (cut L b n) →
    Calls Tryd.prog 24 #[.slice A n c] w fun ev w' => ev = .returned (hv (treeI L b (b + n : Nat))) ∧ Below w.heap.size w w' := by
  intro f
  induction f with
  | zero =>
    intro b n c A w hnf hbn hn hE hI
    obtain rfl : n = 0 := by omega
    have hem := fun w' (h : EnvP B a w') => hempty_any w' h.env.tab
    obtain ⟨vr, evr, Hvr, Zvr, Ivr, Ovr⟩ := row_of (shaB []) (shaB_length _)
    rw [Nat.add_zero, treeI_empty, evr]
    rw [evr] at hem
    have HEM := Lib.hid hem
    obtain ⟨wv, hwv⟩ : ∃ y, w.alloc (.cells (List.replicate 32 (Value.int .u8 0)).toArray 26) = y := ⟨_, rfl⟩
    have HB : Hid (Below w.heap.size w wv) := Lib.hid (by rw [← hwv]; exact (Below.refl _ _).alloc (Nat.le_refl _) _)
    have RV : Hid (wv.heap[w.heap.size]? = some (.cells (List.replicate 32 (Value.int .u8 0)).toArray 26 (0, 0))) := Lib.hid (by rw [← hwv]; exact heap_at _ _ _ rfl)
    have HWV := Lib.hid hwv
    simp only [List.replicate, List.toArray] at HWV
    have HEv := Lib.hid (hE.step HB.out)
    clear hem evr hwv hE hI
    go_enter Tryd.func24, Tryd.ntmps24
    go_upto_region 1 with fail
    rw [HWV.out]
    go_wp2_with fail
    refine (HEM.out wv HEv.out).mono ?_
    rintro ev w1 ⟨rfl, b1⟩
    have R1 : Hid (w1.heap[w.heap.size]? = some (.cells (List.replicate 32 (Value.int .u8 0)).toArray 26 (0, 0))) := Lib.hid ((b1.block _ (Array.getElem?_eq_some_iff.1 RV.out).1).trans RV.out)
    have HB1 : Hid (Below w.heap.size w w1) := Lib.hid (HB.out.trans (b1.mono HB.out.size))
    clear b1
    go_wp2_with (refine wpList_store_row rfl 26 _ _ rfl w.heap.size vr rfl rfl 26 _ R1.out Ivr.out (by rw [Zvr.out]; simp) Ovr.out ?_)
    refine bodyPost_ret (v := .agg vr) (results_cell_row rfl _ _ w.heap.size 26 vr (0, 0) _ rfl (setRow_heap _ _ _ _ _ _ R1.out) Tryd.underlying26 rfl Ivr.out) rfl ⟨rfl, below_setRow HB1.out _ _ (Nat.le_refl _)⟩
  | succ f ih =>
    intro b n c A w hnf hbn hn hE hI
    by_cases h0 : n = 0
    · subst h0; exact ih b 0 c A w (by omega) hbn (by omega) hE hI
    · obtain ⟨wv, hwv⟩ : ∃ y, w.alloc (.cells (List.replicate 32 (Value.int .u8 0)).toArray 26) = y := ⟨_, rfl⟩
      have HB : Hid (Below w.heap.size w wv) := Lib.hid (by rw [← hwv]; exact (Below.refl _ _).alloc (Nat.le_refl _) _)
      have bv : Gr w wv := HB.out
      have RV : Hid (wv.heap[w.heap.size]? = some (.cells (List.replicate 32 (Value.int .u8 0)).toArray 26 (0, 0))) := Lib.hid (by rw [← hwv]; exact heap_at _ _ _ rfl)
      have hwl : w.heap.size < wv.heap.size := by rw [← hwv]; simp
      have HWV := Lib.hid hwv
      simp only [List.replicate, List.toArray] at HWV
      have hnc := hI.2.2.1
      obtain ⟨y, hy⟩ : ∃ y, (cut L b n)[0]? = some y := ⟨_, List.getElem?_eq_getElem (by rw [cut_len hbn]; omega)⟩
      obtain ⟨g, o, rfl, gl, ry, yl⟩ := hI.row hy
      by_cases h1 : n = 1
      · subst h1
        have hgl : gL L b = y := by
          rw [cut_at (by omega)] at hy
          unfold gL
          rw [Int.toNat_natCast, List.getD_eq_getElem?_getD, show b = b + 0 from rfl, hy]; rfl
        have e1 : ((b + 1 : Nat) : Int) = (b : Int) + 1 := by omega
        rw [e1, treeI_leaf, hgl]
        obtain ⟨vr, evr, Hvr, Zvr, Ivr, Ovr⟩ := row_of y yl
        obtain ⟨py, hpy⟩ : ∃ q, bytesV y = q := ⟨_, rfl⟩
        have HYV : Hid (py.toArray = vr) := Lib.hid (by rw [← hpy]; exact Hvr.out)
        have HIY : Hid ((Tryd.prog.info? 26).map (·.size) = some py.length) := Lib.hid (by rw [← hpy, bytesV_length, yl]; kernel_rfl)
        rw [Nat.zero_mul, Nat.add_zero] at ry
        have RY : Hid (wv.rangeAt g o py) := Lib.hid (by rw [← hpy]; exact rangeAt_below HB.out ry gl)
        rw [evr]
        clear hy ry yl hpy evr hwv hgl hE hI ih gl e1
        go_enter Tryd.func24, Tryd.ntmps24
        go_upto_region 1 with fail
        rw [HWV.out]
        go_wp2_with (first | (refine wpList_load_mid rfl 26 _ rfl g o (by first | rfl | simp) py _ RY.out Tryd.underlying26 rfl HIY.out ?_; rw [HYV.out]) | (refine wpList_store_row rfl 26 _ _ rfl w.heap.size vr rfl rfl 26 _ RV.out Ivr.out (by rw [Zvr.out]; simp) Ovr.out ?_))
        refine bodyPost_ret (v := .agg vr) (results_cell_row rfl _ _ w.heap.size 26 vr (0, 0) _ rfl (setRow_heap _ _ _ _ _ _ RV.out) Tryd.underlying26 rfl Ivr.out) rfl ⟨rfl, below_setRow HB.out _ _ (Nat.le_refl _)⟩
      · have hk1 := blw_lt (n := n) (by omega)
        have hk0 := blw_pos n
        have hk2 := blw_dbl (n := n) (by omega)
        have HHA := Lib.hid (fun w' => half_any n w' (by omega) (by omega))
        obtain ⟨k, hk⟩ : ∃ k, blw n = k := ⟨_, rfl⟩
        rw [hk] at hk1 hk0 hk2 HHA
        have hbk : blwI (((b + n : Nat) : Int) - (b : Int)) = (k : Int) := by
          rw [show ((b + n : Nat) : Int) - (b : Int) = (n : Int) by omega, ← hk]; unfold blwI; rw [Int.toNat_natCast]
        have e2 : treeI L b (b + n : Nat) = nodeH (treeI L b (b + k : Nat)) (treeI L (b + k : Nat) (b + n : Nat)) := by
          rw [treeI_node L b (b + n : Nat) (by omega) (by rw [pow2_64]; omega), hbk]
          rw [show ((b : Int) + (k : Int)) = ((b + k : Nat) : Int) by omega]
        have l1 := treeI_len hL b (b + k : Nat) (by omega) (by omega) (by omega) (by rw [pow2_64]; omega)
        have l2 := treeI_len hL (b + k : Nat) (b + n : Nat) (by omega) (by omega) (by omega) (by rw [pow2_64]; omega)
        have hI1 := hin_take hI (k := k) (by omega)
        rw [cut_take _ _ _ _ (by omega)] at hI1
        have hI2 := hin_drop hI (k := k) (by omega)
        rw [cut_drop _ _ _ _ (by omega)] at hI2
        have HI1 := Lib.hid hI1
        have HI2 := Lib.hid hI2
        have HE := Lib.hid hE
        have ih1 : ∀ w', Gr w w' → Calls Tryd.prog 24 #[.slice (some ⟨g, o, none⟩) k c] w' fun ev w2 => ev = .returned (hv (treeI L b (b + k : Nat))) ∧ Below w'.heap.size w' w2 := fun w' h => ih b k c _ w' (by omega) (by omega) (by omega) (HE.out.step h) (HI1.out.below h)
        have ih2 : ∀ w', Gr w w' → Calls Tryd.prog 24 #[.slice (some ⟨g, o + k * 32, none⟩) (n - k) (c - k)] w' fun ev w2 => ev = .returned (hv (treeI L (b + k : Nat) (b + n : Nat))) ∧ Below w'.heap.size w' w2 := fun w' h => by
          have := ih (b + k) (n - k) (c - k) _ w' (by omega) (by omega) (by omega) (HE.out.step h) (HI2.out.below h)
          rwa [show b + k + (n - k) = b + n by omega] at this
        obtain ⟨x1, hx1⟩ : ∃ x, treeI L b (b + k : Nat) = x := ⟨_, rfl⟩
        obtain ⟨x2, hx2⟩ : ∃ x, treeI L (b + k : Nat) (b + n : Nat) = x := ⟨_, rfl⟩
        rw [hx1] at ih1 l1 e2
        rw [hx2] at ih2 l2 e2
        obtain ⟨v1, ev1, Hv1, Zv1, Iv1, Ov1⟩ := row_of x1 l1
        obtain ⟨v2, ev2, Hv2, Zv2, Iv2, Ov2⟩ := row_of x2 l2
        obtain ⟨vr, evr, Hvr, Zvr, Ivr, Ovr⟩ := row_of (nodeH x1 x2) (nodeH_length _ _)
        have HVR : Hid (hv (treeI L b (b + n : Nat)) = .agg vr) := Lib.hid (by rw [e2]; exact evr)
        have HNODE : Hid (∀ w', Gr w w' → Calls Tryd.prog 30 #[.agg v1, .agg v2] w' fun ev w2 => ev = .returned (.agg vr) ∧ Below w'.heap.size w' w2) := Lib.hid (fun w' h => by
          have := hnode_any x1 x2 w' l1 l2 (HE.out.step h).env.tab
          rw [ev1, ev2, evr] at this; exact this)
        rw [ev1] at ih1
        rw [ev2] at ih2
        have IHB := Lib.hid ih1
        have IHE := Lib.hid ih2
        have i1 : (k : Int) ≤ n := by omega
        have i2 : (n : Int) ≤ c := by omega
        have i3 : (k : Int) ≤ c := by omega
        have i4 : (0 : Int) ≤ k := by omega
        have t1 : ((n : Int) == 0) = false := by simp; omega
        have t2 : ((n : Int) == 1) = false := by simp; omega
        clear hy ry yl hwv hE hI ih gl hI1 hI2 ih1 ih2 hx1 hx2 l1 l2 e2 ev1 ev2 evr hbk hk hk2 h0 h1
        go_enter Tryd.func24, Tryd.ntmps24
        go_upto_region 1 with fail
        rw [HWV.out]
        go_wp2_with fail
        refine (HHA.out wv).mono ?_
        rintro ev w0 ⟨rfl, rfl⟩
        go_wp2_with fail
        refine wp_region_held_drew (S := Gr w) (by kernel_rfl) (Gr.drew bv) (fun hHeld => ?_)
        refine wpAnyH_take (i := 0) (v := ?tv1) rfl (by kernel_rfl) (by kernel_rfl) (by kernel_rfl) (fun _ _ _ h => h) (Or.inl ⟨by rfl, ?ty1⟩) (by assumption) ?tr1
        case ty1 => (intro w hSw; (try dsimp only at hSw); go_simp; (try with_reducible rfl))
        try simp only [Act.put, List.getElem_toArray, List.getElem_cons_zero, List.setIfInBounds_toArray, List.set_cons_zero, List.set_cons_succ]
        refine wpAnyH_take (i := 1) (v := ?tv2) rfl (by kernel_rfl) (by kernel_rfl) (by kernel_rfl) (fun _ _ _ h => h) (Or.inl ⟨by rfl, ?ty2⟩) (by assumption) ?tr2
        case ty2 => (intro w hSw; (try dsimp only at hSw); go_simp; (try with_reducible rfl))
        try simp only [Act.put, List.getElem_toArray, List.getElem_cons_zero, List.getElem_cons_succ, List.setIfInBounds_toArray, List.set_cons_zero, List.set_cons_succ]
        refine wpAnyH_take (i := 2) (v := ?tv3) rfl (by kernel_rfl) (by kernel_rfl) (by kernel_rfl) (fun _ _ _ h => h) (Or.inl ⟨by rfl, ?ty3⟩) (by assumption) ?tr3
        case ty3 => (intro w hSw; (try dsimp only at hSw); go_simp; (try with_reducible rfl))
        try simp only [Act.put, List.getElem_toArray, List.getElem_cons_zero, List.getElem_cons_succ, List.setIfInBounds_toArray, List.set_cons_zero, List.set_cons_succ]
        refine wpAnyH_take (i := 4) (v := ?tv4) rfl (by kernel_rfl) (by kernel_rfl) (by kernel_rfl) (fun _ _ _ h => h) (Or.inl ⟨by rfl, ?ty4⟩) (by assumption) ?tr4
        case ty4 => (intro w hSw; (try dsimp only at hSw); go_simp; (try with_reducible rfl))
        try simp only [Act.put, List.getElem_toArray, List.getElem_cons_zero, List.getElem_cons_succ, List.setIfInBounds_toArray, List.set_cons_zero, List.set_cons_succ]
        refine wpAnyH_take (i := 5) (v := ?tv5) rfl (by kernel_rfl) (by kernel_rfl) (by kernel_rfl) (fun _ _ _ h => h) (Or.inl ⟨by rfl, ?ty5⟩) (by assumption) ?tr5
        case ty5 => (intro w hSw; (try dsimp only at hSw); go_simp; (try with_reducible rfl))
        try simp only [Act.put, List.getElem_toArray, List.getElem_cons_zero, List.getElem_cons_succ, List.setIfInBounds_toArray, List.set_cons_zero, List.set_cons_succ]
        refine wpAnyH_take (i := 6) (v := ?tv6) rfl (by kernel_rfl) (by kernel_rfl) (by kernel_rfl) (fun _ _ _ h => h) (Or.inl ⟨by rfl, ?ty6⟩) (by assumption) ?tr6
        case ty6 => (intro w hSw; (try dsimp only at hSw); go_simp; (try with_reducible rfl))
        try simp only [Act.put, List.getElem_toArray, List.getElem_cons_zero, List.getElem_cons_succ, List.setIfInBounds_toArray, List.set_cons_zero, List.set_cons_succ]
        refine wpAnyH_ready (rs := [3]) (by kernel_rfl) (by simp) ?_
        refine AllReadyH.cons (i := 3) rfl (fun K2 hK2 => ?_) AllReadyH.nil
        go_simp
        go_at_call 24
        refine (IHB.out wv.drew (show Gr w wv.drew from (by repeat (first | exact Gr.refl _ | (refine Gr.step ?_ (by assumption)) | (refine Gr.alloc ?_ _) | (refine Gr.drew ?_))))).mono ?_
        rintro ev w101 ⟨rfl, b101⟩
        try go_wp2_with fail
        refine hK2.out _ _ (show Gr w _ from (by repeat (first | exact Gr.refl _ | (refine Gr.step ?_ (by assumption)) | (refine Gr.alloc ?_ _) | (refine Gr.drew ?_)))) (fun hHeld2 => ?_)
        clear hK2 K2
        try simp only [Act.put, List.getElem_toArray, List.getElem_cons_zero, List.getElem_cons_succ, List.setIfInBounds_toArray, List.set_cons_zero, List.set_cons_succ]
        refine wpAnyH_ready (rs := [7]) (by kernel_rfl) (by simp) ?_
        refine AllReadyH.cons (i := 7) rfl (fun K2 hK2 => ?_) AllReadyH.nil
        go_simp
        go_at_call 24
        refine (IHE.out w101 (show Gr w w101 from (by repeat (first | exact Gr.refl _ | (refine Gr.step ?_ (by assumption)) | (refine Gr.alloc ?_ _) | (refine Gr.drew ?_))))).mono ?_
        rintro ev w102 ⟨rfl, b102⟩
        try go_wp2_with fail
        refine hK2.out _ _ (show Gr w _ from (by repeat (first | exact Gr.refl _ | (refine Gr.step ?_ (by assumption)) | (refine Gr.alloc ?_ _) | (refine Gr.drew ?_)))) (fun hHeld2 => ?_)
        clear hK2 K2
        try simp only [Act.put, List.getElem_toArray, List.getElem_cons_zero, List.getElem_cons_succ, List.setIfInBounds_toArray, List.set_cons_zero, List.set_cons_succ]
        refine wpAnyH_ready (rs := [8]) (by kernel_rfl) (by simp) ?_
        refine AllReadyH.cons (i := 8) rfl (fun K2 hK2 => ?_) AllReadyH.nil
        go_simp
        go_at_call 30
        refine (HNODE.out w102 (show Gr w w102 from (by repeat (first | exact Gr.refl _ | (refine Gr.step ?_ (by assumption)) | (refine Gr.alloc ?_ _) | (refine Gr.drew ?_))))).mono ?_
        rintro ev w103 ⟨rfl, b103⟩
        try go_wp2_with fail
        refine hK2.out _ _ (show Gr w _ from (by repeat (first | exact Gr.refl _ | (refine Gr.step ?_ (by assumption)) | (refine Gr.alloc ?_ _) | (refine Gr.drew ?_)))) (fun hHeld2 => ?_)
        clear hK2 K2
        try simp only [Act.put, List.getElem_toArray, List.getElem_cons_zero, List.getElem_cons_succ, List.setIfInBounds_toArray, List.set_cons_zero, List.set_cons_succ]
        refine wpAnyH_ready (rs := [9]) (by kernel_rfl) (by simp) ?_
        refine AllReadyH.cons (i := 9) rfl (fun K2 hK2 => ?_) AllReadyH.nil
        rw [if_pos (by rfl)]
        refine wp_store_row 26 _ _ rfl w.heap.size vr rfl rfl 26 _ (((show Gr wv w103 from (Gr.step (Gr.step (Gr.step (Gr.drew (Gr.refl _)) b101) b102) b103)).block _ hwl).trans RV.out) Ivr.out (by rw [Zvr.out]; rfl) Ovr.out ?_
        refine hK2.out _ _ (show Gr w _ from below_setRow (show Gr w w103 from (by repeat (first | exact Gr.refl _ | (refine Gr.step ?_ (by assumption)) | (refine Gr.alloc ?_ _) | (refine Gr.drew ?_)))) _ _ (Nat.le_refl _)) (fun hHeld2 => ?_)
        clear hK2 K2
        try simp only [Act.put, List.getElem_toArray, List.getElem_cons_zero, List.getElem_cons_succ]
        refine wpAnyH_done (by kernel_rfl) ?_ _
        go_wp2
        refine bodyPost_ret (v := .agg vr) (results_cell_row rfl _ _ w.heap.size 26 vr (0, 0) _ rfl (setRow_heap _ _ _ _ _ _ (((show Gr wv w103 from (Gr.step (Gr.step (Gr.step (Gr.drew (Gr.refl _)) b101) b102) b103)).block _ hwl).trans RV.out)) Tryd.underlying26 rfl Ivr.out) rfl ⟨by rw [HVR.out], hHeld2⟩
end Go.Proofs.YtdodfeoaioolnaaDoor
