/- The law NaiveTrees. Condition: the package-level variables read as listed. -/
import Derived.Test.YtmfngcnmacjbfaaDoorLaw08Aid
namespace Go.Proofs.YtmfngcnmacjbfaaDoor
open Go.ChangeShapes Go.WideShapes Go.ChangeAt Go.RowKit
set_option linter.unusedVariables false
set_option maxRecDepth 100000 in
set_option maxHeartbeats 8000000 in
theorem trees_great (a : Nat → Addr) (B : Nat) (D : List ByteArray) (A : Option Addr) (n c : Nat) (s e : Int) (w : World) (hE : Env B a w) (h : SIn w A n c D) (h0 : 0 ≤ s) (h1 : s < 18446744073709551616) (h2 : 0 ≤ e) (h3 : e < 18446744073709551616)
    (hg : 1048576 < n + bulk D) :
    Calls Tryd.prog 5 #[.slice A n c, .agg #[.int .u64 s, .int .u64 e]] w fun ev w' => ev = .returned (.bool true) ∧ Below w.heap.size w w' := by
  have HE := Lib.hid hE
  have HD := Lib.hid h
  have hwb : w.heap.size < (w.alloc (.cells #[.int .u64 s, .int .u64 e] 50)).heap.size := by simp
  have c0 : (w.alloc (.cells #[.int .u64 s, .int .u64 e] 50)).cell? ⟨w.heap.size, 0, none⟩ = some (.int .u64 s) := cell_new _ _ 0 _ rfl
  have c1 : (w.alloc (.cells #[.int .u64 s, .int .u64 e] 50)).cell? ⟨w.heap.size, 1, none⟩ = some (.int .u64 e) := cell_new _ _ 1 _ rfl
  have gb : Gr w (w.alloc (.cells #[.int .u64 s, .int .u64 e] 50)) := (Gr.refl _).alloc _
  obtain ⟨wb, hwb'⟩ : ∃ wb, (w.alloc (.cells #[.int .u64 s, .int .u64 e] 50)) = wb := ⟨_, rfl⟩
  rw [hwb'] at hwb c0 c1 gb
  have gb : Below w.heap.size w wb := gb
  have HWB := Lib.hid hwb'
  have hbx : (Tryd.prog.info? 50).map (·.size) = some 2 := by kernel_rfl
  have hn9 : n ≤ 140737488355328 := h.2.2.2.2.1
  clear hwb' hE h
  have HG := Lib.hid hg
  clear hg
  go_enter Tryd.func5, Tryd.ntmps5
  go_upto_region 1 with fail
  rw [HWB.out]
  go_wp2_with fail
  refine (texts_any D A n c wb (HD.out.below gb)).mono ?_
  rintro ev w' ⟨t, rfl, ht9, ht, rfl⟩
  have HT0 := Lib.hid ht
  clear ht
  go_wp2_with fail
  refine (beyond2 n t wb (by omega) ht9).mono ?_
  rintro ev w1 ⟨rfl, hw1⟩
  have b1 : Below wb.heap.size wb w1 := by rw [hw1]; exact (Below.refl _ _).alloc (Nat.le_refl _) _
  clear hw1
  have hgd : decide (1048576 < n + t) = true := by have := HT0.out; have := HG.out; simp; omega
  rw [hgd]
  go_wp2
  go_ret
  exact ⟨rfl, show Gr w _ from (by repeat (first | exact Gr.refl _ | (refine Gr.step ?_ (by assumption)) | (refine Gr.alloc ?_ _) | (refine Gr.drew ?_)))⟩

set_option maxRecDepth 100000 in
set_option maxHeartbeats 8000000 in
theorem trees_bad (a : Nat → Addr) (B : Nat) (D : List ByteArray) (A : Option Addr) (n c : Nat) (s e : Int) (w : World) (hE : Env B a w) (h : SIn w A n c D) (h0 : 0 ≤ s) (h1 : s < 18446744073709551616) (h2 : 0 ≤ e) (h3 : e < 18446744073709551616)
    (hg : n + bulk D ≤ 1048576) (hk : e < s ∨ ((keptL D).length : Int) < e) :
    Calls Tryd.prog 5 #[.slice A n c, .agg #[.int .u64 s, .int .u64 e]] w fun ev w' => ev = .returned (.bool true) ∧ Below w.heap.size w w' := by
  have HE := Lib.hid hE
  have HD := Lib.hid h
  have hwb : w.heap.size < (w.alloc (.cells #[.int .u64 s, .int .u64 e] 50)).heap.size := by simp
  have c0 : (w.alloc (.cells #[.int .u64 s, .int .u64 e] 50)).cell? ⟨w.heap.size, 0, none⟩ = some (.int .u64 s) := cell_new _ _ 0 _ rfl
  have c1 : (w.alloc (.cells #[.int .u64 s, .int .u64 e] 50)).cell? ⟨w.heap.size, 1, none⟩ = some (.int .u64 e) := cell_new _ _ 1 _ rfl
  have gb : Gr w (w.alloc (.cells #[.int .u64 s, .int .u64 e] 50)) := (Gr.refl _).alloc _
  obtain ⟨wb, hwb'⟩ : ∃ wb, (w.alloc (.cells #[.int .u64 s, .int .u64 e] 50)) = wb := ⟨_, rfl⟩
  rw [hwb'] at hwb c0 c1 gb
  have gb : Below w.heap.size w wb := gb
  have HWB := Lib.hid hwb'
  have hbx : (Tryd.prog.info? 50).map (·.size) = some 2 := by kernel_rfl
  have hn9 : n ≤ 140737488355328 := h.2.2.2.2.1
  clear hwb' hE h
  have HG := Lib.hid hg
  clear hg
  have HK := Lib.hid hk
  clear hk
  obtain ⟨vz, ez, Hz, Zvz, Ivz, Ovz⟩ := row_of zeroH zeroH_length
  have hqz := eq_zero vz ez
  have HEZ := Lib.hid ez
  clear ez
  go_enter Tryd.func5, Tryd.ntmps5
  go_upto_region 1 with fail
  rw [HWB.out]
  go_wp2_with fail
  refine (texts_any D A n c wb (HD.out.below gb)).mono ?_
  rintro ev w' ⟨t, rfl, ht9, ht, rfl⟩
  have HT0 := Lib.hid ht
  clear ht
  go_wp2_with fail
  refine (beyond2 n t wb (by omega) ht9).mono ?_
  rintro ev w1 ⟨rfl, hw1⟩
  have b1 : Below wb.heap.size wb w1 := by rw [hw1]; exact (Below.refl _ _).alloc (Nat.le_refl _) _
  clear hw1
  have hgd : decide (1048576 < n + t) = false := by have := HT0.out; have := HG.out; simp; omega
  have hn10 : n ≤ 1048576 := by have := HG.out; omega
  rw [hgd]
  go_wp2_with fail
  refine (grown_any a B D A n c w1 (show Env B a w1 from HE.out.step (show Gr w w1 from (by repeat (first | exact Gr.refl _ | (refine Gr.step ?_ (by assumption)) | (refine Gr.alloc ?_ _) | (refine Gr.drew ?_))))) (HD.out.below (show Gr w w1 from (by repeat (first | exact Gr.refl _ | (refine Gr.step ?_ (by assumption)) | (refine Gr.alloc ?_ _) | (refine Gr.drew ?_))))) hn10).mono ?_
  rintro ev w2 ⟨lb, lv, rfl, hL2, b2⟩
  have HN := Lib.hid (show (keptL D).length ≤ 1048576 from hL2.1.1)
  have HL2 := Lib.hid hL2
  clear hL2
  have d0w2 := cell_below (show Gr wb w2 from (by repeat (first | exact Gr.refl _ | (refine Gr.step ?_ (by assumption)) | (refine Gr.alloc ?_ _) | (refine Gr.drew ?_)))) c0 hwb; have d1w2 := cell_below (show Gr wb w2 from (by repeat (first | exact Gr.refl _ | (refine Gr.step ?_ (by assumption)) | (refine Gr.alloc ?_ _) | (refine Gr.drew ?_)))) c1 hwb
  obtain ⟨L, hL⟩ : ∃ L, keptL D = L := ⟨_, rfl⟩
  rw [hL] at HN HL2 HK
  rw [hL]
  obtain ⟨N, hN⟩ : ∃ N, L.length = N := ⟨_, rfl⟩
  rw [hN] at HN HK
  rw [hN]
  have HNL := Lib.hid hN
  have hN0 : N ≤ 1048576 := HN.out
  have hwn : IntKind.u64.wrap (N : Int) = N := IntWalk.u64_in _ (by omega)
  clear hL hN
  go_wp2_with fail
  refine (tree_bad a B _ lb lv L s e w2 (show Env B a w2 from HE.out.step (show Gr w w2 from (by repeat (first | exact Gr.refl _ | (refine Gr.step ?_ (by assumption)) | (refine Gr.alloc ?_ _) | (refine Gr.drew ?_))))) HL2.out h0 h1 h2 h3 (by rw [HNL.out]; exact HK.out)).mono ?_
  rw [HEZ.out]
  rintro ev w3 ⟨rfl, b3⟩
  have hk := HK.out
  unfold errV
  go_upto_region 7 with (refine wpList_store_row_any rfl 29 _ _ rfl w3.heap.size vz rfl rfl 29 _ (heap_at _ _ _ rfl) Ivz.out (by rw [Zvz.out]; rfl) Ovz.out ?_; intro w4 hbN hgN hsN; have b4 : Below w3.heap.size w3 w4 := ((Below.refl _ w3).alloc (Nat.le_refl _) _).trans (hbN.to_below (by simp) (fun k hk q => by omega)); have Rw4 := Lib.hid hgN; have d0w4 := cell_below (show Gr wb w4 from (by repeat (first | exact Gr.refl _ | (refine Gr.step ?_ (by assumption)) | (refine Gr.alloc ?_ _) | (refine Gr.drew ?_)))) c0 hwb; have d1w4 := cell_below (show Gr wb w4 from (by repeat (first | exact Gr.refl _ | (refine Gr.step ?_ (by assumption)) | (refine Gr.alloc ?_ _) | (refine Gr.drew ?_)))) c1 hwb; clear hbN hgN hsN)
  have HLV := Lib.hid (lives_any a B)
  have KZ : Hid (∀ w', Gr w4 w' → w'.heap[w3.heap.size]? = some (.cells vz 29 (0, 0))) := Lib.hid (fun w' h => (h.block _ (Array.getElem?_eq_some_iff.1 Rw4.out).1).trans Rw4.out)
  by_cases q : e < s
  · have q1 : decide (e < s) = true := by simpa using q
    clear hk q
    go_wp2_with fail
    change Calls _ _ #[errV a 5, _] _ _
    refine (is_sent a B 5 w4 (show Env B a w4 from HE.out.step (show Gr w w4 from (by repeat (first | exact Gr.refl _ | (refine Gr.step ?_ (by assumption)) | (refine Gr.alloc ?_ _) | (refine Gr.drew ?_))))).laid (by omega) (by omega)).mono ?_
    rintro ev w5 ⟨rfl, b5⟩
    go_wp2_with (refine wpList_load_row_g rfl 29 _ rfl _ rfl 29 vz (0, 0) _ (KZ.out w5 (show Gr w4 w5 from (by repeat (first | exact Gr.refl _ | (refine Gr.step ?_ (by assumption)) | (refine Gr.alloc ?_ _) | (refine Gr.drew ?_))))) Tryd.underlying29 rfl Ivz.out ?_)
    refine (HLV.out w5 (show Env B a w5 from HE.out.step (show Gr w w5 from (by repeat (first | exact Gr.refl _ | (refine Gr.step ?_ (by assumption)) | (refine Gr.alloc ?_ _) | (refine Gr.drew ?_)))))).mono ?_
    rintro ev w6 ⟨rfl, b6⟩
    go_wp2
    go_ret
    exact ⟨rfl, show Gr w _ from (by repeat (first | exact Gr.refl _ | (refine Gr.step ?_ (by assumption)) | (refine Gr.alloc ?_ _) | (refine Gr.drew ?_)))⟩
  · have q1 : decide (e < s) = false := by simpa using q
    have q2 : decide ((N : Int) < e) = true := by simp; omega
    clear hk q
    go_wp2_with fail
    change Calls _ _ #[errV a 5, _] _ _
    refine (is_sent a B 5 w4 (show Env B a w4 from HE.out.step (show Gr w w4 from (by repeat (first | exact Gr.refl _ | (refine Gr.step ?_ (by assumption)) | (refine Gr.alloc ?_ _) | (refine Gr.drew ?_))))).laid (by omega) (by omega)).mono ?_
    rintro ev w5 ⟨rfl, b5⟩
    go_wp2_with (refine wpList_load_row_g rfl 29 _ rfl _ rfl 29 vz (0, 0) _ (KZ.out w5 (show Gr w4 w5 from (by repeat (first | exact Gr.refl _ | (refine Gr.step ?_ (by assumption)) | (refine Gr.alloc ?_ _) | (refine Gr.drew ?_))))) Tryd.underlying29 rfl Ivz.out ?_)
    refine (HLV.out w5 (show Env B a w5 from HE.out.step (show Gr w w5 from (by repeat (first | exact Gr.refl _ | (refine Gr.step ?_ (by assumption)) | (refine Gr.alloc ?_ _) | (refine Gr.drew ?_)))))).mono ?_
    rintro ev w6 ⟨rfl, b6⟩
    go_wp2
    go_ret
    exact ⟨rfl, show Gr w _ from (by repeat (first | exact Gr.refl _ | (refine Gr.step ?_ (by assumption)) | (refine Gr.alloc ?_ _) | (refine Gr.drew ?_)))⟩

set_option maxRecDepth 100000 in
set_option maxHeartbeats 8000000 in
theorem trees_zero (a : Nat → Addr) (B : Nat) (D : List ByteArray) (A : Option Addr) (n c : Nat) (s e : Int) (w : World) (hE : Env B a w) (h : SIn w A n c D) (h0 : 0 ≤ s) (h1 : s < 18446744073709551616) (h2 : 0 ≤ e) (h3 : e < 18446744073709551616)
    (hg : n + bulk D ≤ 1048576) (hs : s ≤ e) (he : e ≤ ((keptL D).length : Int)) (hk0 : s = e) :
    Calls Tryd.prog 5 #[.slice A n c, .agg #[.int .u64 s, .int .u64 e]] w fun ev w' => ev = .returned (.bool true) ∧ Below w.heap.size w w' := by
  have HE := Lib.hid hE
  have HD := Lib.hid h
  have hwb : w.heap.size < (w.alloc (.cells #[.int .u64 s, .int .u64 e] 50)).heap.size := by simp
  have c0 : (w.alloc (.cells #[.int .u64 s, .int .u64 e] 50)).cell? ⟨w.heap.size, 0, none⟩ = some (.int .u64 s) := cell_new _ _ 0 _ rfl
  have c1 : (w.alloc (.cells #[.int .u64 s, .int .u64 e] 50)).cell? ⟨w.heap.size, 1, none⟩ = some (.int .u64 e) := cell_new _ _ 1 _ rfl
  have gb : Gr w (w.alloc (.cells #[.int .u64 s, .int .u64 e] 50)) := (Gr.refl _).alloc _
  obtain ⟨wb, hwb'⟩ : ∃ wb, (w.alloc (.cells #[.int .u64 s, .int .u64 e] 50)) = wb := ⟨_, rfl⟩
  rw [hwb'] at hwb c0 c1 gb
  have gb : Below w.heap.size w wb := gb
  have HWB := Lib.hid hwb'
  have hbx : (Tryd.prog.info? 50).map (·.size) = some 2 := by kernel_rfl
  have hn9 : n ≤ 140737488355328 := h.2.2.2.2.1
  clear hwb' hE h
  have HG := Lib.hid hg
  clear hg
  have HK := Lib.hid (And.intro hs (And.intro he hk0))
  clear hs he hk0
  go_enter Tryd.func5, Tryd.ntmps5
  go_upto_region 1 with fail
  rw [HWB.out]
  go_wp2_with fail
  refine (texts_any D A n c wb (HD.out.below gb)).mono ?_
  rintro ev w' ⟨t, rfl, ht9, ht, rfl⟩
  have HT0 := Lib.hid ht
  clear ht
  go_wp2_with fail
  refine (beyond2 n t wb (by omega) ht9).mono ?_
  rintro ev w1 ⟨rfl, hw1⟩
  have b1 : Below wb.heap.size wb w1 := by rw [hw1]; exact (Below.refl _ _).alloc (Nat.le_refl _) _
  clear hw1
  have hgd : decide (1048576 < n + t) = false := by have := HT0.out; have := HG.out; simp; omega
  have hn10 : n ≤ 1048576 := by have := HG.out; omega
  rw [hgd]
  go_wp2_with fail
  refine (grown_any a B D A n c w1 (show Env B a w1 from HE.out.step (show Gr w w1 from (by repeat (first | exact Gr.refl _ | (refine Gr.step ?_ (by assumption)) | (refine Gr.alloc ?_ _) | (refine Gr.drew ?_))))) (HD.out.below (show Gr w w1 from (by repeat (first | exact Gr.refl _ | (refine Gr.step ?_ (by assumption)) | (refine Gr.alloc ?_ _) | (refine Gr.drew ?_))))) hn10).mono ?_
  rintro ev w2 ⟨lb, lv, rfl, hL2, b2⟩
  have HN := Lib.hid (show (keptL D).length ≤ 1048576 from hL2.1.1)
  have HL2 := Lib.hid hL2
  clear hL2
  have d0w2 := cell_below (show Gr wb w2 from (by repeat (first | exact Gr.refl _ | (refine Gr.step ?_ (by assumption)) | (refine Gr.alloc ?_ _) | (refine Gr.drew ?_)))) c0 hwb; have d1w2 := cell_below (show Gr wb w2 from (by repeat (first | exact Gr.refl _ | (refine Gr.step ?_ (by assumption)) | (refine Gr.alloc ?_ _) | (refine Gr.drew ?_)))) c1 hwb
  obtain ⟨L, hL⟩ : ∃ L, keptL D = L := ⟨_, rfl⟩
  rw [hL] at HN HL2 HK
  rw [hL]
  obtain ⟨N, hN⟩ : ∃ N, L.length = N := ⟨_, rfl⟩
  rw [hN] at HN HK
  rw [hN]
  have HNL := Lib.hid hN
  have hN0 : N ≤ 1048576 := HN.out
  have hwn : IntKind.u64.wrap (N : Int) = N := IntWalk.u64_in _ (by omega)
  clear hL hN
  go_wp2_with fail
  have hk := HK.out
  have hes := hk.2.2
  have q1 : decide (e < s) = false := by simp; omega
  have q2 : decide ((N : Int) < e) = false := by simp; omega
  have HTR := Lib.hid (fun s e w hE hL h0 h1 h2 => tree_ok a B w1.heap.size lb lv L s e w hE hL h0 h1 h2)
  obtain ⟨hh, ehh⟩ : ∃ x, treeB L s e = x := ⟨_, rfl⟩
  have lhh : hh.length = 32 := by rw [← ehh]; exact treeB_len L s e
  obtain ⟨vh, evh, Hvh, Zvh, Ivh, Ovh⟩ := row_of hh lhh
  have HVH := Lib.hid (And.intro ehh evh)
  have hqh := eq_self hh lhh vh evh
  clear ehh evh
  refine (tree_ok a B _ lb lv L s e w2 (show Env B a w2 from HE.out.step (show Gr w w2 from (by repeat (first | exact Gr.refl _ | (refine Gr.step ?_ (by assumption)) | (refine Gr.alloc ?_ _) | (refine Gr.drew ?_))))) HL2.out h0 (by omega) (by rw [HNL.out]; omega)).mono ?_
  rw [HVH.out.1, HVH.out.2]
  rintro ev w3 ⟨rfl, b3⟩
  have HLV := Lib.hid (lives_any a B)
  subst hes
  have q9 : ((s - s : Int) == 0) = true := by simp
  go_upto_region 13 with (refine wpList_store_row_any rfl 29 _ _ rfl w3.heap.size vh rfl rfl 29 _ (heap_at _ _ _ rfl) Ivh.out (by rw [Zvh.out]; rfl) Ovh.out ?_; intro w4 hbN hgN hsN; have b4 : Below w3.heap.size w3 w4 := ((Below.refl _ w3).alloc (Nat.le_refl _) _).trans (hbN.to_below (by simp) (fun k hk q => by omega)); have Rw4 := Lib.hid hgN; have d0w4 := cell_below (show Gr wb w4 from (by repeat (first | exact Gr.refl _ | (refine Gr.step ?_ (by assumption)) | (refine Gr.alloc ?_ _) | (refine Gr.drew ?_)))) c0 hwb; have d1w4 := cell_below (show Gr wb w4 from (by repeat (first | exact Gr.refl _ | (refine Gr.step ?_ (by assumption)) | (refine Gr.alloc ?_ _) | (refine Gr.drew ?_)))) c1 hwb; clear hbN hgN hsN)
  have KH : Hid (∀ w', Gr w4 w' → w'.heap[w3.heap.size]? = some (.cells vh 29 (0, 0))) := Lib.hid (fun w' h => (h.block _ (Array.getElem?_eq_some_iff.1 Rw4.out).1).trans Rw4.out)
  have hsh : treeB L s s = shaB [] := by unfold treeB; rw [if_pos rfl]
  have HEM : Hid (∀ w, Env B a w → Calls Tryd.prog 28 #[] w fun ev w' => ev = .returned (.agg vh) ∧ Below w.heap.size w w') := Lib.hid (fun w h => by
    have := hempty_any w h.tab
    rw [← hsh, HVH.out.1, HVH.out.2] at this; exact this)
  clear hsh hk
  refine wp_region_held_drew (S := Gr w4) (by kernel_rfl) ((Gr.refl _).drew) (fun hHeld => ?_)
  refine wpAnyH_take (i := 0) (v := _) rfl (by kernel_rfl) (by kernel_rfl) (by kernel_rfl) (fun _ _ _ h => h) (yieldsIf_load_row (by rfl) 29 _ (by rfl) _ (by rfl) 29 vh (0, 0) _ (fun w h => KH.out w h) Tryd.underlying29 rfl Ivh.out) (by assumption) ?_
  try simp only [Act.put, List.getElem_toArray, List.getElem_cons_zero, List.setIfInBounds_toArray, List.set_cons_zero, List.set_cons_succ]
  refine wpAnyH_ready (rs := [1]) (by kernel_rfl) (by simp) ?_
  refine AllReadyH.cons (i := 1) rfl (fun K2 hK2 => ?_) AllReadyH.nil
  go_simp
  go_at_call 28
  refine (HEM.out w4.drew (show Env B a w4.drew from HE.out.step (show Gr w w4.drew from (by repeat (first | exact Gr.refl _ | (refine Gr.step ?_ (by assumption)) | (refine Gr.alloc ?_ _) | (refine Gr.drew ?_)))))).mono ?_
  rintro ev w101 ⟨rfl, b101⟩
  try go_wp2_with fail
  refine hK2.out _ _ (show Gr w4 _ from (by repeat (first | exact Gr.refl _ | (refine Gr.step ?_ (by assumption)) | (refine Gr.alloc ?_ _) | (refine Gr.drew ?_)))) (fun hHeld2 => ?_)
  clear hK2 K2
  try simp only [Act.put, List.getElem_toArray, List.getElem_cons_zero, List.getElem_cons_succ, List.setIfInBounds_toArray, List.set_cons_zero, List.set_cons_succ]
  refine wpAnyH_take (i := 2) (v := ?tv2) rfl (by kernel_rfl) (by kernel_rfl) (by kernel_rfl) (fun _ _ _ h => h) (Or.inl ⟨by rfl, ?ty2⟩) (by assumption) ?tr2
  case ty2 => (intro w hSw; (try dsimp only at hSw); go_simp; (try with_reducible rfl))
  try simp only [Act.put, List.getElem_toArray, List.getElem_cons_zero, List.getElem_cons_succ, List.setIfInBounds_toArray, List.set_cons_zero, List.set_cons_succ]
  refine wpAnyH_take (i := 3) (v := ?tv3) rfl (by kernel_rfl) (by kernel_rfl) (by kernel_rfl) (fun _ _ _ h => h) (Or.inl ⟨by rfl, ?ty3⟩) (by assumption) ?tr3
  case ty3 => (intro w hSw; (try dsimp only at hSw); go_simp; (try with_reducible rfl))
  try simp only [Act.put, List.getElem_toArray, List.getElem_cons_zero, List.getElem_cons_succ, List.setIfInBounds_toArray, List.set_cons_zero, List.set_cons_succ]
  refine wpAnyH_ready (rs := [4]) (by kernel_rfl) (by simp) ?_
  refine AllReadyH.cons (i := 4) rfl (fun K2 hK2 => ?_) AllReadyH.nil
  go_simp
  go_at_call 27
  refine (HLV.out w101 (show Env B a w101 from HE.out.step (show Gr w w101 from (by repeat (first | exact Gr.refl _ | (refine Gr.step ?_ (by assumption)) | (refine Gr.alloc ?_ _) | (refine Gr.drew ?_)))))).mono ?_
  rintro ev w102 ⟨rfl, b102⟩
  try go_wp2_with fail
  refine hK2.out _ _ (show Gr w4 _ from (by repeat (first | exact Gr.refl _ | (refine Gr.step ?_ (by assumption)) | (refine Gr.alloc ?_ _) | (refine Gr.drew ?_)))) (fun hHeld2 => ?_)
  clear hK2 K2
  try simp only [Act.put, List.getElem_toArray, List.getElem_cons_zero, List.getElem_cons_succ, List.setIfInBounds_toArray, List.set_cons_zero, List.set_cons_succ]
  refine wpAnyH_take (i := 5) (v := ?tv4) rfl (by kernel_rfl) (by kernel_rfl) (by kernel_rfl) (fun _ _ _ h => h) (Or.inl ⟨by rfl, ?ty4⟩) (by assumption) ?tr4
  case ty4 => (intro w hSw; (try dsimp only at hSw); go_simp; (try with_reducible rfl))
  try simp only [Act.put, List.getElem_toArray, List.getElem_cons_zero, List.getElem_cons_succ, List.setIfInBounds_toArray, List.set_cons_zero, List.set_cons_succ]
  refine wpAnyH_take (i := 6) (v := ?tv5) rfl (by kernel_rfl) (by kernel_rfl) (by kernel_rfl) (fun _ _ _ h => h) (Or.inl ⟨by rfl, ?ty5⟩) (by assumption) ?tr5
  case ty5 => (intro w hSw; (try dsimp only at hSw); go_simp; (try with_reducible rfl))
  try simp only [Act.put, List.getElem_toArray, List.getElem_cons_zero, List.getElem_cons_succ, List.setIfInBounds_toArray, List.set_cons_zero, List.set_cons_succ]
  refine wpAnyH_done (by kernel_rfl) ?_ _
  go_wp2
  go_ret
  exact ⟨rfl, show Gr w _ from (by repeat (first | exact Gr.refl _ | (refine Gr.step ?_ (by assumption)) | (refine Gr.alloc ?_ _) | (refine Gr.drew ?_)))⟩

set_option maxRecDepth 100000 in
set_option maxHeartbeats 8000000 in
theorem trees_one (a : Nat → Addr) (B : Nat) (D : List ByteArray) (A : Option Addr) (n c : Nat) (s e : Int) (w : World) (hE : Env B a w) (h : SIn w A n c D) (h0 : 0 ≤ s) (h1 : s < 18446744073709551616) (h2 : 0 ≤ e) (h3 : e < 18446744073709551616)
    (hg : n + bulk D ≤ 1048576) (hs : e = s + 1) (he : e ≤ ((keptL D).length : Int)) :
    Calls Tryd.prog 5 #[.slice A n c, .agg #[.int .u64 s, .int .u64 e]] w fun ev w' => ev = .returned (.bool true) ∧ Below w.heap.size w w' := by
  have HE := Lib.hid hE
  have HD := Lib.hid h
  have hwb : w.heap.size < (w.alloc (.cells #[.int .u64 s, .int .u64 e] 50)).heap.size := by simp
  have c0 : (w.alloc (.cells #[.int .u64 s, .int .u64 e] 50)).cell? ⟨w.heap.size, 0, none⟩ = some (.int .u64 s) := cell_new _ _ 0 _ rfl
  have c1 : (w.alloc (.cells #[.int .u64 s, .int .u64 e] 50)).cell? ⟨w.heap.size, 1, none⟩ = some (.int .u64 e) := cell_new _ _ 1 _ rfl
  have gb : Gr w (w.alloc (.cells #[.int .u64 s, .int .u64 e] 50)) := (Gr.refl _).alloc _
  obtain ⟨wb, hwb'⟩ : ∃ wb, (w.alloc (.cells #[.int .u64 s, .int .u64 e] 50)) = wb := ⟨_, rfl⟩
  rw [hwb'] at hwb c0 c1 gb
  have gb : Below w.heap.size w wb := gb
  have HWB := Lib.hid hwb'
  have hbx : (Tryd.prog.info? 50).map (·.size) = some 2 := by kernel_rfl
  have hn9 : n ≤ 140737488355328 := h.2.2.2.2.1
  clear hwb' hE h
  have HG := Lib.hid hg
  clear hg
  have HK := Lib.hid (And.intro hs he)
  clear hs he
  go_enter Tryd.func5, Tryd.ntmps5
  go_upto_region 1 with fail
  rw [HWB.out]
  go_wp2_with fail
  refine (texts_any D A n c wb (HD.out.below gb)).mono ?_
  rintro ev w' ⟨t, rfl, ht9, ht, rfl⟩
  have HT0 := Lib.hid ht
  clear ht
  go_wp2_with fail
  refine (beyond2 n t wb (by omega) ht9).mono ?_
  rintro ev w1 ⟨rfl, hw1⟩
  have b1 : Below wb.heap.size wb w1 := by rw [hw1]; exact (Below.refl _ _).alloc (Nat.le_refl _) _
  clear hw1
  have hgd : decide (1048576 < n + t) = false := by have := HT0.out; have := HG.out; simp; omega
  have hn10 : n ≤ 1048576 := by have := HG.out; omega
  rw [hgd]
  go_wp2_with fail
  refine (grown_any a B D A n c w1 (show Env B a w1 from HE.out.step (show Gr w w1 from (by repeat (first | exact Gr.refl _ | (refine Gr.step ?_ (by assumption)) | (refine Gr.alloc ?_ _) | (refine Gr.drew ?_))))) (HD.out.below (show Gr w w1 from (by repeat (first | exact Gr.refl _ | (refine Gr.step ?_ (by assumption)) | (refine Gr.alloc ?_ _) | (refine Gr.drew ?_))))) hn10).mono ?_
  rintro ev w2 ⟨lb, lv, rfl, hL2, b2⟩
  have HN := Lib.hid (show (keptL D).length ≤ 1048576 from hL2.1.1)
  have HL2 := Lib.hid hL2
  clear hL2
  have d0w2 := cell_below (show Gr wb w2 from (by repeat (first | exact Gr.refl _ | (refine Gr.step ?_ (by assumption)) | (refine Gr.alloc ?_ _) | (refine Gr.drew ?_)))) c0 hwb; have d1w2 := cell_below (show Gr wb w2 from (by repeat (first | exact Gr.refl _ | (refine Gr.step ?_ (by assumption)) | (refine Gr.alloc ?_ _) | (refine Gr.drew ?_)))) c1 hwb
  obtain ⟨L, hL⟩ : ∃ L, keptL D = L := ⟨_, rfl⟩
  rw [hL] at HN HL2 HK
  rw [hL]
  obtain ⟨N, hN⟩ : ∃ N, L.length = N := ⟨_, rfl⟩
  rw [hN] at HN HK
  rw [hN]
  have HNL := Lib.hid hN
  have hN0 : N ≤ 1048576 := HN.out
  have hwn : IntKind.u64.wrap (N : Int) = N := IntWalk.u64_in _ (by omega)
  clear hL hN
  go_wp2_with fail
  obtain ⟨i, hi⟩ : ∃ i : Nat, s = i := ⟨s.toNat, by omega⟩
  obtain ⟨x, hx⟩ : ∃ x, L[i]? = some x := ⟨_, List.getElem?_eq_getElem (by have := HK.out; have := HNL.out; omega)⟩
  have hxs := HL2.out.1.2 x (List.mem_of_getElem? hx)
  have HTX : Hid (treeB L s e = leafH x) := Lib.hid (by
    unfold treeB
    rw [if_neg (by have := HK.out; omega), treeT_leaf nodeH _ s e (by have := HK.out; omega)]
    unfold leafG
    rw [hi, List.getD_eq_getElem?_getD, Int.toNat_natCast, hx]; rfl)
  have HLE : Hid (∀ w, LogAt w1.heap.size lb lv L w → Calls Tryd.prog 29 #[.pointer (some ⟨lb, 0, none⟩), .int .u64 s] w fun ev w' => ev = .returned (.tuple #[.string x, .nilIface]) ∧ w = w') := Lib.hid (fun w h => by
    rw [hi]; exact lleaf_ok _ lb lv L w h i x hx)
  have HXS := Lib.hid hxs
  clear hx hxs hi
  have hk := HK.out
  have hse : s ≤ e := by omega
  have q9 : ((e - s : Int) == 0) = false := by simp; omega
  have q10 : ((e - s : Int) == 1) = true := by simp; omega
  have q1 : decide (e < s) = false := by simp; omega
  have q2 : decide ((N : Int) < e) = false := by simp; omega
  have HTR := Lib.hid (fun s e w hE hL h0 h1 h2 => tree_ok a B w1.heap.size lb lv L s e w hE hL h0 h1 h2)
  obtain ⟨hh, ehh⟩ : ∃ x, treeB L s e = x := ⟨_, rfl⟩
  have lhh : hh.length = 32 := by rw [← ehh]; exact treeB_len L s e
  obtain ⟨vh, evh, Hvh, Zvh, Ivh, Ovh⟩ := row_of hh lhh
  have HVH := Lib.hid (And.intro ehh evh)
  have hqh := eq_self hh lhh vh evh
  clear ehh evh
  refine (tree_ok a B _ lb lv L s e w2 (show Env B a w2 from HE.out.step (show Gr w w2 from (by repeat (first | exact Gr.refl _ | (refine Gr.step ?_ (by assumption)) | (refine Gr.alloc ?_ _) | (refine Gr.drew ?_))))) HL2.out h0 (by omega) (by rw [HNL.out]; omega)).mono ?_
  rw [HVH.out.1, HVH.out.2]
  rintro ev w3 ⟨rfl, b3⟩
  have HLV := Lib.hid (lives_any a B)
  go_upto_region 15 with (refine wpList_store_row_any rfl 29 _ _ rfl w3.heap.size vh rfl rfl 29 _ (heap_at _ _ _ rfl) Ivh.out (by rw [Zvh.out]; rfl) Ovh.out ?_; intro w4 hbN hgN hsN; have b4 : Below w3.heap.size w3 w4 := ((Below.refl _ w3).alloc (Nat.le_refl _) _).trans (hbN.to_below (by simp) (fun k hk q => by omega)); have Rw4 := Lib.hid hgN; have d0w4 := cell_below (show Gr wb w4 from (by repeat (first | exact Gr.refl _ | (refine Gr.step ?_ (by assumption)) | (refine Gr.alloc ?_ _) | (refine Gr.drew ?_)))) c0 hwb; have d1w4 := cell_below (show Gr wb w4 from (by repeat (first | exact Gr.refl _ | (refine Gr.step ?_ (by assumption)) | (refine Gr.alloc ?_ _) | (refine Gr.drew ?_)))) c1 hwb; clear hbN hgN hsN)
  have KH : Hid (∀ w', Gr w4 w' → w'.heap[w3.heap.size]? = some (.cells vh 29 (0, 0))) := Lib.hid (fun w' h => (h.block _ (Array.getElem?_eq_some_iff.1 Rw4.out).1).trans Rw4.out)
  have HLF : Hid (∀ w, Env B a w → Calls Tryd.prog 30 #[.string x] w fun ev w' => ev = .returned (.agg vh) ∧ Below w.heap.size w w') := Lib.hid (fun w h => by
    have := hleaf_any x w (by have := HXS.out; omega) h.tab
    rw [← HTX.out, HVH.out.1, HVH.out.2] at this; exact this)
  clear hk
  go_wp2_with fail
  refine (HLE.out w4 (HL2.out.below (show Gr w2 w4 from (by repeat (first | exact Gr.refl _ | (refine Gr.step ?_ (by assumption)) | (refine Gr.alloc ?_ _) | (refine Gr.drew ?_)))))).mono ?_
  rintro ev w' ⟨rfl, rfl⟩
  go_wp2_with fail
  refine wp_region_held_drew (S := Gr w4) (by kernel_rfl) ((Gr.refl _).drew) (fun hHeld => ?_)
  refine wpAnyH_take (i := 0) (v := ?tv6) rfl (by kernel_rfl) (by kernel_rfl) (by kernel_rfl) (fun _ _ _ h => h) (Or.inl ⟨by rfl, ?ty6⟩) (by assumption) ?tr6
  case ty6 => (intro w hSw; (try dsimp only at hSw); go_simp; (try with_reducible rfl))
  try simp only [Act.put, List.getElem_toArray, List.getElem_cons_zero, List.setIfInBounds_toArray, List.set_cons_zero, List.set_cons_succ]
  refine wpAnyH_take (i := 1) (v := ?tv7) rfl (by kernel_rfl) (by kernel_rfl) (by kernel_rfl) (fun _ _ _ h => h) (Or.inl ⟨by rfl, ?ty7⟩) (by assumption) ?tr7
  case ty7 => (intro w hSw; (try dsimp only at hSw); go_simp; (try with_reducible rfl))
  try simp only [Act.put, List.getElem_toArray, List.getElem_cons_zero, List.getElem_cons_succ, List.setIfInBounds_toArray, List.set_cons_zero, List.set_cons_succ]
  refine wpAnyH_take (i := 2) (v := ?tv8) rfl (by kernel_rfl) (by kernel_rfl) (by kernel_rfl) (fun _ _ _ h => h) (Or.inl ⟨by rfl, ?ty8⟩) (by assumption) ?tr8
  case ty8 => (intro w hSw; (try dsimp only at hSw); go_simp; (try with_reducible rfl))
  try simp only [Act.put, List.getElem_toArray, List.getElem_cons_zero, List.getElem_cons_succ, List.setIfInBounds_toArray, List.set_cons_zero, List.set_cons_succ]
  refine wpAnyH_take (i := 3) (v := _) rfl (by kernel_rfl) (by kernel_rfl) (by kernel_rfl) (fun _ _ _ h => h) (yieldsIf_load_row (by rfl) 29 _ (by rfl) _ (by rfl) 29 vh (0, 0) _ (fun w h => KH.out w h) Tryd.underlying29 rfl Ivh.out) (by assumption) ?_
  try simp only [Act.put, List.getElem_toArray, List.getElem_cons_zero, List.getElem_cons_succ, List.setIfInBounds_toArray, List.set_cons_zero, List.set_cons_succ]
  refine wpAnyH_take (i := 4) (v := ?tv10) rfl (by kernel_rfl) (by kernel_rfl) (by kernel_rfl) (fun _ _ _ h => h) (Or.inl ⟨by rfl, ?ty10⟩) (by assumption) ?tr10
  case ty10 => (intro w hSw; (try dsimp only at hSw); go_simp; (try with_reducible rfl))
  try simp only [Act.put, List.getElem_toArray, List.getElem_cons_zero, List.getElem_cons_succ, List.setIfInBounds_toArray, List.set_cons_zero, List.set_cons_succ]
  refine wpAnyH_ready (rs := [5]) (by kernel_rfl) (by simp) ?_
  refine AllReadyH.cons (i := 5) rfl (fun K2 hK2 => ?_) AllReadyH.nil
  go_simp
  go_at_call 30
  refine (HLF.out w4.drew (show Env B a w4.drew from HE.out.step (show Gr w w4.drew from (by repeat (first | exact Gr.refl _ | (refine Gr.step ?_ (by assumption)) | (refine Gr.alloc ?_ _) | (refine Gr.drew ?_)))))).mono ?_
  rintro ev w103 ⟨rfl, b103⟩
  try go_wp2_with fail
  refine hK2.out _ _ (show Gr w4 _ from (by repeat (first | exact Gr.refl _ | (refine Gr.step ?_ (by assumption)) | (refine Gr.alloc ?_ _) | (refine Gr.drew ?_)))) (fun hHeld2 => ?_)
  clear hK2 K2
  try simp only [Act.put, List.getElem_toArray, List.getElem_cons_zero, List.getElem_cons_succ, List.setIfInBounds_toArray, List.set_cons_zero, List.set_cons_succ]
  refine wpAnyH_take (i := 6) (v := ?tv11) rfl (by kernel_rfl) (by kernel_rfl) (by kernel_rfl) (fun _ _ _ h => h) (Or.inl ⟨by rfl, ?ty11⟩) (by assumption) ?tr11
  case ty11 => (intro w hSw; (try dsimp only at hSw); go_simp; (try with_reducible rfl))
  try simp only [Act.put, List.getElem_toArray, List.getElem_cons_zero, List.getElem_cons_succ, List.setIfInBounds_toArray, List.set_cons_zero, List.set_cons_succ]
  refine wpAnyH_take (i := 7) (v := ?tv12) rfl (by kernel_rfl) (by kernel_rfl) (by kernel_rfl) (fun _ _ _ h => h) (Or.inl ⟨by rfl, ?ty12⟩) (by assumption) ?tr12
  case ty12 => (intro w hSw; (try dsimp only at hSw); go_simp; (try with_reducible rfl))
  try simp only [Act.put, List.getElem_toArray, List.getElem_cons_zero, List.getElem_cons_succ, List.setIfInBounds_toArray, List.set_cons_zero, List.set_cons_succ]
  refine wpAnyH_take (i := 8) (v := ?tv13) rfl (by kernel_rfl) (by kernel_rfl) (by kernel_rfl) (fun _ _ _ h => h) (Or.inl ⟨by rfl, ?ty13⟩) (by assumption) ?tr13
  case ty13 => (intro w hSw; (try dsimp only at hSw); go_simp; (try with_reducible rfl))
  try simp only [Act.put, List.getElem_toArray, List.getElem_cons_zero, List.getElem_cons_succ, List.setIfInBounds_toArray, List.set_cons_zero, List.set_cons_succ]
  refine wpAnyH_ready (rs := [9]) (by kernel_rfl) (by simp) ?_
  refine AllReadyH.cons (i := 9) rfl (fun K2 hK2 => ?_) AllReadyH.nil
  go_simp
  go_at_call 27
  refine (HLV.out w103 (show Env B a w103 from HE.out.step (show Gr w w103 from (by repeat (first | exact Gr.refl _ | (refine Gr.step ?_ (by assumption)) | (refine Gr.alloc ?_ _) | (refine Gr.drew ?_)))))).mono ?_
  rintro ev w104 ⟨rfl, b104⟩
  try go_wp2_with fail
  refine hK2.out _ _ (show Gr w4 _ from (by repeat (first | exact Gr.refl _ | (refine Gr.step ?_ (by assumption)) | (refine Gr.alloc ?_ _) | (refine Gr.drew ?_)))) (fun hHeld2 => ?_)
  clear hK2 K2
  try simp only [Act.put, List.getElem_toArray, List.getElem_cons_zero, List.getElem_cons_succ, List.setIfInBounds_toArray, List.set_cons_zero, List.set_cons_succ]
  refine wpAnyH_take (i := 10) (v := ?tv14) rfl (by kernel_rfl) (by kernel_rfl) (by kernel_rfl) (fun _ _ _ h => h) (Or.inl ⟨by rfl, ?ty14⟩) (by assumption) ?tr14
  case ty14 => (intro w hSw; (try dsimp only at hSw); go_simp; (try with_reducible rfl))
  try simp only [Act.put, List.getElem_toArray, List.getElem_cons_zero, List.getElem_cons_succ, List.setIfInBounds_toArray, List.set_cons_zero, List.set_cons_succ]
  refine wpAnyH_take (i := 11) (v := ?tv15) rfl (by kernel_rfl) (by kernel_rfl) (by kernel_rfl) (fun _ _ _ h => h) (Or.inl ⟨by rfl, ?ty15⟩) (by assumption) ?tr15
  case ty15 => (intro w hSw; (try dsimp only at hSw); go_simp; (try with_reducible rfl))
  try simp only [Act.put, List.getElem_toArray, List.getElem_cons_zero, List.getElem_cons_succ, List.setIfInBounds_toArray, List.set_cons_zero, List.set_cons_succ]
  refine wpAnyH_done (by kernel_rfl) ?_ _
  go_wp2
  go_ret
  exact ⟨rfl, show Gr w _ from (by repeat (first | exact Gr.refl _ | (refine Gr.step ?_ (by assumption)) | (refine Gr.alloc ?_ _) | (refine Gr.drew ?_)))⟩

set_option maxRecDepth 100000 in
set_option maxHeartbeats 8000000 in
theorem trees_more (a : Nat → Addr) (B : Nat) (D : List ByteArray) (A : Option Addr) (n c : Nat) (s e : Int) (w : World) (hE : Env B a w) (h : SIn w A n c D) (h0 : 0 ≤ s) (h1 : s < 18446744073709551616) (h2 : 0 ≤ e) (h3 : e < 18446744073709551616)
    (hg : n + bulk D ≤ 1048576) (hs : 2 ≤ e - s) (he : e ≤ ((keptL D).length : Int)) :
    Calls Tryd.prog 5 #[.slice A n c, .agg #[.int .u64 s, .int .u64 e]] w fun ev w' => ev = .returned (.bool true) ∧ Below w.heap.size w w' := by
  have HE := Lib.hid hE
  have HD := Lib.hid h
  have hwb : w.heap.size < (w.alloc (.cells #[.int .u64 s, .int .u64 e] 50)).heap.size := by simp
  have c0 : (w.alloc (.cells #[.int .u64 s, .int .u64 e] 50)).cell? ⟨w.heap.size, 0, none⟩ = some (.int .u64 s) := cell_new _ _ 0 _ rfl
  have c1 : (w.alloc (.cells #[.int .u64 s, .int .u64 e] 50)).cell? ⟨w.heap.size, 1, none⟩ = some (.int .u64 e) := cell_new _ _ 1 _ rfl
  have gb : Gr w (w.alloc (.cells #[.int .u64 s, .int .u64 e] 50)) := (Gr.refl _).alloc _
  obtain ⟨wb, hwb'⟩ : ∃ wb, (w.alloc (.cells #[.int .u64 s, .int .u64 e] 50)) = wb := ⟨_, rfl⟩
  rw [hwb'] at hwb c0 c1 gb
  have gb : Below w.heap.size w wb := gb
  have HWB := Lib.hid hwb'
  have hbx : (Tryd.prog.info? 50).map (·.size) = some 2 := by kernel_rfl
  have hn9 : n ≤ 140737488355328 := h.2.2.2.2.1
  clear hwb' hE h
  have HG := Lib.hid hg
  clear hg
  have HK := Lib.hid (And.intro hs he)
  clear hs he
  go_enter Tryd.func5, Tryd.ntmps5
  go_upto_region 1 with fail
  rw [HWB.out]
  go_wp2_with fail
  refine (texts_any D A n c wb (HD.out.below gb)).mono ?_
  rintro ev w' ⟨t, rfl, ht9, ht, rfl⟩
  have HT0 := Lib.hid ht
  clear ht
  go_wp2_with fail
  refine (beyond2 n t wb (by omega) ht9).mono ?_
  rintro ev w1 ⟨rfl, hw1⟩
  have b1 : Below wb.heap.size wb w1 := by rw [hw1]; exact (Below.refl _ _).alloc (Nat.le_refl _) _
  clear hw1
  have hgd : decide (1048576 < n + t) = false := by have := HT0.out; have := HG.out; simp; omega
  have hn10 : n ≤ 1048576 := by have := HG.out; omega
  rw [hgd]
  go_wp2_with fail
  refine (grown_any a B D A n c w1 (show Env B a w1 from HE.out.step (show Gr w w1 from (by repeat (first | exact Gr.refl _ | (refine Gr.step ?_ (by assumption)) | (refine Gr.alloc ?_ _) | (refine Gr.drew ?_))))) (HD.out.below (show Gr w w1 from (by repeat (first | exact Gr.refl _ | (refine Gr.step ?_ (by assumption)) | (refine Gr.alloc ?_ _) | (refine Gr.drew ?_))))) hn10).mono ?_
  rintro ev w2 ⟨lb, lv, rfl, hL2, b2⟩
  have HN := Lib.hid (show (keptL D).length ≤ 1048576 from hL2.1.1)
  have HL2 := Lib.hid hL2
  clear hL2
  have d0w2 := cell_below (show Gr wb w2 from (by repeat (first | exact Gr.refl _ | (refine Gr.step ?_ (by assumption)) | (refine Gr.alloc ?_ _) | (refine Gr.drew ?_)))) c0 hwb; have d1w2 := cell_below (show Gr wb w2 from (by repeat (first | exact Gr.refl _ | (refine Gr.step ?_ (by assumption)) | (refine Gr.alloc ?_ _) | (refine Gr.drew ?_)))) c1 hwb
  obtain ⟨L, hL⟩ : ∃ L, keptL D = L := ⟨_, rfl⟩
  rw [hL] at HN HL2 HK
  rw [hL]
  obtain ⟨N, hN⟩ : ∃ N, L.length = N := ⟨_, rfl⟩
  rw [hN] at HN HK
  rw [hN]
  have HNL := Lib.hid hN
  have hN0 : N ≤ 1048576 := HN.out
  have hwn : IntKind.u64.wrap (N : Int) = N := IntWalk.u64_in _ (by omega)
  clear hL hN
  go_wp2_with fail
  have hkk := blwI_bd (n := e - s) (by have := HK.out; omega)
  obtain ⟨k, hk0⟩ : ∃ k, blwI (e - s) = k := ⟨_, rfl⟩
  rw [hk0] at hkk
  obtain ⟨x, hx⟩ : ∃ x, treeB L s (s + k) = x := ⟨_, rfl⟩
  obtain ⟨y, hy⟩ : ∃ y, treeB L (s + k) e = y := ⟨_, rfl⟩
  have lx : x.length = 32 := by rw [← hx]; exact treeB_len _ _ _
  have ly : y.length = 32 := by rw [← hy]; exact treeB_len _ _ _
  obtain ⟨vx, evx, Hvx, Zvx, Ivx, Ovx⟩ := row_of x lx
  obtain ⟨vy, evy, Hvy, Zvy, Ivy, Ovy⟩ := row_of y ly
  have HTX : Hid (treeB L s e = nodeH x y) := Lib.hid (by
    rw [← hx, ← hy]
    have hk := HK.out
    have hn := HN.out
    unfold treeB
    rw [if_neg (by omega), if_neg (by omega), if_neg (by omega), treeT_node nodeH _ s e (by omega) (by rw [pow2_64]; omega), hk0])
  have HSP : Hid (∀ w, Calls Tryd.prog 31 #[.int .u64 (e - s)] w fun ev w' => ev = .returned (.tuple #[.int .u64 k, .bool true]) ∧ w = w') := Lib.hid (fun w => by
    have := split_yes (e - s) w (by have := HK.out; omega) (by have := HK.out; have := HN.out; omega)
    rw [hk0] at this; exact this)
  have HA : Hid (∀ w, Env B a w → LogAt w1.heap.size lb lv L w → Calls Tryd.prog 26 #[.pointer (some ⟨lb, 0, none⟩), .agg #[.int .u64 s, .int .u64 (s + k)]] w fun ev w' => ev = .returned (.tuple #[.agg vx, .nilIface]) ∧ Below w.heap.size w w') := Lib.hid (fun w h1 h2 => by
    have := tree_ok a B _ lb lv L s (s + k) w h1 h2 h0 (by omega) (by have := HK.out; have := HNL.out; omega)
    rw [hx, evx] at this; exact this)
  have HB : Hid (∀ w, Env B a w → LogAt w1.heap.size lb lv L w → Calls Tryd.prog 26 #[.pointer (some ⟨lb, 0, none⟩), .agg #[.int .u64 (s + k), .int .u64 e]] w fun ev w' => ev = .returned (.tuple #[.agg vy, .nilIface]) ∧ Below w.heap.size w w') := Lib.hid (fun w h1 h2 => by
    have := tree_ok a B _ lb lv L (s + k) e w h1 h2 (by omega) (by omega) (by have := HK.out; have := HNL.out; omega)
    rw [hy, evy] at this; exact this)
  have HLX := Lib.hid (And.intro lx (And.intro ly (And.intro evx evy)))
  have hkp : 0 < k := by omega
  have hkm : k < e - s := by omega
  have hsk : IntKind.u64.wrap (s + k) = s + k := IntWalk.u64_in _ (by omega)
  clear hk0 hx hy lx ly evx evy hkk
  have hk := HK.out
  have hse : s ≤ e := by omega
  have q9 : ((e - s : Int) == 0) = false := by simp; omega
  have q10 : ((e - s : Int) == 1) = false := by simp; omega
  have q1 : decide (e < s) = false := by simp; omega
  have q2 : decide ((N : Int) < e) = false := by simp; omega
  have HTR := Lib.hid (fun s e w hE hL h0 h1 h2 => tree_ok a B w1.heap.size lb lv L s e w hE hL h0 h1 h2)
  obtain ⟨hh, ehh⟩ : ∃ x, treeB L s e = x := ⟨_, rfl⟩
  have lhh : hh.length = 32 := by rw [← ehh]; exact treeB_len L s e
  obtain ⟨vh, evh, Hvh, Zvh, Ivh, Ovh⟩ := row_of hh lhh
  have HVH := Lib.hid (And.intro ehh evh)
  have hqh := eq_self hh lhh vh evh
  clear ehh evh
  refine (tree_ok a B _ lb lv L s e w2 (show Env B a w2 from HE.out.step (show Gr w w2 from (by repeat (first | exact Gr.refl _ | (refine Gr.step ?_ (by assumption)) | (refine Gr.alloc ?_ _) | (refine Gr.drew ?_))))) HL2.out h0 (by omega) (by rw [HNL.out]; omega)).mono ?_
  rw [HVH.out.1, HVH.out.2]
  rintro ev w3 ⟨rfl, b3⟩
  have HLV := Lib.hid (lives_any a B)
  go_upto_region 17 with (refine wpList_store_row_any rfl 29 _ _ rfl w3.heap.size vh rfl rfl 29 _ (heap_at _ _ _ rfl) Ivh.out (by rw [Zvh.out]; rfl) Ovh.out ?_; intro w4 hbN hgN hsN; have b4 : Below w3.heap.size w3 w4 := ((Below.refl _ w3).alloc (Nat.le_refl _) _).trans (hbN.to_below (by simp) (fun k hk q => by omega)); have Rw4 := Lib.hid hgN; have d0w4 := cell_below (show Gr wb w4 from (by repeat (first | exact Gr.refl _ | (refine Gr.step ?_ (by assumption)) | (refine Gr.alloc ?_ _) | (refine Gr.drew ?_)))) c0 hwb; have d1w4 := cell_below (show Gr wb w4 from (by repeat (first | exact Gr.refl _ | (refine Gr.step ?_ (by assumption)) | (refine Gr.alloc ?_ _) | (refine Gr.drew ?_)))) c1 hwb; clear hbN hgN hsN)
  have KH : Hid (∀ w', Gr w4 w' → w'.heap[w3.heap.size]? = some (.cells vh 29 (0, 0))) := Lib.hid (fun w' h => (h.block _ (Array.getElem?_eq_some_iff.1 Rw4.out).1).trans Rw4.out)
  have HND : Hid (∀ w, Env B a w → Calls Tryd.prog 32 #[.agg vx, .agg vy] w fun ev w' => ev = .returned (.agg vh) ∧ Below w.heap.size w w') := Lib.hid (fun w h => by
    have := hnode_any x y w HLX.out.1 HLX.out.2.1 h.tab
    rw [← HTX.out, HVH.out.1, HVH.out.2, HLX.out.2.2.1, HLX.out.2.2.2] at this; exact this)
  clear hk
  go_wp2_with fail
  refine (HSP.out w4).mono ?_
  rintro ev w' ⟨rfl, rfl⟩
  go_wp2_with fail
  refine (HA.out w4 (show Env B a w4 from HE.out.step (show Gr w w4 from (by repeat (first | exact Gr.refl _ | (refine Gr.step ?_ (by assumption)) | (refine Gr.alloc ?_ _) | (refine Gr.drew ?_))))) (HL2.out.below (show Gr w2 w4 from (by repeat (first | exact Gr.refl _ | (refine Gr.step ?_ (by assumption)) | (refine Gr.alloc ?_ _) | (refine Gr.drew ?_)))))).mono ?_
  rintro ev w5 ⟨rfl, b5⟩
  go_upto_region 19 with (refine wpList_store_row_any rfl 29 _ _ rfl w5.heap.size vx rfl rfl 29 _ (heap_at _ _ _ rfl) Ivx.out (by rw [Zvx.out]; rfl) Ovx.out ?_; intro w6 hbN hgN hsN; have b6 : Below w5.heap.size w5 w6 := ((Below.refl _ w5).alloc (Nat.le_refl _) _).trans (hbN.to_below (by simp) (fun k hk q => by omega)); have Rw6 := Lib.hid hgN; have d0w6 := cell_below (show Gr wb w6 from (by repeat (first | exact Gr.refl _ | (refine Gr.step ?_ (by assumption)) | (refine Gr.alloc ?_ _) | (refine Gr.drew ?_)))) c0 hwb; have d1w6 := cell_below (show Gr wb w6 from (by repeat (first | exact Gr.refl _ | (refine Gr.step ?_ (by assumption)) | (refine Gr.alloc ?_ _) | (refine Gr.drew ?_)))) c1 hwb; clear hbN hgN hsN)
  have KX : Hid (∀ w', Gr w6 w' → w'.heap[w5.heap.size]? = some (.cells vx 29 (0, 0))) := Lib.hid (fun w' h => (h.block _ (Array.getElem?_eq_some_iff.1 Rw6.out).1).trans Rw6.out)
  go_wp2_with fail
  refine (HB.out w6 (show Env B a w6 from HE.out.step (show Gr w w6 from (by repeat (first | exact Gr.refl _ | (refine Gr.step ?_ (by assumption)) | (refine Gr.alloc ?_ _) | (refine Gr.drew ?_))))) (HL2.out.below (show Gr w2 w6 from (by repeat (first | exact Gr.refl _ | (refine Gr.step ?_ (by assumption)) | (refine Gr.alloc ?_ _) | (refine Gr.drew ?_)))))).mono ?_
  rintro ev w7 ⟨rfl, b7⟩
  go_upto_region 20 with (refine wpList_store_row_any rfl 29 _ _ rfl w7.heap.size vy rfl rfl 29 _ (heap_at _ _ _ rfl) Ivy.out (by rw [Zvy.out]; rfl) Ovy.out ?_; intro w8 hbN hgN hsN; have b8 : Below w7.heap.size w7 w8 := ((Below.refl _ w7).alloc (Nat.le_refl _) _).trans (hbN.to_below (by simp) (fun k hk q => by omega)); have Rw8 := Lib.hid hgN; have d0w8 := cell_below (show Gr wb w8 from (by repeat (first | exact Gr.refl _ | (refine Gr.step ?_ (by assumption)) | (refine Gr.alloc ?_ _) | (refine Gr.drew ?_)))) c0 hwb; have d1w8 := cell_below (show Gr wb w8 from (by repeat (first | exact Gr.refl _ | (refine Gr.step ?_ (by assumption)) | (refine Gr.alloc ?_ _) | (refine Gr.drew ?_)))) c1 hwb; clear hbN hgN hsN)
  have KY : Hid (∀ w', Gr w8 w' → w'.heap[w7.heap.size]? = some (.cells vy 29 (0, 0))) := Lib.hid (fun w' h => (h.block _ (Array.getElem?_eq_some_iff.1 Rw8.out).1).trans Rw8.out)
  have KX2 : Hid (∀ w', Gr w8 w' → w'.heap[w5.heap.size]? = some (.cells vx 29 (0, 0))) := Lib.hid (fun w' h => KX.out w' (show Gr w6 w' from Gr.step (show Gr w6 w8 from (by repeat (first | exact Gr.refl _ | (refine Gr.step ?_ (by assumption)) | (refine Gr.alloc ?_ _) | (refine Gr.drew ?_)))) h))
  have KH2 : Hid (∀ w', Gr w8 w' → w'.heap[w3.heap.size]? = some (.cells vh 29 (0, 0))) := Lib.hid (fun w' h => KH.out w' (show Gr w4 w' from Gr.step (show Gr w4 w8 from (by repeat (first | exact Gr.refl _ | (refine Gr.step ?_ (by assumption)) | (refine Gr.alloc ?_ _) | (refine Gr.drew ?_)))) h))
  refine wp_region_held_drew (S := Gr w8) (by kernel_rfl) ((Gr.refl _).drew) (fun hHeld => ?_)
  refine wpAnyH_take (i := 0) (v := ?tv16) rfl (by kernel_rfl) (by kernel_rfl) (by kernel_rfl) (fun _ _ _ h => h) (Or.inl ⟨by rfl, ?ty16⟩) (by assumption) ?tr16
  case ty16 => (intro w hSw; (try dsimp only at hSw); go_simp; (try with_reducible rfl))
  try simp only [Act.put, List.getElem_toArray, List.getElem_cons_zero, List.setIfInBounds_toArray, List.set_cons_zero, List.set_cons_succ]
  refine wpAnyH_take (i := 1) (v := ?tv17) rfl (by kernel_rfl) (by kernel_rfl) (by kernel_rfl) (fun _ _ _ h => h) (Or.inl ⟨by rfl, ?ty17⟩) (by assumption) ?tr17
  case ty17 => (intro w hSw; (try dsimp only at hSw); go_simp; (try with_reducible rfl))
  try simp only [Act.put, List.getElem_toArray, List.getElem_cons_zero, List.getElem_cons_succ, List.setIfInBounds_toArray, List.set_cons_zero, List.set_cons_succ]
  refine wpAnyH_take (i := 2) (v := ?tv18) rfl (by kernel_rfl) (by kernel_rfl) (by kernel_rfl) (fun _ _ _ h => h) (Or.inl ⟨by rfl, ?ty18⟩) (by assumption) ?tr18
  case ty18 => (intro w hSw; (try dsimp only at hSw); go_simp; (try with_reducible rfl))
  try simp only [Act.put, List.getElem_toArray, List.getElem_cons_zero, List.getElem_cons_succ, List.setIfInBounds_toArray, List.set_cons_zero, List.set_cons_succ]
  refine wpAnyH_take (i := 3) (v := ?tv19) rfl (by kernel_rfl) (by kernel_rfl) (by kernel_rfl) (fun _ _ _ h => h) (Or.inl ⟨by rfl, ?ty19⟩) (by assumption) ?tr19
  case ty19 => (intro w hSw; (try dsimp only at hSw); go_simp; (try with_reducible rfl))
  try simp only [Act.put, List.getElem_toArray, List.getElem_cons_zero, List.getElem_cons_succ, List.setIfInBounds_toArray, List.set_cons_zero, List.set_cons_succ]
  refine wpAnyH_take (i := 4) (v := ?tv20) rfl (by kernel_rfl) (by kernel_rfl) (by kernel_rfl) (fun _ _ _ h => h) (Or.inl ⟨by rfl, ?ty20⟩) (by assumption) ?tr20
  case ty20 => (intro w hSw; (try dsimp only at hSw); go_simp; (try with_reducible rfl))
  try simp only [Act.put, List.getElem_toArray, List.getElem_cons_zero, List.getElem_cons_succ, List.setIfInBounds_toArray, List.set_cons_zero, List.set_cons_succ]
  refine wpAnyH_take (i := 5) (v := ?tv21) rfl (by kernel_rfl) (by kernel_rfl) (by kernel_rfl) (fun _ _ _ h => h) (Or.inl ⟨by rfl, ?ty21⟩) (by assumption) ?tr21
  case ty21 => (intro w hSw; (try dsimp only at hSw); go_simp; (try with_reducible rfl))
  try simp only [Act.put, List.getElem_toArray, List.getElem_cons_zero, List.getElem_cons_succ, List.setIfInBounds_toArray, List.set_cons_zero, List.set_cons_succ]
  refine wpAnyH_take (i := 6) (v := ?tv22) rfl (by kernel_rfl) (by kernel_rfl) (by kernel_rfl) (fun _ _ _ h => h) (Or.inl ⟨by rfl, ?ty22⟩) (by assumption) ?tr22
  case ty22 => (intro w hSw; (try dsimp only at hSw); go_simp; (try with_reducible rfl))
  try simp only [Act.put, List.getElem_toArray, List.getElem_cons_zero, List.getElem_cons_succ, List.setIfInBounds_toArray, List.set_cons_zero, List.set_cons_succ]
  refine wpAnyH_take (i := 7) (v := ?tv23) rfl (by kernel_rfl) (by kernel_rfl) (by kernel_rfl) (fun _ _ _ h => h) (Or.inl ⟨by rfl, ?ty23⟩) (by assumption) ?tr23
  case ty23 => (intro w hSw; (try dsimp only at hSw); go_simp; (try with_reducible rfl))
  try simp only [Act.put, List.getElem_toArray, List.getElem_cons_zero, List.getElem_cons_succ, List.setIfInBounds_toArray, List.set_cons_zero, List.set_cons_succ]
  refine wpAnyH_take (i := 8) (v := ?tv24) rfl (by kernel_rfl) (by kernel_rfl) (by kernel_rfl) (fun _ _ _ h => h) (Or.inl ⟨by rfl, ?ty24⟩) (by assumption) ?tr24
  case ty24 => (intro w hSw; (try dsimp only at hSw); go_simp; (try with_reducible rfl))
  try simp only [Act.put, List.getElem_toArray, List.getElem_cons_zero, List.getElem_cons_succ, List.setIfInBounds_toArray, List.set_cons_zero, List.set_cons_succ]
  refine wpAnyH_take (i := 9) (v := ?tv25) rfl (by kernel_rfl) (by kernel_rfl) (by kernel_rfl) (fun _ _ _ h => h) (Or.inl ⟨by rfl, ?ty25⟩) (by assumption) ?tr25
  case ty25 => (intro w hSw; (try dsimp only at hSw); go_simp; (try with_reducible rfl))
  try simp only [Act.put, List.getElem_toArray, List.getElem_cons_zero, List.getElem_cons_succ, List.setIfInBounds_toArray, List.set_cons_zero, List.set_cons_succ]
  refine wpAnyH_take (i := 10) (v := ?tv26) rfl (by kernel_rfl) (by kernel_rfl) (by kernel_rfl) (fun _ _ _ h => h) (Or.inl ⟨by rfl, ?ty26⟩) (by assumption) ?tr26
  case ty26 => (intro w hSw; (try dsimp only at hSw); go_simp; (try with_reducible rfl))
  try simp only [Act.put, List.getElem_toArray, List.getElem_cons_zero, List.getElem_cons_succ, List.setIfInBounds_toArray, List.set_cons_zero, List.set_cons_succ]
  refine wpAnyH_take (i := 11) (v := ?tv27) rfl (by kernel_rfl) (by kernel_rfl) (by kernel_rfl) (fun _ _ _ h => h) (Or.inl ⟨by rfl, ?ty27⟩) (by assumption) ?tr27
  case ty27 => (intro w hSw; (try dsimp only at hSw); go_simp; (try with_reducible rfl))
  try simp only [Act.put, List.getElem_toArray, List.getElem_cons_zero, List.getElem_cons_succ, List.setIfInBounds_toArray, List.set_cons_zero, List.set_cons_succ]
  refine wpAnyH_take (i := 12) (v := ?tv28) rfl (by kernel_rfl) (by kernel_rfl) (by kernel_rfl) (fun _ _ _ h => h) (Or.inl ⟨by rfl, ?ty28⟩) (by assumption) ?tr28
  case ty28 => (intro w hSw; (try dsimp only at hSw); go_simp; (try with_reducible rfl))
  try simp only [Act.put, List.getElem_toArray, List.getElem_cons_zero, List.getElem_cons_succ, List.setIfInBounds_toArray, List.set_cons_zero, List.set_cons_succ]
  refine wpAnyH_take (i := 13) (v := ?tv29) rfl (by kernel_rfl) (by kernel_rfl) (by kernel_rfl) (fun _ _ _ h => h) (Or.inl ⟨by rfl, ?ty29⟩) (by assumption) ?tr29
  case ty29 => (intro w hSw; (try dsimp only at hSw); go_simp; (try with_reducible rfl))
  try simp only [Act.put, List.getElem_toArray, List.getElem_cons_zero, List.getElem_cons_succ, List.setIfInBounds_toArray, List.set_cons_zero, List.set_cons_succ]
  refine wpAnyH_take (i := 14) (v := ?tv30) rfl (by kernel_rfl) (by kernel_rfl) (by kernel_rfl) (fun _ _ _ h => h) (Or.inl ⟨by rfl, ?ty30⟩) (by assumption) ?tr30
  case ty30 => (intro w hSw; (try dsimp only at hSw); go_simp; (try with_reducible rfl))
  try simp only [Act.put, List.getElem_toArray, List.getElem_cons_zero, List.getElem_cons_succ, List.setIfInBounds_toArray, List.set_cons_zero, List.set_cons_succ]
  refine wpAnyH_take (i := 15) (v := ?tv31) rfl (by kernel_rfl) (by kernel_rfl) (by kernel_rfl) (fun _ _ _ h => h) (Or.inl ⟨by rfl, ?ty31⟩) (by assumption) ?tr31
  case ty31 => (intro w hSw; (try dsimp only at hSw); go_simp; (try with_reducible rfl))
  try simp only [Act.put, List.getElem_toArray, List.getElem_cons_zero, List.getElem_cons_succ, List.setIfInBounds_toArray, List.set_cons_zero, List.set_cons_succ]
  refine wpAnyH_take (i := 16) (v := ?tv32) rfl (by kernel_rfl) (by kernel_rfl) (by kernel_rfl) (fun _ _ _ h => h) (Or.inl ⟨by rfl, ?ty32⟩) (by assumption) ?tr32
  case ty32 => (intro w hSw; (try dsimp only at hSw); go_simp; (try with_reducible rfl))
  try simp only [Act.put, List.getElem_toArray, List.getElem_cons_zero, List.getElem_cons_succ, List.setIfInBounds_toArray, List.set_cons_zero, List.set_cons_succ]
  refine wpAnyH_take (i := 17) (v := ?tv33) rfl (by kernel_rfl) (by kernel_rfl) (by kernel_rfl) (fun _ _ _ h => h) (Or.inl ⟨by rfl, ?ty33⟩) (by assumption) ?tr33
  case ty33 => (intro w hSw; (try dsimp only at hSw); go_simp; (try with_reducible rfl))
  try simp only [Act.put, List.getElem_toArray, List.getElem_cons_zero, List.getElem_cons_succ, List.setIfInBounds_toArray, List.set_cons_zero, List.set_cons_succ]
  refine wpAnyH_take (i := 18) (v := ?tv34) rfl (by kernel_rfl) (by kernel_rfl) (by kernel_rfl) (fun _ _ _ h => h) (Or.inl ⟨by rfl, ?ty34⟩) (by assumption) ?tr34
  case ty34 => (intro w hSw; (try dsimp only at hSw); go_simp; (try with_reducible rfl))
  try simp only [Act.put, List.getElem_toArray, List.getElem_cons_zero, List.getElem_cons_succ, List.setIfInBounds_toArray, List.set_cons_zero, List.set_cons_succ]
  refine wpAnyH_take (i := 19) (v := _) rfl (by kernel_rfl) (by kernel_rfl) (by kernel_rfl) (fun _ _ _ h => h) (yieldsIf_load_row (by rfl) 29 _ (by rfl) _ (by rfl) 29 vh (0, 0) _ (fun w h => KH2.out w h) Tryd.underlying29 rfl Ivh.out) (by assumption) ?_
  try simp only [Act.put, List.getElem_toArray, List.getElem_cons_zero, List.getElem_cons_succ, List.setIfInBounds_toArray, List.set_cons_zero, List.set_cons_succ]
  refine wpAnyH_take (i := 20) (v := _) rfl (by kernel_rfl) (by kernel_rfl) (by kernel_rfl) (fun _ _ _ h => h) (yieldsIf_load_row (by rfl) 29 _ (by rfl) _ (by rfl) 29 vx (0, 0) _ (fun w h => KX2.out w h) Tryd.underlying29 rfl Ivx.out) (by assumption) ?_
  try simp only [Act.put, List.getElem_toArray, List.getElem_cons_zero, List.getElem_cons_succ, List.setIfInBounds_toArray, List.set_cons_zero, List.set_cons_succ]
  refine wpAnyH_take (i := 21) (v := _) rfl (by kernel_rfl) (by kernel_rfl) (by kernel_rfl) (fun _ _ _ h => h) (yieldsIf_load_row (by rfl) 29 _ (by rfl) _ (by rfl) 29 vy (0, 0) _ (fun w h => KY.out w h) Tryd.underlying29 rfl Ivy.out) (by assumption) ?_
  try simp only [Act.put, List.getElem_toArray, List.getElem_cons_zero, List.getElem_cons_succ, List.setIfInBounds_toArray, List.set_cons_zero, List.set_cons_succ]
  refine wpAnyH_ready (rs := [22]) (by kernel_rfl) (by simp) ?_
  refine AllReadyH.cons (i := 22) rfl (fun K2 hK2 => ?_) AllReadyH.nil
  go_simp
  go_at_call 32
  refine (HND.out w8.drew (show Env B a w8.drew from HE.out.step (show Gr w w8.drew from (by repeat (first | exact Gr.refl _ | (refine Gr.step ?_ (by assumption)) | (refine Gr.alloc ?_ _) | (refine Gr.drew ?_)))))).mono ?_
  rintro ev w105 ⟨rfl, b105⟩
  try go_wp2_with fail
  refine hK2.out _ _ (show Gr w8 _ from (by repeat (first | exact Gr.refl _ | (refine Gr.step ?_ (by assumption)) | (refine Gr.alloc ?_ _) | (refine Gr.drew ?_)))) (fun hHeld2 => ?_)
  clear hK2 K2
  try simp only [Act.put, List.getElem_toArray, List.getElem_cons_zero, List.getElem_cons_succ, List.setIfInBounds_toArray, List.set_cons_zero, List.set_cons_succ]
  refine wpAnyH_take (i := 23) (v := ?tv38) rfl (by kernel_rfl) (by kernel_rfl) (by kernel_rfl) (fun _ _ _ h => h) (Or.inl ⟨by rfl, ?ty38⟩) (by assumption) ?tr38
  case ty38 => (intro w hSw; (try dsimp only at hSw); go_simp; (try with_reducible rfl))
  try simp only [Act.put, List.getElem_toArray, List.getElem_cons_zero, List.getElem_cons_succ, List.setIfInBounds_toArray, List.set_cons_zero, List.set_cons_succ]
  refine wpAnyH_take (i := 24) (v := ?tv39) rfl (by kernel_rfl) (by kernel_rfl) (by kernel_rfl) (fun _ _ _ h => h) (Or.inl ⟨by rfl, ?ty39⟩) (by assumption) ?tr39
  case ty39 => (intro w hSw; (try dsimp only at hSw); go_simp; (try with_reducible rfl))
  try simp only [Act.put, List.getElem_toArray, List.getElem_cons_zero, List.getElem_cons_succ, List.setIfInBounds_toArray, List.set_cons_zero, List.set_cons_succ]
  refine wpAnyH_take (i := 25) (v := ?tv40) rfl (by kernel_rfl) (by kernel_rfl) (by kernel_rfl) (fun _ _ _ h => h) (Or.inl ⟨by rfl, ?ty40⟩) (by assumption) ?tr40
  case ty40 => (intro w hSw; (try dsimp only at hSw); go_simp; (try with_reducible rfl))
  try simp only [Act.put, List.getElem_toArray, List.getElem_cons_zero, List.getElem_cons_succ, List.setIfInBounds_toArray, List.set_cons_zero, List.set_cons_succ]
  refine wpAnyH_ready (rs := [26]) (by kernel_rfl) (by simp) ?_
  refine AllReadyH.cons (i := 26) rfl (fun K2 hK2 => ?_) AllReadyH.nil
  go_simp
  go_at_call 27
  refine (HLV.out w105 (show Env B a w105 from HE.out.step (show Gr w w105 from (by repeat (first | exact Gr.refl _ | (refine Gr.step ?_ (by assumption)) | (refine Gr.alloc ?_ _) | (refine Gr.drew ?_)))))).mono ?_
  rintro ev w106 ⟨rfl, b106⟩
  try go_wp2_with fail
  refine hK2.out _ _ (show Gr w8 _ from (by repeat (first | exact Gr.refl _ | (refine Gr.step ?_ (by assumption)) | (refine Gr.alloc ?_ _) | (refine Gr.drew ?_)))) (fun hHeld2 => ?_)
  clear hK2 K2
  try simp only [Act.put, List.getElem_toArray, List.getElem_cons_zero, List.getElem_cons_succ, List.setIfInBounds_toArray, List.set_cons_zero, List.set_cons_succ]
  refine wpAnyH_take (i := 27) (v := ?tv41) rfl (by kernel_rfl) (by kernel_rfl) (by kernel_rfl) (fun _ _ _ h => h) (Or.inl ⟨by rfl, ?ty41⟩) (by assumption) ?tr41
  case ty41 => (intro w hSw; (try dsimp only at hSw); go_simp; (try with_reducible rfl))
  try simp only [Act.put, List.getElem_toArray, List.getElem_cons_zero, List.getElem_cons_succ, List.setIfInBounds_toArray, List.set_cons_zero, List.set_cons_succ]
  refine wpAnyH_take (i := 28) (v := ?tv42) rfl (by kernel_rfl) (by kernel_rfl) (by kernel_rfl) (fun _ _ _ h => h) (Or.inl ⟨by rfl, ?ty42⟩) (by assumption) ?tr42
  case ty42 => (intro w hSw; (try dsimp only at hSw); go_simp; (try with_reducible rfl))
  try simp only [Act.put, List.getElem_toArray, List.getElem_cons_zero, List.getElem_cons_succ, List.setIfInBounds_toArray, List.set_cons_zero, List.set_cons_succ]
  refine wpAnyH_done (by kernel_rfl) ?_ _
  go_wp2
  go_ret
  exact ⟨rfl, show Gr w _ from (by repeat (first | exact Gr.refl _ | (refine Gr.step ?_ (by assumption)) | (refine Gr.alloc ?_ _) | (refine Gr.drew ?_)))⟩
end Go.Proofs.YtmfngcnmacjbfaaDoor
