/- The law NaiveStays (a). Condition: the package-level variables read as listed. -/
import Derived.Test.YtmfngcnmacjbfaaDoorLaw08Aid
import Derived.Test.YtmfngcnmacjbfaaDoorNaiveStretch
import Derived.BigQuiet
import Derived.Deep.QuietTactic
import Derived.Deep.DeepCutAuto
namespace Go.Proofs.YtmfngcnmacjbfaaDoor
open Go.ChangeShapes Go.WideShapes Go.ChangeAt Go.RowKit
set_option linter.unusedVariables false
/-- what lay in the blocks from lo to hi lies as it lay -/
def Mid (lo hi : Nat) (w w' : World) : Prop := ∀ k, lo ≤ k → k < hi → w'.heap[k]? = w.heap[k]?
theorem Mid.refl (lo hi : Nat) (w : World) : Mid lo hi w w := fun _ _ _ => rfl
theorem Mid.trans {lo hi : Nat} {a b c : World} (h : Mid lo hi a b) (k : Mid lo hi b c) : Mid lo hi a c := fun i h1 h2 => (k i h1 h2).trans (h i h1 h2)
theorem Mid.below {lo hi : Nat} {a b : World} (h : Below a.heap.size a b) (hh : hi ≤ a.heap.size) : Mid lo hi a b := fun i _ h2 => h.block i (by omega)
theorem Mid.coll {lo hi Bl : Nat} {a b : World} {v v' : Value} (h : Coll Bl a b v v') (hh : hi ≤ a.heap.size) (hb : Bl < lo ∨ hi ≤ Bl) (hv : ∀ k, v.ownBlock = some k → k < lo ∨ hi ≤ k) : Mid lo hi a b := fun i h1 h2 =>
  h.same i (by omega) (by omega) (fun e => by have := hv i e.symm; omega)
theorem own_mid {lo hi : Nat} {w w' : World} {e : TypeId} {size : Nat} {v : Value} {n : Nat} {xs : List Value} (h : w.ownsRow lo e size v n xs) (hm : Mid lo hi w w') (hh : w.heap.size ≤ hi) : w'.ownsRow lo e size v n xs :=
  own_kept h (fun g hg => hm g (h.lt g hg).1 (by have := (h.lt g hg).2; omega))
theorem treesB_more (L M : List ByteArray) (l : List (Int × Int)) (sz : Int) (h : SpansIn l sz) (hs : sz ≤ (L.length : Int)) : treesB (L ++ M) l = treesB L l := by
  unfold treesB
  refine List.map_congr_left fun p hp => ?_
  have := h p hp
  exact treeB_more L M p.1 p.2 (by omega) (by omega) (by omega)

set_option maxRecDepth 100000 in
set_option maxHeartbeats 8000000 in
theorem stays_great (a : Nat → Addr) (B : Nat) (D D' : List ByteArray) (A A' : Option Addr) (n c n' c' : Nat) (x y : Int) (w : World) (hE : Env B a w) (h : SIn w A n c D) (h' : SIn w A' n' c' D') (hx0 : 0 ≤ x) (hx9 : x < 18446744073709551616) (hy0 : 0 ≤ y) (hy9 : y < 18446744073709551616)
    (hg : 1048576 < n + n' + bulk D + bulk D') :
    Calls Tryd.prog 9 #[.slice A n c, .slice A' n' c', .int .u64 x, .int .u64 y] w fun ev w' => ev = .returned (.bool true) ∧ Below w.heap.size w w' := by
  have HE := Lib.hid hE
  have HD := Lib.hid h
  have HD2 := Lib.hid h'
  have hn9 : n ≤ 140737488355328 := h.2.2.2.2.1
  have hn9' : n' ≤ 140737488355328 := h'.2.2.2.2.1
  have HG := Lib.hid hg
  clear hE h h' hg
  go_enter Tryd.func9, Tryd.ntmps9
  go_wp2_with fail
  refine (texts_any D A n c w HD.out).mono ?_
  rintro ev w0 ⟨t, rfl, ht9, ht, rfl⟩
  have HT0 := Lib.hid ht
  clear ht
  go_wp2_with fail
  refine (texts_any D' A' n' c' w HD2.out).mono ?_
  rintro ev w0 ⟨t', rfl, ht9', ht', rfl⟩
  have HT1 := Lib.hid ht'
  clear ht'
  go_wp2_with fail
  refine (beyond4 n n' t t' w (by omega) (by omega) ht9 ht9').mono ?_
  rintro ev w1 ⟨rfl, hw1⟩
  have b1 : Below w.heap.size w w1 := by rw [hw1]; exact (Below.refl _ _).alloc (Nat.le_refl _) _
  clear hw1
  have hgd : decide (1048576 < n + n' + t + t') = true := by have := HT0.out; have := HT1.out; have := HG.out; simp; omega
  rw [hgd]
  go_wp2
  go_ret
  exact ⟨rfl, show Gr w _ from (by repeat (first | exact Gr.refl _ | (refine Gr.step ?_ (by assumption)) | (refine Gr.alloc ?_ _) | (refine Gr.drew ?_)))⟩

set_option maxRecDepth 100000 in
set_option maxHeartbeats 8000000 in
theorem stays_yyy (a : Nat → Addr) (B : Nat) (D D' : List ByteArray) (A A' : Option Addr) (n c n' c' : Nat) (x y : Int) (w : World) (hE : Env B a w) (h : SIn w A n c D) (h' : SIn w A' n' c' D') (hx0 : 0 ≤ x) (hx9 : x < 18446744073709551616) (hy0 : 0 ≤ y) (hy9 : y < 18446744073709551616)
    (hg : n + n' + bulk D + bulk D' ≤ 1048576) (k1 : x < ((keptL D).length : Int)) (k2 : 0 < x ∧ x ≤ ((keptL D).length : Int)) (k3 : x < y ∧ y ≤ ((keptL D).length : Int)) :
    Calls Tryd.prog 9 #[.slice A n c, .slice A' n' c', .int .u64 x, .int .u64 y] w fun ev w' => ev = .returned (.bool true) ∧ Below w.heap.size w w' := by
  have HK := Lib.hid (And.intro k1 (And.intro k2 k3))
  clear k1 k2 k3
  have HE := Lib.hid hE
  have HD := Lib.hid h
  have HD2 := Lib.hid h'
  have hn9 : n ≤ 140737488355328 := h.2.2.2.2.1
  have hn9' : n' ≤ 140737488355328 := h'.2.2.2.2.1
  have HG := Lib.hid hg
  clear hE h h' hg
  go_enter Tryd.func9, Tryd.ntmps9
  go_wp2_with fail
  refine (texts_any D A n c w HD.out).mono ?_
  rintro ev w0 ⟨t, rfl, ht9, ht, rfl⟩
  have HT0 := Lib.hid ht
  clear ht
  go_wp2_with fail
  refine (texts_any D' A' n' c' w HD2.out).mono ?_
  rintro ev w0 ⟨t', rfl, ht9', ht', rfl⟩
  have HT1 := Lib.hid ht'
  clear ht'
  go_wp2_with fail
  refine (beyond4 n n' t t' w (by omega) (by omega) ht9 ht9').mono ?_
  rintro ev w1 ⟨rfl, hw1⟩
  have b1 : Below w.heap.size w w1 := by rw [hw1]; exact (Below.refl _ _).alloc (Nat.le_refl _) _
  clear hw1
  have hgd : decide (1048576 < n + n' + t + t') = false := by have := HT0.out; have := HT1.out; have := HG.out; simp; omega
  have hn10 : n ≤ 1048576 := by have := HG.out; omega
  have hn10' : n' ≤ 1048576 := by have := HG.out; omega
  rw [hgd]
  go_wp2_with fail
  refine (grown_any a B D A n c w1 (show Env B a w1 from HE.out.step (show Gr w w1 from (by repeat (first | exact Gr.refl _ | (refine Gr.step ?_ (by assumption)) | (refine Gr.alloc ?_ _) | (refine Gr.drew ?_))))) (HD.out.below (show Gr w w1 from (by repeat (first | exact Gr.refl _ | (refine Gr.step ?_ (by assumption)) | (refine Gr.alloc ?_ _) | (refine Gr.drew ?_))))) hn10).mono ?_
  rintro ev w2 ⟨lb, lv, rfl, hL2, b2⟩
  have HN := Lib.hid (show (keptL D).length ≤ 1048576 from hL2.1.1)
  have HL2 := Lib.hid hL2
  clear hL2
  obtain ⟨L, hL⟩ : ∃ L, keptL D = L := ⟨_, rfl⟩
  rw [hL] at HN HL2 HK
  rw [hL]
  obtain ⟨N, hN⟩ : ∃ N, L.length = N := ⟨_, rfl⟩
  rw [hN] at HN HK
  rw [hN]
  have HNL := Lib.hid hN
  have hN0 : N ≤ 1048576 := HN.out
  have hwn : IntKind.u64.wrap (N : Int) = N := IntWalk.u64_in _ (by omega)
  have HLV := Lib.hid (lives_any a B)
  clear hL hN
  obtain ⟨k1, k2, k3⟩ := HK.out
  have hz0 : (0 : Int) ≤ N := by omega
  have hz9 : (N : Int) < 18446744073709551616 := by omega
  obtain ⟨l1, hl1⟩ : ∃ l, pathL 64 x 0 N = l := ⟨_, rfl⟩
  obtain ⟨m1, hm1⟩ : ∃ m, l1.length = m := ⟨_, rfl⟩
  have I1 := Lib.hid (show SpansIn l1 N from by rw [← hl1]; exact path_spansIn x N hx0 k1 (by omega))
  have N1 : m1 ≤ 1000 := by rw [← hm1, ← hl1]; exact (by have := pathL_len 64 x 0 N; omega)
  have E1 := Lib.hid (And.intro hl1 hm1)
  clear hl1 hm1
  obtain ⟨l2, hl2⟩ : ∃ l, proofL 64 x 0 N = l := ⟨_, rfl⟩
  obtain ⟨m2, hm2⟩ : ∃ m, l2.length = m := ⟨_, rfl⟩
  have I2 := Lib.hid (show SpansIn l2 N from by rw [← hl2]; exact proof_spansIn x N k2.1 k2.2 (by omega))
  have N2 : m2 ≤ 1000 := by rw [← hm2, ← hl2]; exact (by have := proofL_len 64 x 0 N; omega)
  have E2 := Lib.hid (And.intro hl2 hm2)
  clear hl2 hm2
  obtain ⟨l3, hl3⟩ : ∃ l, batchL 64 x y 0 N = l := ⟨_, rfl⟩
  obtain ⟨m3, hm3⟩ : ∃ m, l3.length = m := ⟨_, rfl⟩
  have I3 := Lib.hid (show SpansIn l3 N from by rw [← hl3]; exact batch_spansIn x y N hx0 k3.1 k3.2 (by omega))
  have N3 : m3 ≤ 1000 := by rw [← hm3, ← hl3]; exact (by have := batchL_len 64 x y 0 N (by omega) (by rw [pow2_64]; omega); omega)
  have E3 := Lib.hid (And.intro hl3 hm3)
  clear hl3 hm3
  obtain ⟨rt, hrt⟩ : ∃ r, treeB L 0 N = r := ⟨_, rfl⟩
  have lrt : rt.length = 32 := by rw [← hrt]; exact treeB_len L 0 N
  obtain ⟨vr, evr, Hvr, Zvr, Ivr, Ovr⟩ := row_of rt lrt
  have hqr := eq_self rt lrt vr evr
  have HRT := Lib.hid (And.intro hrt evr)
  clear hrt lrt evr
  have hz0' := hz0
  go_wp2_with fail
  refine (lroot_ok a B _ lb lv L N w2 (show Env B a w2 from HE.out.step (show Gr w w2 from (by repeat (first | exact Gr.refl _ | (refine Gr.step ?_ (by assumption)) | (refine Gr.alloc ?_ _) | (refine Gr.drew ?_))))) HL2.out hz0 (by rw [HNL.out]; exact Int.le_refl _)).mono ?_
  rw [HRT.out.1, HRT.out.2]
  rintro ev w3 ⟨rfl, b3⟩
  go_upto_region 8 with (refine wpList_store_row_any rfl 29 _ _ rfl w3.heap.size vr rfl rfl 29 _ (heap_at _ _ _ rfl) Ivr.out (by rw [Zvr.out]; rfl) Ovr.out ?_; intro w4 hbN hgN hsN; have b4 : Below w3.heap.size w3 w4 := ((Below.refl _ w3).alloc (Nat.le_refl _) _).trans (hbN.to_below (by simp) (fun k hk q => by omega)); have Rw4 := Lib.hid hgN; clear hbN hgN hsN)
  go_wp2_with fail
  refine (lpath_ok a B _ lb lv L x N w4 (show Env B a w4 from HE.out.step (show Gr w w4 from (by repeat (first | exact Gr.refl _ | (refine Gr.step ?_ (by assumption)) | (refine Gr.alloc ?_ _) | (refine Gr.drew ?_))))) (HL2.out.below (show Gr w2 w4 from (by repeat (first | exact Gr.refl _ | (refine Gr.step ?_ (by assumption)) | (refine Gr.alloc ?_ _) | (refine Gr.drew ?_))))) hx0 k1 (by rw [HNL.out]; exact Int.le_refl _)).mono ?_
  rw [E1.out.1]
  rintro ev w5 ⟨h32_1, va1, rfl, own1, b5⟩
  rw [treesB_len, E1.out.2] at own1
  obtain ⟨A1, ca1, rfl, hca1⟩ := own_shape own1
  have X1 := Lib.hid (And.intro h32_1 (own_mono own1 (show w2.heap.size ≤ w4.heap.size from (show Gr w2 w4 from (by repeat (first | exact Gr.refl _ | (refine Gr.step ?_ (by assumption)) | (refine Gr.alloc ?_ _) | (refine Gr.drew ?_)))).size)))
  clear h32_1 own1
  go_wp2_with fail
  refine (lproof_ok a B _ lb lv L x N w5 (show Env B a w5 from HE.out.step (show Gr w w5 from (by repeat (first | exact Gr.refl _ | (refine Gr.step ?_ (by assumption)) | (refine Gr.alloc ?_ _) | (refine Gr.drew ?_))))) (HL2.out.below (show Gr w2 w5 from (by repeat (first | exact Gr.refl _ | (refine Gr.step ?_ (by assumption)) | (refine Gr.alloc ?_ _) | (refine Gr.drew ?_))))) k2.1 k2.2 (by rw [HNL.out]; exact Int.le_refl _)).mono ?_
  rw [E2.out.1]
  rintro ev w6 ⟨h32_2, va2, rfl, own2, b6⟩
  rw [treesB_len, E2.out.2] at own2
  obtain ⟨A2, ca2, rfl, hca2⟩ := own_shape own2
  have X2 := Lib.hid (And.intro h32_2 (own_mono own2 (show w2.heap.size ≤ w5.heap.size from (show Gr w2 w5 from (by repeat (first | exact Gr.refl _ | (refine Gr.step ?_ (by assumption)) | (refine Gr.alloc ?_ _) | (refine Gr.drew ?_)))).size)))
  clear h32_2 own2
  go_wp2_with fail
  refine (lbatch_ok a B _ lb lv L x y N w6 (show Env B a w6 from HE.out.step (show Gr w w6 from (by repeat (first | exact Gr.refl _ | (refine Gr.step ?_ (by assumption)) | (refine Gr.alloc ?_ _) | (refine Gr.drew ?_))))) (HL2.out.below (show Gr w2 w6 from (by repeat (first | exact Gr.refl _ | (refine Gr.step ?_ (by assumption)) | (refine Gr.alloc ?_ _) | (refine Gr.drew ?_))))) hx0 k3.1 k3.2 (by rw [HNL.out]; exact Int.le_refl _)).mono ?_
  rw [E3.out.1]
  rintro ev w7 ⟨h32_3, va3, rfl, own3, b7⟩
  rw [treesB_len, E3.out.2] at own3
  obtain ⟨A3, ca3, rfl, hca3⟩ := own_shape own3
  have X3 := Lib.hid (And.intro h32_3 (own_mono own3 (show w2.heap.size ≤ w6.heap.size from (show Gr w2 w6 from (by repeat (first | exact Gr.refl _ | (refine Gr.step ?_ (by assumption)) | (refine Gr.alloc ?_ _) | (refine Gr.drew ?_)))).size)))
  clear h32_3 own3
  try unfold errV
  go_upto_region 12 with fail
  have HW : Unit → Gr w2 w7 := fun _ => (by repeat (first | exact Gr.refl _ | (refine Gr.step ?_ (by assumption)) | (refine Gr.alloc ?_ _) | (refine Gr.drew ?_)))
  go_loopw [21] (fun i wr => ∃ (k : Nat) (M : List ByteArray) (v : Value), k ≤ n' ∧ i = .int .i64 k ∧ Hid (LogAt w1.heap.size lb v (L ++ M) wr) ∧ Hid (∀ g, v.ownBlock = some g → g < w2.heap.size ∨ w7.heap.size ≤ g) ∧ Hid (Mid w2.heap.size w7.heap.size w7 wr) ∧ Hid (w7.heap.size ≤ wr.heap.size ∧ Below w1.heap.size w1 wr)) (fun i _ => n' - (intOf i).toNat)
  case atStart => exact ⟨0, [], lv, Nat.zero_le _, rfl, Lib.hid (by rw [List.append_nil]; exact HL2.out.below (HW ())), Lib.hid (fun g hg => .inl (HL2.out.2.2.2.1.lt g hg).2), Lib.hid (Mid.refl _ _ _), Lib.hid ⟨Nat.le_refl _, b2.trans (Below.mono (show Below w2.heap.size w2 w7 from HW ()) b2.size)⟩⟩
  case round =>
    obtain ⟨k, M, v, hk, rfl, HLG, HOB, HMD, HBW⟩ := hrel
    by_cases hlt : k < n'
    · obtain ⟨s, hs⟩ : ∃ s, D'[k]? = some s := ⟨_, List.getElem?_eq_getElem (by have := HD2.out.1; omega)⟩
      obtain ⟨g, o, rfl, hc0, hg, hsz⟩ := HD2.out.at hs
      have hww : Below w.heap.size w wr := b1.trans (HBW.out.2.mono b1.size)
      have hc := cell_below hww hc0 hg
      have i0 : (0 : Int) ≤ k := by omega
      have i1 : (k : Int) < n' := by omega
      have hEr := Lib.hid (HE.out.step hww)
      have hsl : (s.size : Int) ≤ 140737488355328 := by omega
      have HLT := Lib.hid (show lb < w2.heap.size from HL2.out.lt)
      by_cases hok : s.size ≤ 65536 ∧ (L ++ M).length < 1048576
      · have HA := Lib.hid (append_ok w1.heap.size lb v (L ++ M) s wr HLG.out hok.1 hok.2 HBW.out.2.size)
        clear hs hok hc0 hg
        go_wp2_with fail
        refine HA.out.mono ?_
        rintro e w8 ⟨rfl, v2, hL8, hC8⟩
        have HL8 := Lib.hid (show LogAt w1.heap.size lb v2 (L ++ (M ++ [s])) w8 by rw [← List.append_assoc]; exact hL8)
        have HC8 := Lib.hid hC8
        clear hL8 hC8
        go_wp2
        go_roundw
        case rel => exact ⟨k + 1, M ++ [s], v2, by omega, by go_num, HL8, Lib.hid (fun g hg => by
          rcases HC8.out.blk g hg with q | q
          · exact HOB.out g q
          · have := HBW.out.1; exact .inr (by omega)), Lib.hid (HMD.out.trans (Mid.coll HC8.out HBW.out.1 (.inl HLT.out) HOB.out)), Lib.hid ⟨Nat.le_trans HBW.out.1 HC8.out.size, HBW.out.2.trans (HC8.out.below_of HLG.out.2.1 HBW.out.2.size HLG.out.own_ge)⟩⟩
        case measure => simp [intOf]; omega
      · have HA := Lib.hid (append_bad a B w1.heap.size lb v (L ++ M) s wr hEr.out HLG.out (by omega))
        clear hs hok hc0 hg
        go_wp2_with fail
        refine HA.out.mono ?_
        rintro e w8 ⟨rfl, hb8⟩
        have HB8 := Lib.hid hb8
        clear hb8
        go_wp2
        go_roundw
        case rel => exact ⟨k + 1, M, v, by omega, by go_num, Lib.hid (HLG.out.below HB8.out), HOB, Lib.hid (HMD.out.trans (Mid.below HB8.out HBW.out.1)), Lib.hid ⟨Nat.le_trans HBW.out.1 HB8.out.size, HBW.out.2.trans (HB8.out.mono HBW.out.2.size)⟩⟩
        case measure => simp [intOf]; omega
    · obtain rfl : k = n' := by omega
      have bw : Below w.heap.size w wr := b1.trans (HBW.out.2.mono b1.size)
      have HLM := Lib.hid (show (N : Int) ≤ ((L ++ M).length : Int) by rw [List.length_append, HNL.out]; omega)
      have HRM : Hid (treeB (L ++ M) 0 N = treeB L 0 N) := Lib.hid (treeB_more L M 0 N (by omega) hz0 (by rw [HNL.out]; exact Int.le_refl _))
      have KR : Hid (wr.heap[w3.heap.size]? = some (.cells vr 29 (0, 0))) := Lib.hid (by
        have hl := (Array.getElem?_eq_some_iff.1 Rw4.out).1
        rw [HMD.out w3.heap.size (show Gr w2 w3 from (by repeat (first | exact Gr.refl _ | (refine Gr.step ?_ (by assumption)) | (refine Gr.alloc ?_ _) | (refine Gr.drew ?_)))).size (Nat.lt_of_lt_of_le hl (show Gr w4 w7 from (by repeat (first | exact Gr.refl _ | (refine Gr.step ?_ (by assumption)) | (refine Gr.alloc ?_ _) | (refine Gr.drew ?_)))).size)]
        exact ((show Below w4.heap.size w4 w7 from (show Gr w4 w7 from (by repeat (first | exact Gr.refl _ | (refine Gr.step ?_ (by assumption)) | (refine Gr.alloc ?_ _) | (refine Gr.drew ?_))))).block _ hl).trans Rw4.out)
      have Y1 : Hid (HIn wr A1 m1 ca1 (treesB L l1)) := Lib.hid (own_hin (own_mid (own_below X1.out.2 (show Below w5.heap.size w5 w7 from (show Gr w5 w7 from (by repeat (first | exact Gr.refl _ | (refine Gr.step ?_ (by assumption)) | (refine Gr.alloc ?_ _) | (refine Gr.drew ?_))))) (Nat.le_refl _)) HMD.out (Nat.le_refl _)) X1.out.1 (by rw [treesB_len, E1.out.2]))
      have Y2 : Hid (HIn wr A2 m2 ca2 (treesB L l2)) := Lib.hid (own_hin (own_mid (own_below X2.out.2 (show Below w6.heap.size w6 w7 from (show Gr w6 w7 from (by repeat (first | exact Gr.refl _ | (refine Gr.step ?_ (by assumption)) | (refine Gr.alloc ?_ _) | (refine Gr.drew ?_))))) (Nat.le_refl _)) HMD.out (Nat.le_refl _)) X2.out.1 (by rw [treesB_len, E2.out.2]))
      have Y3 : Hid (HIn wr A3 m3 ca3 (treesB L l3)) := Lib.hid (own_hin (own_mid (own_below X3.out.2 (show Below w7.heap.size w7 w7 from (show Gr w7 w7 from (by repeat (first | exact Gr.refl _ | (refine Gr.step ?_ (by assumption)) | (refine Gr.alloc ?_ _) | (refine Gr.drew ?_))))) (Nat.le_refl _)) HMD.out (Nat.le_refl _)) X3.out.1 (by rw [treesB_len, E3.out.2]))
      clear b1 b2 b3 b4 b5 b6 b7
      go_wp2_with fail
      refine (lroot_ok a B _ lb v (L ++ M) N wr (show Env B a wr from HE.out.step (show Gr w wr from (by repeat (first | exact Gr.refl _ | (refine Gr.step ?_ (by assumption)) | (refine Gr.alloc ?_ _) | (refine Gr.drew ?_))))) HLG.out hz0 HLM.out).mono ?_
      rw [HRM.out, HRT.out.1, HRT.out.2]
      rintro ev w8 ⟨rfl, b8⟩
      go_upto_region 16 with (refine wpList_store_row_any rfl 29 _ _ rfl w8.heap.size vr rfl rfl 29 _ (heap_at _ _ _ rfl) Ivr.out (by rw [Zvr.out]; rfl) Ovr.out ?_; intro w9 hbN hgN hsN; have b9 : Below w8.heap.size w8 w9 := ((Below.refl _ w8).alloc (Nat.le_refl _) _).trans (hbN.to_below (by simp) (fun k hk q => by omega)); have Rw9 := Lib.hid hgN; clear hbN hgN hsN)
      go_wp2_with fail
      refine (lpath_ok a B _ lb v (L ++ M) x N w9 (show Env B a w9 from HE.out.step (show Gr w w9 from (by repeat (first | exact Gr.refl _ | (refine Gr.step ?_ (by assumption)) | (refine Gr.alloc ?_ _) | (refine Gr.drew ?_))))) (HLG.out.below (show Gr wr w9 from (by repeat (first | exact Gr.refl _ | (refine Gr.step ?_ (by assumption)) | (refine Gr.alloc ?_ _) | (refine Gr.drew ?_))))) hx0 k1 HLM.out).mono ?_
      rw [E1.out.1, treesB_more L M l1 N I1.out (by rw [HNL.out]; exact Int.le_refl _)]
      rintro ev w10 ⟨h32_1, vb1, rfl, own1, b10⟩
      rw [treesB_len, E1.out.2] at own1
      obtain ⟨Ab1, cb1, rfl, hcb1⟩ := own_shape own1
      have Z1 := Lib.hid (own_hin own1 h32_1 (by rw [treesB_len, E1.out.2]))
      clear h32_1 own1
      go_wp2_with fail
      refine (lproof_ok a B _ lb v (L ++ M) x N w10 (show Env B a w10 from HE.out.step (show Gr w w10 from (by repeat (first | exact Gr.refl _ | (refine Gr.step ?_ (by assumption)) | (refine Gr.alloc ?_ _) | (refine Gr.drew ?_))))) (HLG.out.below (show Gr wr w10 from (by repeat (first | exact Gr.refl _ | (refine Gr.step ?_ (by assumption)) | (refine Gr.alloc ?_ _) | (refine Gr.drew ?_))))) k2.1 k2.2 HLM.out).mono ?_
      rw [E2.out.1, treesB_more L M l2 N I2.out (by rw [HNL.out]; exact Int.le_refl _)]
      rintro ev w11 ⟨h32_2, vb2, rfl, own2, b11⟩
      rw [treesB_len, E2.out.2] at own2
      obtain ⟨Ab2, cb2, rfl, hcb2⟩ := own_shape own2
      have Z2 := Lib.hid (own_hin own2 h32_2 (by rw [treesB_len, E2.out.2]))
      clear h32_2 own2
      go_wp2_with fail
      refine (lbatch_ok a B _ lb v (L ++ M) x y N w11 (show Env B a w11 from HE.out.step (show Gr w w11 from (by repeat (first | exact Gr.refl _ | (refine Gr.step ?_ (by assumption)) | (refine Gr.alloc ?_ _) | (refine Gr.drew ?_))))) (HLG.out.below (show Gr wr w11 from (by repeat (first | exact Gr.refl _ | (refine Gr.step ?_ (by assumption)) | (refine Gr.alloc ?_ _) | (refine Gr.drew ?_))))) hx0 k3.1 k3.2 HLM.out).mono ?_
      rw [E3.out.1, treesB_more L M l3 N I3.out (by rw [HNL.out]; exact Int.le_refl _)]
      rintro ev w12 ⟨h32_3, vb3, rfl, own3, b12⟩
      rw [treesB_len, E3.out.2] at own3
      obtain ⟨Ab3, cb3, rfl, hcb3⟩ := own_shape own3
      have Z3 := Lib.hid (own_hin own3 h32_3 (by rw [treesB_len, E3.out.2]))
      clear h32_3 own3
      try unfold errV
      have K1 : Hid (w12.heap[w8.heap.size]? = some (.cells vr 29 (0, 0))) := Lib.hid (((show Below w9.heap.size w9 w12 from (show Gr w9 w12 from (by repeat (first | exact Gr.refl _ | (refine Gr.step ?_ (by assumption)) | (refine Gr.alloc ?_ _) | (refine Gr.drew ?_))))).block _ (Array.getElem?_eq_some_iff.1 Rw9.out).1).trans Rw9.out)
      have K2 : Hid (w12.heap[w3.heap.size]? = some (.cells vr 29 (0, 0))) := Lib.hid (((show Below wr.heap.size wr w12 from (show Gr wr w12 from (by repeat (first | exact Gr.refl _ | (refine Gr.step ?_ (by assumption)) | (refine Gr.alloc ?_ _) | (refine Gr.drew ?_))))).block _ (Array.getElem?_eq_some_iff.1 KR.out).1).trans KR.out)
      go_wp2_with (first | (refine wpList_load_row rfl 29 _ rfl w8.heap.size rfl 29 vr (0, 0) _ K1.out Tryd.underlying29 rfl Ivr.out ?_) | (refine wpList_load_row rfl 29 _ rfl w3.heap.size rfl 29 vr (0, 0) _ K2.out Tryd.underlying29 rfl Ivr.out ?_))
      refine (same_hashes (treesB L l1) (treesB L l1) A1 Ab1 m1 m1 ca1 cb1 w12 (by omega) (Y1.out.below (show Gr wr w12 from (by repeat (first | exact Gr.refl _ | (refine Gr.step ?_ (by assumption)) | (refine Gr.alloc ?_ _) | (refine Gr.drew ?_))))) (Z1.out.below (show Gr w10 w12 from (by repeat (first | exact Gr.refl _ | (refine Gr.step ?_ (by assumption)) | (refine Gr.alloc ?_ _) | (refine Gr.drew ?_)))))).mono ?_
      rintro ev w13 ⟨rfl, b13⟩
      rw [decide_eq_true rfl]
      go_wp2_with fail
      refine (same_hashes (treesB L l2) (treesB L l2) A2 Ab2 m2 m2 ca2 cb2 w13 (by omega) (Y2.out.below (show Gr wr w13 from (by repeat (first | exact Gr.refl _ | (refine Gr.step ?_ (by assumption)) | (refine Gr.alloc ?_ _) | (refine Gr.drew ?_))))) (Z2.out.below (show Gr w11 w13 from (by repeat (first | exact Gr.refl _ | (refine Gr.step ?_ (by assumption)) | (refine Gr.alloc ?_ _) | (refine Gr.drew ?_)))))).mono ?_
      rintro ev w14 ⟨rfl, b14⟩
      rw [decide_eq_true rfl]
      go_wp2_with fail
      refine (same_hashes (treesB L l3) (treesB L l3) A3 Ab3 m3 m3 ca3 cb3 w14 (by omega) (Y3.out.below (show Gr wr w14 from (by repeat (first | exact Gr.refl _ | (refine Gr.step ?_ (by assumption)) | (refine Gr.alloc ?_ _) | (refine Gr.drew ?_))))) (Z3.out.below (show Gr w12 w14 from (by repeat (first | exact Gr.refl _ | (refine Gr.step ?_ (by assumption)) | (refine Gr.alloc ?_ _) | (refine Gr.drew ?_)))))).mono ?_
      rintro ev w15 ⟨rfl, b15⟩
      rw [decide_eq_true rfl]
      go_wp2_with fail
      refine wp_region_held_drew (S := Gr w15) (by kernel_rfl) ((Gr.refl _).drew) (fun hHeld => ?_)
      refine wpAnyH_take (i := 0) (v := ?tv1) rfl (by kernel_rfl) (by kernel_rfl) (by kernel_rfl) (fun _ _ _ h => h) (Or.inl ⟨by rfl, ?ty1⟩) (by assumption) ?tr1
      case ty1 => (intro w hSw; (try dsimp only at hSw); go_simp; (try with_reducible rfl))
      try simp only [Act.put, List.getElem_toArray, List.getElem_cons_zero, List.setIfInBounds_toArray, List.set_cons_zero, List.set_cons_succ]
      refine wpAnyH_take (i := 1) (v := ?tv2) rfl (by kernel_rfl) (by kernel_rfl) (by kernel_rfl) (fun _ _ _ h => h) (Or.inl ⟨by rfl, ?ty2⟩) (by assumption) ?tr2
      case ty2 => (intro w hSw; (try dsimp only at hSw); go_simp; (try with_reducible rfl))
      try simp only [Act.put, List.getElem_toArray, List.getElem_cons_zero, List.getElem_cons_succ, List.setIfInBounds_toArray, List.set_cons_zero, List.set_cons_succ]
      refine wpAnyH_take (i := 2) (v := ?tv3) rfl (by kernel_rfl) (by kernel_rfl) (by kernel_rfl) (fun _ _ _ h => h) (Or.inl ⟨by rfl, ?ty3⟩) (by assumption) ?tr3
      case ty3 => (intro w hSw; (try dsimp only at hSw); go_simp; (try with_reducible rfl))
      try simp only [Act.put, List.getElem_toArray, List.getElem_cons_zero, List.getElem_cons_succ, List.setIfInBounds_toArray, List.set_cons_zero, List.set_cons_succ]
      refine wpAnyH_take (i := 3) (v := ?tv4) rfl (by kernel_rfl) (by kernel_rfl) (by kernel_rfl) (fun _ _ _ h => h) (Or.inl ⟨by rfl, ?ty4⟩) (by assumption) ?tr4
      case ty4 => (intro w hSw; (try dsimp only at hSw); go_simp; (try with_reducible rfl))
      try simp only [Act.put, List.getElem_toArray, List.getElem_cons_zero, List.getElem_cons_succ, List.setIfInBounds_toArray, List.set_cons_zero, List.set_cons_succ]
      refine wpAnyH_take (i := 4) (v := ?tv5) rfl (by kernel_rfl) (by kernel_rfl) (by kernel_rfl) (fun _ _ _ h => h) (Or.inl ⟨by rfl, ?ty5⟩) (by assumption) ?tr5
      case ty5 => (intro w hSw; (try dsimp only at hSw); go_simp; (try with_reducible rfl))
      try simp only [Act.put, List.getElem_toArray, List.getElem_cons_zero, List.getElem_cons_succ, List.setIfInBounds_toArray, List.set_cons_zero, List.set_cons_succ]
      refine wpAnyH_take (i := 5) (v := ?tv6) rfl (by kernel_rfl) (by kernel_rfl) (by kernel_rfl) (fun _ _ _ h => h) (Or.inl ⟨by rfl, ?ty6⟩) (by assumption) ?tr6
      case ty6 => (intro w hSw; (try dsimp only at hSw); go_simp; (try with_reducible rfl))
      try simp only [Act.put, List.getElem_toArray, List.getElem_cons_zero, List.getElem_cons_succ, List.setIfInBounds_toArray, List.set_cons_zero, List.set_cons_succ]
      refine wpAnyH_take (i := 6) (v := ?tv7) rfl (by kernel_rfl) (by kernel_rfl) (by kernel_rfl) (fun _ _ _ h => h) (Or.inl ⟨by rfl, ?ty7⟩) (by assumption) ?tr7
      case ty7 => (intro w hSw; (try dsimp only at hSw); go_simp; (try with_reducible rfl))
      try simp only [Act.put, List.getElem_toArray, List.getElem_cons_zero, List.getElem_cons_succ, List.setIfInBounds_toArray, List.set_cons_zero, List.set_cons_succ]
      refine wpAnyH_take (i := 7) (v := ?tv8) rfl (by kernel_rfl) (by kernel_rfl) (by kernel_rfl) (fun _ _ _ h => h) (Or.inl ⟨by rfl, ?ty8⟩) (by assumption) ?tr8
      case ty8 => (intro w hSw; (try dsimp only at hSw); go_simp; (try with_reducible rfl))
      try simp only [Act.put, List.getElem_toArray, List.getElem_cons_zero, List.getElem_cons_succ, List.setIfInBounds_toArray, List.set_cons_zero, List.set_cons_succ]
      refine wpAnyH_take (i := 8) (v := ?tv9) rfl (by kernel_rfl) (by kernel_rfl) (by kernel_rfl) (fun _ _ _ h => h) (Or.inl ⟨by rfl, ?ty9⟩) (by assumption) ?tr9
      case ty9 => (intro w hSw; (try dsimp only at hSw); go_simp; (try with_reducible rfl))
      try simp only [Act.put, List.getElem_toArray, List.getElem_cons_zero, List.getElem_cons_succ, List.setIfInBounds_toArray, List.set_cons_zero, List.set_cons_succ]
      refine wpAnyH_take (i := 9) (v := ?tv10) rfl (by kernel_rfl) (by kernel_rfl) (by kernel_rfl) (fun _ _ _ h => h) (Or.inl ⟨by rfl, ?ty10⟩) (by assumption) ?tr10
      case ty10 => (intro w hSw; (try dsimp only at hSw); go_simp; (try with_reducible rfl))
      try simp only [Act.put, List.getElem_toArray, List.getElem_cons_zero, List.getElem_cons_succ, List.setIfInBounds_toArray, List.set_cons_zero, List.set_cons_succ]
      refine wpAnyH_take (i := 10) (v := ?tv11) rfl (by kernel_rfl) (by kernel_rfl) (by kernel_rfl) (fun _ _ _ h => h) (Or.inl ⟨by rfl, ?ty11⟩) (by assumption) ?tr11
      case ty11 => (intro w hSw; (try dsimp only at hSw); go_simp; (try with_reducible rfl))
      try simp only [Act.put, List.getElem_toArray, List.getElem_cons_zero, List.getElem_cons_succ, List.setIfInBounds_toArray, List.set_cons_zero, List.set_cons_succ]
      refine wpAnyH_take (i := 11) (v := ?tv12) rfl (by kernel_rfl) (by kernel_rfl) (by kernel_rfl) (fun _ _ _ h => h) (Or.inl ⟨by rfl, ?ty12⟩) (by assumption) ?tr12
      case ty12 => (intro w hSw; (try dsimp only at hSw); go_simp; (try with_reducible rfl))
      try simp only [Act.put, List.getElem_toArray, List.getElem_cons_zero, List.getElem_cons_succ, List.setIfInBounds_toArray, List.set_cons_zero, List.set_cons_succ]
      refine wpAnyH_take (i := 12) (v := ?tv13) rfl (by kernel_rfl) (by kernel_rfl) (by kernel_rfl) (fun _ _ _ h => h) (Or.inl ⟨by rfl, ?ty13⟩) (by assumption) ?tr13
      case ty13 => (intro w hSw; (try dsimp only at hSw); go_simp; (try with_reducible rfl))
      try simp only [Act.put, List.getElem_toArray, List.getElem_cons_zero, List.getElem_cons_succ, List.setIfInBounds_toArray, List.set_cons_zero, List.set_cons_succ]
      refine wpAnyH_take (i := 13) (v := ?tv14) rfl (by kernel_rfl) (by kernel_rfl) (by kernel_rfl) (fun _ _ _ h => h) (Or.inl ⟨by rfl, ?ty14⟩) (by assumption) ?tr14
      case ty14 => (intro w hSw; (try dsimp only at hSw); go_simp; (try with_reducible rfl))
      try simp only [Act.put, List.getElem_toArray, List.getElem_cons_zero, List.getElem_cons_succ, List.setIfInBounds_toArray, List.set_cons_zero, List.set_cons_succ]
      refine wpAnyH_take (i := 14) (v := ?tv15) rfl (by kernel_rfl) (by kernel_rfl) (by kernel_rfl) (fun _ _ _ h => h) (Or.inl ⟨by rfl, ?ty15⟩) (by assumption) ?tr15
      case ty15 => (intro w hSw; (try dsimp only at hSw); go_simp; (try with_reducible rfl))
      try simp only [Act.put, List.getElem_toArray, List.getElem_cons_zero, List.getElem_cons_succ, List.setIfInBounds_toArray, List.set_cons_zero, List.set_cons_succ]
      refine wpAnyH_take (i := 15) (v := ?tv16) rfl (by kernel_rfl) (by kernel_rfl) (by kernel_rfl) (fun _ _ _ h => h) (Or.inl ⟨by rfl, ?ty16⟩) (by assumption) ?tr16
      case ty16 => (intro w hSw; (try dsimp only at hSw); go_simp; (try with_reducible rfl))
      try simp only [Act.put, List.getElem_toArray, List.getElem_cons_zero, List.getElem_cons_succ, List.setIfInBounds_toArray, List.set_cons_zero, List.set_cons_succ]
      refine wpAnyH_take (i := 16) (v := ?tv17) rfl (by kernel_rfl) (by kernel_rfl) (by kernel_rfl) (fun _ _ _ h => h) (Or.inl ⟨by rfl, ?ty17⟩) (by assumption) ?tr17
      case ty17 => (intro w hSw; (try dsimp only at hSw); go_simp; (try with_reducible rfl))
      try simp only [Act.put, List.getElem_toArray, List.getElem_cons_zero, List.getElem_cons_succ, List.setIfInBounds_toArray, List.set_cons_zero, List.set_cons_succ]
      refine wpAnyH_take (i := 17) (v := ?tv18) rfl (by kernel_rfl) (by kernel_rfl) (by kernel_rfl) (fun _ _ _ h => h) (Or.inl ⟨by rfl, ?ty18⟩) (by assumption) ?tr18
      case ty18 => (intro w hSw; (try dsimp only at hSw); go_simp; (try with_reducible rfl))
      try simp only [Act.put, List.getElem_toArray, List.getElem_cons_zero, List.getElem_cons_succ, List.setIfInBounds_toArray, List.set_cons_zero, List.set_cons_succ]
      refine wpAnyH_take (i := 18) (v := ?tv19) rfl (by kernel_rfl) (by kernel_rfl) (by kernel_rfl) (fun _ _ _ h => h) (Or.inl ⟨by rfl, ?ty19⟩) (by assumption) ?tr19
      case ty19 => (intro w hSw; (try dsimp only at hSw); go_simp; (try with_reducible rfl))
      try simp only [Act.put, List.getElem_toArray, List.getElem_cons_zero, List.getElem_cons_succ, List.setIfInBounds_toArray, List.set_cons_zero, List.set_cons_succ]
      refine wpAnyH_take (i := 19) (v := ?tv20) rfl (by kernel_rfl) (by kernel_rfl) (by kernel_rfl) (fun _ _ _ h => h) (Or.inl ⟨by rfl, ?ty20⟩) (by assumption) ?tr20
      case ty20 => (intro w hSw; (try dsimp only at hSw); go_simp; (try with_reducible rfl))
      try simp only [Act.put, List.getElem_toArray, List.getElem_cons_zero, List.getElem_cons_succ, List.setIfInBounds_toArray, List.set_cons_zero, List.set_cons_succ]
      refine wpAnyH_take (i := 20) (v := ?tv21) rfl (by kernel_rfl) (by kernel_rfl) (by kernel_rfl) (fun _ _ _ h => h) (Or.inl ⟨by rfl, ?ty21⟩) (by assumption) ?tr21
      case ty21 => (intro w hSw; (try dsimp only at hSw); go_simp; (try with_reducible rfl))
      try simp only [Act.put, List.getElem_toArray, List.getElem_cons_zero, List.getElem_cons_succ, List.setIfInBounds_toArray, List.set_cons_zero, List.set_cons_succ]
      refine wpAnyH_take (i := 21) (v := ?tv22) rfl (by kernel_rfl) (by kernel_rfl) (by kernel_rfl) (fun _ _ _ h => h) (Or.inl ⟨by rfl, ?ty22⟩) (by assumption) ?tr22
      case ty22 => (intro w hSw; (try dsimp only at hSw); go_simp; (try with_reducible rfl))
      try simp only [Act.put, List.getElem_toArray, List.getElem_cons_zero, List.getElem_cons_succ, List.setIfInBounds_toArray, List.set_cons_zero, List.set_cons_succ]
      refine wpAnyH_take (i := 22) (v := ?tv23) rfl (by kernel_rfl) (by kernel_rfl) (by kernel_rfl) (fun _ _ _ h => h) (Or.inl ⟨by rfl, ?ty23⟩) (by assumption) ?tr23
      case ty23 => (intro w hSw; (try dsimp only at hSw); go_simp; (try with_reducible rfl))
      try simp only [Act.put, List.getElem_toArray, List.getElem_cons_zero, List.getElem_cons_succ, List.setIfInBounds_toArray, List.set_cons_zero, List.set_cons_succ]
      refine wpAnyH_ready (rs := [23]) (by kernel_rfl) (by simp) ?_
      refine AllReadyH.cons (i := 23) rfl (fun K2 hK2 => ?_) AllReadyH.nil
      go_simp
      go_at_call 27
      refine (HLV.out w15.drew (show Env B a w15.drew from HE.out.step (show Gr w w15.drew from (by repeat (first | exact Gr.refl _ | (refine Gr.step ?_ (by assumption)) | (refine Gr.alloc ?_ _) | (refine Gr.drew ?_)))))).mono ?_
      rintro ev w101 ⟨rfl, b101⟩
      try go_wp2_with fail
      refine hK2.out _ _ (show Gr w15 _ from (by repeat (first | exact Gr.refl _ | (refine Gr.step ?_ (by assumption)) | (refine Gr.alloc ?_ _) | (refine Gr.drew ?_)))) (fun hHeld2 => ?_)
      clear hK2 K2
      try simp only [Act.put, List.getElem_toArray, List.getElem_cons_zero, List.getElem_cons_succ, List.setIfInBounds_toArray, List.set_cons_zero, List.set_cons_succ]
      refine wpAnyH_take (i := 24) (v := ?tv24) rfl (by kernel_rfl) (by kernel_rfl) (by kernel_rfl) (fun _ _ _ h => h) (Or.inl ⟨by rfl, ?ty24⟩) (by assumption) ?tr24
      case ty24 => (intro w hSw; (try dsimp only at hSw); go_simp; (try with_reducible rfl))
      try simp only [Act.put, List.getElem_toArray, List.getElem_cons_zero, List.getElem_cons_succ, List.setIfInBounds_toArray, List.set_cons_zero, List.set_cons_succ]
      refine wpAnyH_take (i := 25) (v := ?tv25) rfl (by kernel_rfl) (by kernel_rfl) (by kernel_rfl) (fun _ _ _ h => h) (Or.inl ⟨by rfl, ?ty25⟩) (by assumption) ?tr25
      case ty25 => (intro w hSw; (try dsimp only at hSw); go_simp; (try with_reducible rfl))
      try simp only [Act.put, List.getElem_toArray, List.getElem_cons_zero, List.getElem_cons_succ, List.setIfInBounds_toArray, List.set_cons_zero, List.set_cons_succ]
      refine wpAnyH_done (by kernel_rfl) ?_ _
      go_wp2
      go_ret
      exact ⟨rfl, show Gr w _ from (by repeat (first | exact Gr.refl _ | (refine Gr.step ?_ (by assumption)) | (refine Gr.alloc ?_ _) | (refine Gr.drew ?_)))⟩

set_option maxRecDepth 100000 in
set_option maxHeartbeats 8000000 in
theorem stays_yyn (a : Nat → Addr) (B : Nat) (D D' : List ByteArray) (A A' : Option Addr) (n c n' c' : Nat) (x y : Int) (w : World) (hE : Env B a w) (h : SIn w A n c D) (h' : SIn w A' n' c' D') (hx0 : 0 ≤ x) (hx9 : x < 18446744073709551616) (hy0 : 0 ≤ y) (hy9 : y < 18446744073709551616)
    (hg : n + n' + bulk D + bulk D' ≤ 1048576) (k1 : x < ((keptL D).length : Int)) (k2 : 0 < x ∧ x ≤ ((keptL D).length : Int)) (k3 : ((keptL D).length : Int) < y ∨ y ≤ x) :
    Calls Tryd.prog 9 #[.slice A n c, .slice A' n' c', .int .u64 x, .int .u64 y] w fun ev w' => ev = .returned (.bool true) ∧ Below w.heap.size w w' := by
  have HK := Lib.hid (And.intro k1 (And.intro k2 k3))
  clear k1 k2 k3
  have HE := Lib.hid hE
  have HD := Lib.hid h
  have HD2 := Lib.hid h'
  have hn9 : n ≤ 140737488355328 := h.2.2.2.2.1
  have hn9' : n' ≤ 140737488355328 := h'.2.2.2.2.1
  have HG := Lib.hid hg
  clear hE h h' hg
  go_enter Tryd.func9, Tryd.ntmps9
  go_wp2_with fail
  refine (texts_any D A n c w HD.out).mono ?_
  rintro ev w0 ⟨t, rfl, ht9, ht, rfl⟩
  have HT0 := Lib.hid ht
  clear ht
  go_wp2_with fail
  refine (texts_any D' A' n' c' w HD2.out).mono ?_
  rintro ev w0 ⟨t', rfl, ht9', ht', rfl⟩
  have HT1 := Lib.hid ht'
  clear ht'
  go_wp2_with fail
  refine (beyond4 n n' t t' w (by omega) (by omega) ht9 ht9').mono ?_
  rintro ev w1 ⟨rfl, hw1⟩
  have b1 : Below w.heap.size w w1 := by rw [hw1]; exact (Below.refl _ _).alloc (Nat.le_refl _) _
  clear hw1
  have hgd : decide (1048576 < n + n' + t + t') = false := by have := HT0.out; have := HT1.out; have := HG.out; simp; omega
  have hn10 : n ≤ 1048576 := by have := HG.out; omega
  have hn10' : n' ≤ 1048576 := by have := HG.out; omega
  rw [hgd]
  go_wp2_with fail
  refine (grown_any a B D A n c w1 (show Env B a w1 from HE.out.step (show Gr w w1 from (by repeat (first | exact Gr.refl _ | (refine Gr.step ?_ (by assumption)) | (refine Gr.alloc ?_ _) | (refine Gr.drew ?_))))) (HD.out.below (show Gr w w1 from (by repeat (first | exact Gr.refl _ | (refine Gr.step ?_ (by assumption)) | (refine Gr.alloc ?_ _) | (refine Gr.drew ?_))))) hn10).mono ?_
  rintro ev w2 ⟨lb, lv, rfl, hL2, b2⟩
  have HN := Lib.hid (show (keptL D).length ≤ 1048576 from hL2.1.1)
  have HL2 := Lib.hid hL2
  clear hL2
  obtain ⟨L, hL⟩ : ∃ L, keptL D = L := ⟨_, rfl⟩
  rw [hL] at HN HL2 HK
  rw [hL]
  obtain ⟨N, hN⟩ : ∃ N, L.length = N := ⟨_, rfl⟩
  rw [hN] at HN HK
  rw [hN]
  have HNL := Lib.hid hN
  have hN0 : N ≤ 1048576 := HN.out
  have hwn : IntKind.u64.wrap (N : Int) = N := IntWalk.u64_in _ (by omega)
  have HLV := Lib.hid (lives_any a B)
  clear hL hN
  obtain ⟨k1, k2, k3⟩ := HK.out
  have hz0 : (0 : Int) ≤ N := by omega
  have hz9 : (N : Int) < 18446744073709551616 := by omega
  obtain ⟨l1, hl1⟩ : ∃ l, pathL 64 x 0 N = l := ⟨_, rfl⟩
  obtain ⟨m1, hm1⟩ : ∃ m, l1.length = m := ⟨_, rfl⟩
  have I1 := Lib.hid (show SpansIn l1 N from by rw [← hl1]; exact path_spansIn x N hx0 k1 (by omega))
  have N1 : m1 ≤ 1000 := by rw [← hm1, ← hl1]; exact (by have := pathL_len 64 x 0 N; omega)
  have E1 := Lib.hid (And.intro hl1 hm1)
  clear hl1 hm1
  obtain ⟨l2, hl2⟩ : ∃ l, proofL 64 x 0 N = l := ⟨_, rfl⟩
  obtain ⟨m2, hm2⟩ : ∃ m, l2.length = m := ⟨_, rfl⟩
  have I2 := Lib.hid (show SpansIn l2 N from by rw [← hl2]; exact proof_spansIn x N k2.1 k2.2 (by omega))
  have N2 : m2 ≤ 1000 := by rw [← hm2, ← hl2]; exact (by have := proofL_len 64 x 0 N; omega)
  have E2 := Lib.hid (And.intro hl2 hm2)
  clear hl2 hm2
  obtain ⟨rt, hrt⟩ : ∃ r, treeB L 0 N = r := ⟨_, rfl⟩
  have lrt : rt.length = 32 := by rw [← hrt]; exact treeB_len L 0 N
  obtain ⟨vr, evr, Hvr, Zvr, Ivr, Ovr⟩ := row_of rt lrt
  have hqr := eq_self rt lrt vr evr
  have HRT := Lib.hid (And.intro hrt evr)
  clear hrt lrt evr
  have hz0' := hz0
  go_wp2_with fail
  refine (lroot_ok a B _ lb lv L N w2 (show Env B a w2 from HE.out.step (show Gr w w2 from (by repeat (first | exact Gr.refl _ | (refine Gr.step ?_ (by assumption)) | (refine Gr.alloc ?_ _) | (refine Gr.drew ?_))))) HL2.out hz0 (by rw [HNL.out]; exact Int.le_refl _)).mono ?_
  rw [HRT.out.1, HRT.out.2]
  rintro ev w3 ⟨rfl, b3⟩
  go_upto_region 8 with (refine wpList_store_row_any rfl 29 _ _ rfl w3.heap.size vr rfl rfl 29 _ (heap_at _ _ _ rfl) Ivr.out (by rw [Zvr.out]; rfl) Ovr.out ?_; intro w4 hbN hgN hsN; have b4 : Below w3.heap.size w3 w4 := ((Below.refl _ w3).alloc (Nat.le_refl _) _).trans (hbN.to_below (by simp) (fun k hk q => by omega)); have Rw4 := Lib.hid hgN; clear hbN hgN hsN)
  go_wp2_with fail
  refine (lpath_ok a B _ lb lv L x N w4 (show Env B a w4 from HE.out.step (show Gr w w4 from (by repeat (first | exact Gr.refl _ | (refine Gr.step ?_ (by assumption)) | (refine Gr.alloc ?_ _) | (refine Gr.drew ?_))))) (HL2.out.below (show Gr w2 w4 from (by repeat (first | exact Gr.refl _ | (refine Gr.step ?_ (by assumption)) | (refine Gr.alloc ?_ _) | (refine Gr.drew ?_))))) hx0 k1 (by rw [HNL.out]; exact Int.le_refl _)).mono ?_
  rw [E1.out.1]
  rintro ev w5 ⟨h32_1, va1, rfl, own1, b5⟩
  rw [treesB_len, E1.out.2] at own1
  obtain ⟨A1, ca1, rfl, hca1⟩ := own_shape own1
  have X1 := Lib.hid (And.intro h32_1 (own_mono own1 (show w2.heap.size ≤ w4.heap.size from (show Gr w2 w4 from (by repeat (first | exact Gr.refl _ | (refine Gr.step ?_ (by assumption)) | (refine Gr.alloc ?_ _) | (refine Gr.drew ?_)))).size)))
  clear h32_1 own1
  go_wp2_with fail
  refine (lproof_ok a B _ lb lv L x N w5 (show Env B a w5 from HE.out.step (show Gr w w5 from (by repeat (first | exact Gr.refl _ | (refine Gr.step ?_ (by assumption)) | (refine Gr.alloc ?_ _) | (refine Gr.drew ?_))))) (HL2.out.below (show Gr w2 w5 from (by repeat (first | exact Gr.refl _ | (refine Gr.step ?_ (by assumption)) | (refine Gr.alloc ?_ _) | (refine Gr.drew ?_))))) k2.1 k2.2 (by rw [HNL.out]; exact Int.le_refl _)).mono ?_
  rw [E2.out.1]
  rintro ev w6 ⟨h32_2, va2, rfl, own2, b6⟩
  rw [treesB_len, E2.out.2] at own2
  obtain ⟨A2, ca2, rfl, hca2⟩ := own_shape own2
  have X2 := Lib.hid (And.intro h32_2 (own_mono own2 (show w2.heap.size ≤ w5.heap.size from (show Gr w2 w5 from (by repeat (first | exact Gr.refl _ | (refine Gr.step ?_ (by assumption)) | (refine Gr.alloc ?_ _) | (refine Gr.drew ?_)))).size)))
  clear h32_2 own2
  go_wp2_with fail
  refine (lbatch_bad a B _ lb lv L x y N w6 (show Env B a w6 from HE.out.step (show Gr w w6 from (by repeat (first | exact Gr.refl _ | (refine Gr.step ?_ (by assumption)) | (refine Gr.alloc ?_ _) | (refine Gr.drew ?_))))) (HL2.out.below (show Gr w2 w6 from (by repeat (first | exact Gr.refl _ | (refine Gr.step ?_ (by assumption)) | (refine Gr.alloc ?_ _) | (refine Gr.drew ?_))))) hx0 hx9 hy0 hy9 hz0 hz9 (.inr k3)).mono ?_
  rintro ev w7 ⟨rfl, b7⟩
  try unfold errV
  go_upto_region 12 with fail
  have HW : Unit → Gr w2 w7 := fun _ => (by repeat (first | exact Gr.refl _ | (refine Gr.step ?_ (by assumption)) | (refine Gr.alloc ?_ _) | (refine Gr.drew ?_)))
  go_loopw [21] (fun i wr => ∃ (k : Nat) (M : List ByteArray) (v : Value), k ≤ n' ∧ i = .int .i64 k ∧ Hid (LogAt w1.heap.size lb v (L ++ M) wr) ∧ Hid (∀ g, v.ownBlock = some g → g < w2.heap.size ∨ w7.heap.size ≤ g) ∧ Hid (Mid w2.heap.size w7.heap.size w7 wr) ∧ Hid (w7.heap.size ≤ wr.heap.size ∧ Below w1.heap.size w1 wr)) (fun i _ => n' - (intOf i).toNat)
  case atStart => exact ⟨0, [], lv, Nat.zero_le _, rfl, Lib.hid (by rw [List.append_nil]; exact HL2.out.below (HW ())), Lib.hid (fun g hg => .inl (HL2.out.2.2.2.1.lt g hg).2), Lib.hid (Mid.refl _ _ _), Lib.hid ⟨Nat.le_refl _, b2.trans (Below.mono (show Below w2.heap.size w2 w7 from HW ()) b2.size)⟩⟩
  case round =>
    obtain ⟨k, M, v, hk, rfl, HLG, HOB, HMD, HBW⟩ := hrel
    by_cases hlt : k < n'
    · obtain ⟨s, hs⟩ : ∃ s, D'[k]? = some s := ⟨_, List.getElem?_eq_getElem (by have := HD2.out.1; omega)⟩
      obtain ⟨g, o, rfl, hc0, hg, hsz⟩ := HD2.out.at hs
      have hww : Below w.heap.size w wr := b1.trans (HBW.out.2.mono b1.size)
      have hc := cell_below hww hc0 hg
      have i0 : (0 : Int) ≤ k := by omega
      have i1 : (k : Int) < n' := by omega
      have hEr := Lib.hid (HE.out.step hww)
      have hsl : (s.size : Int) ≤ 140737488355328 := by omega
      have HLT := Lib.hid (show lb < w2.heap.size from HL2.out.lt)
      by_cases hok : s.size ≤ 65536 ∧ (L ++ M).length < 1048576
      · have HA := Lib.hid (append_ok w1.heap.size lb v (L ++ M) s wr HLG.out hok.1 hok.2 HBW.out.2.size)
        clear hs hok hc0 hg
        go_wp2_with fail
        refine HA.out.mono ?_
        rintro e w8 ⟨rfl, v2, hL8, hC8⟩
        have HL8 := Lib.hid (show LogAt w1.heap.size lb v2 (L ++ (M ++ [s])) w8 by rw [← List.append_assoc]; exact hL8)
        have HC8 := Lib.hid hC8
        clear hL8 hC8
        go_wp2
        go_roundw
        case rel => exact ⟨k + 1, M ++ [s], v2, by omega, by go_num, HL8, Lib.hid (fun g hg => by
          rcases HC8.out.blk g hg with q | q
          · exact HOB.out g q
          · have := HBW.out.1; exact .inr (by omega)), Lib.hid (HMD.out.trans (Mid.coll HC8.out HBW.out.1 (.inl HLT.out) HOB.out)), Lib.hid ⟨Nat.le_trans HBW.out.1 HC8.out.size, HBW.out.2.trans (HC8.out.below_of HLG.out.2.1 HBW.out.2.size HLG.out.own_ge)⟩⟩
        case measure => simp [intOf]; omega
      · have HA := Lib.hid (append_bad a B w1.heap.size lb v (L ++ M) s wr hEr.out HLG.out (by omega))
        clear hs hok hc0 hg
        go_wp2_with fail
        refine HA.out.mono ?_
        rintro e w8 ⟨rfl, hb8⟩
        have HB8 := Lib.hid hb8
        clear hb8
        go_wp2
        go_roundw
        case rel => exact ⟨k + 1, M, v, by omega, by go_num, Lib.hid (HLG.out.below HB8.out), HOB, Lib.hid (HMD.out.trans (Mid.below HB8.out HBW.out.1)), Lib.hid ⟨Nat.le_trans HBW.out.1 HB8.out.size, HBW.out.2.trans (HB8.out.mono HBW.out.2.size)⟩⟩
        case measure => simp [intOf]; omega
    · obtain rfl : k = n' := by omega
      have bw : Below w.heap.size w wr := b1.trans (HBW.out.2.mono b1.size)
      have HLM := Lib.hid (show (N : Int) ≤ ((L ++ M).length : Int) by rw [List.length_append, HNL.out]; omega)
      have HRM : Hid (treeB (L ++ M) 0 N = treeB L 0 N) := Lib.hid (treeB_more L M 0 N (by omega) hz0 (by rw [HNL.out]; exact Int.le_refl _))
      have KR : Hid (wr.heap[w3.heap.size]? = some (.cells vr 29 (0, 0))) := Lib.hid (by
        have hl := (Array.getElem?_eq_some_iff.1 Rw4.out).1
        rw [HMD.out w3.heap.size (show Gr w2 w3 from (by repeat (first | exact Gr.refl _ | (refine Gr.step ?_ (by assumption)) | (refine Gr.alloc ?_ _) | (refine Gr.drew ?_)))).size (Nat.lt_of_lt_of_le hl (show Gr w4 w7 from (by repeat (first | exact Gr.refl _ | (refine Gr.step ?_ (by assumption)) | (refine Gr.alloc ?_ _) | (refine Gr.drew ?_)))).size)]
        exact ((show Below w4.heap.size w4 w7 from (show Gr w4 w7 from (by repeat (first | exact Gr.refl _ | (refine Gr.step ?_ (by assumption)) | (refine Gr.alloc ?_ _) | (refine Gr.drew ?_))))).block _ hl).trans Rw4.out)
      have Y1 : Hid (HIn wr A1 m1 ca1 (treesB L l1)) := Lib.hid (own_hin (own_mid (own_below X1.out.2 (show Below w5.heap.size w5 w7 from (show Gr w5 w7 from (by repeat (first | exact Gr.refl _ | (refine Gr.step ?_ (by assumption)) | (refine Gr.alloc ?_ _) | (refine Gr.drew ?_))))) (Nat.le_refl _)) HMD.out (Nat.le_refl _)) X1.out.1 (by rw [treesB_len, E1.out.2]))
      have Y2 : Hid (HIn wr A2 m2 ca2 (treesB L l2)) := Lib.hid (own_hin (own_mid (own_below X2.out.2 (show Below w6.heap.size w6 w7 from (show Gr w6 w7 from (by repeat (first | exact Gr.refl _ | (refine Gr.step ?_ (by assumption)) | (refine Gr.alloc ?_ _) | (refine Gr.drew ?_))))) (Nat.le_refl _)) HMD.out (Nat.le_refl _)) X2.out.1 (by rw [treesB_len, E2.out.2]))
      clear b1 b2 b3 b4 b5 b6 b7
      go_wp2_with fail
      refine (lroot_ok a B _ lb v (L ++ M) N wr (show Env B a wr from HE.out.step (show Gr w wr from (by repeat (first | exact Gr.refl _ | (refine Gr.step ?_ (by assumption)) | (refine Gr.alloc ?_ _) | (refine Gr.drew ?_))))) HLG.out hz0 HLM.out).mono ?_
      rw [HRM.out, HRT.out.1, HRT.out.2]
      rintro ev w8 ⟨rfl, b8⟩
      go_upto_region 16 with (refine wpList_store_row_any rfl 29 _ _ rfl w8.heap.size vr rfl rfl 29 _ (heap_at _ _ _ rfl) Ivr.out (by rw [Zvr.out]; rfl) Ovr.out ?_; intro w9 hbN hgN hsN; have b9 : Below w8.heap.size w8 w9 := ((Below.refl _ w8).alloc (Nat.le_refl _) _).trans (hbN.to_below (by simp) (fun k hk q => by omega)); have Rw9 := Lib.hid hgN; clear hbN hgN hsN)
      go_wp2_with fail
      refine (lpath_ok a B _ lb v (L ++ M) x N w9 (show Env B a w9 from HE.out.step (show Gr w w9 from (by repeat (first | exact Gr.refl _ | (refine Gr.step ?_ (by assumption)) | (refine Gr.alloc ?_ _) | (refine Gr.drew ?_))))) (HLG.out.below (show Gr wr w9 from (by repeat (first | exact Gr.refl _ | (refine Gr.step ?_ (by assumption)) | (refine Gr.alloc ?_ _) | (refine Gr.drew ?_))))) hx0 k1 HLM.out).mono ?_
      rw [E1.out.1, treesB_more L M l1 N I1.out (by rw [HNL.out]; exact Int.le_refl _)]
      rintro ev w10 ⟨h32_1, vb1, rfl, own1, b10⟩
      rw [treesB_len, E1.out.2] at own1
      obtain ⟨Ab1, cb1, rfl, hcb1⟩ := own_shape own1
      have Z1 := Lib.hid (own_hin own1 h32_1 (by rw [treesB_len, E1.out.2]))
      clear h32_1 own1
      go_wp2_with fail
      refine (lproof_ok a B _ lb v (L ++ M) x N w10 (show Env B a w10 from HE.out.step (show Gr w w10 from (by repeat (first | exact Gr.refl _ | (refine Gr.step ?_ (by assumption)) | (refine Gr.alloc ?_ _) | (refine Gr.drew ?_))))) (HLG.out.below (show Gr wr w10 from (by repeat (first | exact Gr.refl _ | (refine Gr.step ?_ (by assumption)) | (refine Gr.alloc ?_ _) | (refine Gr.drew ?_))))) k2.1 k2.2 HLM.out).mono ?_
      rw [E2.out.1, treesB_more L M l2 N I2.out (by rw [HNL.out]; exact Int.le_refl _)]
      rintro ev w11 ⟨h32_2, vb2, rfl, own2, b11⟩
      rw [treesB_len, E2.out.2] at own2
      obtain ⟨Ab2, cb2, rfl, hcb2⟩ := own_shape own2
      have Z2 := Lib.hid (own_hin own2 h32_2 (by rw [treesB_len, E2.out.2]))
      clear h32_2 own2
      go_wp2_with fail
      refine (lbatch_bad a B _ lb v (L ++ M) x y N w11 (show Env B a w11 from HE.out.step (show Gr w w11 from (by repeat (first | exact Gr.refl _ | (refine Gr.step ?_ (by assumption)) | (refine Gr.alloc ?_ _) | (refine Gr.drew ?_))))) (HLG.out.below (show Gr wr w11 from (by repeat (first | exact Gr.refl _ | (refine Gr.step ?_ (by assumption)) | (refine Gr.alloc ?_ _) | (refine Gr.drew ?_))))) hx0 hx9 hy0 hy9 hz0 hz9 (.inr k3)).mono ?_
      rintro ev w12 ⟨rfl, b12⟩
      try unfold errV
      have K1 : Hid (w12.heap[w8.heap.size]? = some (.cells vr 29 (0, 0))) := Lib.hid (((show Below w9.heap.size w9 w12 from (show Gr w9 w12 from (by repeat (first | exact Gr.refl _ | (refine Gr.step ?_ (by assumption)) | (refine Gr.alloc ?_ _) | (refine Gr.drew ?_))))).block _ (Array.getElem?_eq_some_iff.1 Rw9.out).1).trans Rw9.out)
      have K2 : Hid (w12.heap[w3.heap.size]? = some (.cells vr 29 (0, 0))) := Lib.hid (((show Below wr.heap.size wr w12 from (show Gr wr w12 from (by repeat (first | exact Gr.refl _ | (refine Gr.step ?_ (by assumption)) | (refine Gr.alloc ?_ _) | (refine Gr.drew ?_))))).block _ (Array.getElem?_eq_some_iff.1 KR.out).1).trans KR.out)
      go_wp2_with (first | (refine wpList_load_row rfl 29 _ rfl w8.heap.size rfl 29 vr (0, 0) _ K1.out Tryd.underlying29 rfl Ivr.out ?_) | (refine wpList_load_row rfl 29 _ rfl w3.heap.size rfl 29 vr (0, 0) _ K2.out Tryd.underlying29 rfl Ivr.out ?_))
      refine (same_hashes (treesB L l1) (treesB L l1) A1 Ab1 m1 m1 ca1 cb1 w12 (by omega) (Y1.out.below (show Gr wr w12 from (by repeat (first | exact Gr.refl _ | (refine Gr.step ?_ (by assumption)) | (refine Gr.alloc ?_ _) | (refine Gr.drew ?_))))) (Z1.out.below (show Gr w10 w12 from (by repeat (first | exact Gr.refl _ | (refine Gr.step ?_ (by assumption)) | (refine Gr.alloc ?_ _) | (refine Gr.drew ?_)))))).mono ?_
      rintro ev w13 ⟨rfl, b13⟩
      rw [decide_eq_true rfl]
      go_wp2_with fail
      refine (same_hashes (treesB L l2) (treesB L l2) A2 Ab2 m2 m2 ca2 cb2 w13 (by omega) (Y2.out.below (show Gr wr w13 from (by repeat (first | exact Gr.refl _ | (refine Gr.step ?_ (by assumption)) | (refine Gr.alloc ?_ _) | (refine Gr.drew ?_))))) (Z2.out.below (show Gr w11 w13 from (by repeat (first | exact Gr.refl _ | (refine Gr.step ?_ (by assumption)) | (refine Gr.alloc ?_ _) | (refine Gr.drew ?_)))))).mono ?_
      rintro ev w14 ⟨rfl, b14⟩
      rw [decide_eq_true rfl]
      go_wp2_with fail
      refine (same_hashes [] [] none none 0 0 0 0 w14 (by omega) (hin_none w14) (hin_none w14)).mono ?_
      rintro ev w15 ⟨rfl, b15⟩
      rw [decide_eq_true rfl]
      go_wp2_with fail
      refine wp_region_held_drew (S := Gr w15) (by kernel_rfl) ((Gr.refl _).drew) (fun hHeld => ?_)
      refine wpAnyH_take (i := 0) (v := ?tv26) rfl (by kernel_rfl) (by kernel_rfl) (by kernel_rfl) (fun _ _ _ h => h) (Or.inl ⟨by rfl, ?ty26⟩) (by assumption) ?tr26
      case ty26 => (intro w hSw; (try dsimp only at hSw); go_simp; (try with_reducible rfl))
      try simp only [Act.put, List.getElem_toArray, List.getElem_cons_zero, List.setIfInBounds_toArray, List.set_cons_zero, List.set_cons_succ]
      refine wpAnyH_take (i := 1) (v := ?tv27) rfl (by kernel_rfl) (by kernel_rfl) (by kernel_rfl) (fun _ _ _ h => h) (Or.inl ⟨by rfl, ?ty27⟩) (by assumption) ?tr27
      case ty27 => (intro w hSw; (try dsimp only at hSw); go_simp; (try with_reducible rfl))
      try simp only [Act.put, List.getElem_toArray, List.getElem_cons_zero, List.getElem_cons_succ, List.setIfInBounds_toArray, List.set_cons_zero, List.set_cons_succ]
      refine wpAnyH_take (i := 2) (v := ?tv28) rfl (by kernel_rfl) (by kernel_rfl) (by kernel_rfl) (fun _ _ _ h => h) (Or.inl ⟨by rfl, ?ty28⟩) (by assumption) ?tr28
      case ty28 => (intro w hSw; (try dsimp only at hSw); go_simp; (try with_reducible rfl))
      try simp only [Act.put, List.getElem_toArray, List.getElem_cons_zero, List.getElem_cons_succ, List.setIfInBounds_toArray, List.set_cons_zero, List.set_cons_succ]
      refine wpAnyH_take (i := 3) (v := ?tv29) rfl (by kernel_rfl) (by kernel_rfl) (by kernel_rfl) (fun _ _ _ h => h) (Or.inl ⟨by rfl, ?ty29⟩) (by assumption) ?tr29
      case ty29 => (intro w hSw; (try dsimp only at hSw); go_simp; (try with_reducible rfl))
      try simp only [Act.put, List.getElem_toArray, List.getElem_cons_zero, List.getElem_cons_succ, List.setIfInBounds_toArray, List.set_cons_zero, List.set_cons_succ]
      refine wpAnyH_take (i := 4) (v := ?tv30) rfl (by kernel_rfl) (by kernel_rfl) (by kernel_rfl) (fun _ _ _ h => h) (Or.inl ⟨by rfl, ?ty30⟩) (by assumption) ?tr30
      case ty30 => (intro w hSw; (try dsimp only at hSw); go_simp; (try with_reducible rfl))
      try simp only [Act.put, List.getElem_toArray, List.getElem_cons_zero, List.getElem_cons_succ, List.setIfInBounds_toArray, List.set_cons_zero, List.set_cons_succ]
      refine wpAnyH_take (i := 5) (v := ?tv31) rfl (by kernel_rfl) (by kernel_rfl) (by kernel_rfl) (fun _ _ _ h => h) (Or.inl ⟨by rfl, ?ty31⟩) (by assumption) ?tr31
      case ty31 => (intro w hSw; (try dsimp only at hSw); go_simp; (try with_reducible rfl))
      try simp only [Act.put, List.getElem_toArray, List.getElem_cons_zero, List.getElem_cons_succ, List.setIfInBounds_toArray, List.set_cons_zero, List.set_cons_succ]
      refine wpAnyH_take (i := 6) (v := ?tv32) rfl (by kernel_rfl) (by kernel_rfl) (by kernel_rfl) (fun _ _ _ h => h) (Or.inl ⟨by rfl, ?ty32⟩) (by assumption) ?tr32
      case ty32 => (intro w hSw; (try dsimp only at hSw); go_simp; (try with_reducible rfl))
      try simp only [Act.put, List.getElem_toArray, List.getElem_cons_zero, List.getElem_cons_succ, List.setIfInBounds_toArray, List.set_cons_zero, List.set_cons_succ]
      refine wpAnyH_take (i := 7) (v := ?tv33) rfl (by kernel_rfl) (by kernel_rfl) (by kernel_rfl) (fun _ _ _ h => h) (Or.inl ⟨by rfl, ?ty33⟩) (by assumption) ?tr33
      case ty33 => (intro w hSw; (try dsimp only at hSw); go_simp; (try with_reducible rfl))
      try simp only [Act.put, List.getElem_toArray, List.getElem_cons_zero, List.getElem_cons_succ, List.setIfInBounds_toArray, List.set_cons_zero, List.set_cons_succ]
      refine wpAnyH_take (i := 8) (v := ?tv34) rfl (by kernel_rfl) (by kernel_rfl) (by kernel_rfl) (fun _ _ _ h => h) (Or.inl ⟨by rfl, ?ty34⟩) (by assumption) ?tr34
      case ty34 => (intro w hSw; (try dsimp only at hSw); go_simp; (try with_reducible rfl))
      try simp only [Act.put, List.getElem_toArray, List.getElem_cons_zero, List.getElem_cons_succ, List.setIfInBounds_toArray, List.set_cons_zero, List.set_cons_succ]
      refine wpAnyH_take (i := 9) (v := ?tv35) rfl (by kernel_rfl) (by kernel_rfl) (by kernel_rfl) (fun _ _ _ h => h) (Or.inl ⟨by rfl, ?ty35⟩) (by assumption) ?tr35
      case ty35 => (intro w hSw; (try dsimp only at hSw); go_simp; (try with_reducible rfl))
      try simp only [Act.put, List.getElem_toArray, List.getElem_cons_zero, List.getElem_cons_succ, List.setIfInBounds_toArray, List.set_cons_zero, List.set_cons_succ]
      refine wpAnyH_take (i := 10) (v := ?tv36) rfl (by kernel_rfl) (by kernel_rfl) (by kernel_rfl) (fun _ _ _ h => h) (Or.inl ⟨by rfl, ?ty36⟩) (by assumption) ?tr36
      case ty36 => (intro w hSw; (try dsimp only at hSw); go_simp; (try with_reducible rfl))
      try simp only [Act.put, List.getElem_toArray, List.getElem_cons_zero, List.getElem_cons_succ, List.setIfInBounds_toArray, List.set_cons_zero, List.set_cons_succ]
      refine wpAnyH_take (i := 11) (v := ?tv37) rfl (by kernel_rfl) (by kernel_rfl) (by kernel_rfl) (fun _ _ _ h => h) (Or.inl ⟨by rfl, ?ty37⟩) (by assumption) ?tr37
      case ty37 => (intro w hSw; (try dsimp only at hSw); go_simp; (try with_reducible rfl))
      try simp only [Act.put, List.getElem_toArray, List.getElem_cons_zero, List.getElem_cons_succ, List.setIfInBounds_toArray, List.set_cons_zero, List.set_cons_succ]
      refine wpAnyH_take (i := 12) (v := ?tv38) rfl (by kernel_rfl) (by kernel_rfl) (by kernel_rfl) (fun _ _ _ h => h) (Or.inl ⟨by rfl, ?ty38⟩) (by assumption) ?tr38
      case ty38 => (intro w hSw; (try dsimp only at hSw); go_simp; (try with_reducible rfl))
      try simp only [Act.put, List.getElem_toArray, List.getElem_cons_zero, List.getElem_cons_succ, List.setIfInBounds_toArray, List.set_cons_zero, List.set_cons_succ]
      refine wpAnyH_take (i := 13) (v := ?tv39) rfl (by kernel_rfl) (by kernel_rfl) (by kernel_rfl) (fun _ _ _ h => h) (Or.inl ⟨by rfl, ?ty39⟩) (by assumption) ?tr39
      case ty39 => (intro w hSw; (try dsimp only at hSw); go_simp; (try with_reducible rfl))
      try simp only [Act.put, List.getElem_toArray, List.getElem_cons_zero, List.getElem_cons_succ, List.setIfInBounds_toArray, List.set_cons_zero, List.set_cons_succ]
      refine wpAnyH_take (i := 14) (v := ?tv40) rfl (by kernel_rfl) (by kernel_rfl) (by kernel_rfl) (fun _ _ _ h => h) (Or.inl ⟨by rfl, ?ty40⟩) (by assumption) ?tr40
      case ty40 => (intro w hSw; (try dsimp only at hSw); go_simp; (try with_reducible rfl))
      try simp only [Act.put, List.getElem_toArray, List.getElem_cons_zero, List.getElem_cons_succ, List.setIfInBounds_toArray, List.set_cons_zero, List.set_cons_succ]
      refine wpAnyH_take (i := 15) (v := ?tv41) rfl (by kernel_rfl) (by kernel_rfl) (by kernel_rfl) (fun _ _ _ h => h) (Or.inl ⟨by rfl, ?ty41⟩) (by assumption) ?tr41
      case ty41 => (intro w hSw; (try dsimp only at hSw); go_simp; (try with_reducible rfl))
      try simp only [Act.put, List.getElem_toArray, List.getElem_cons_zero, List.getElem_cons_succ, List.setIfInBounds_toArray, List.set_cons_zero, List.set_cons_succ]
      refine wpAnyH_take (i := 16) (v := ?tv42) rfl (by kernel_rfl) (by kernel_rfl) (by kernel_rfl) (fun _ _ _ h => h) (Or.inl ⟨by rfl, ?ty42⟩) (by assumption) ?tr42
      case ty42 => (intro w hSw; (try dsimp only at hSw); go_simp; (try with_reducible rfl))
      try simp only [Act.put, List.getElem_toArray, List.getElem_cons_zero, List.getElem_cons_succ, List.setIfInBounds_toArray, List.set_cons_zero, List.set_cons_succ]
      refine wpAnyH_take (i := 17) (v := ?tv43) rfl (by kernel_rfl) (by kernel_rfl) (by kernel_rfl) (fun _ _ _ h => h) (Or.inl ⟨by rfl, ?ty43⟩) (by assumption) ?tr43
      case ty43 => (intro w hSw; (try dsimp only at hSw); go_simp; (try with_reducible rfl))
      try simp only [Act.put, List.getElem_toArray, List.getElem_cons_zero, List.getElem_cons_succ, List.setIfInBounds_toArray, List.set_cons_zero, List.set_cons_succ]
      refine wpAnyH_take (i := 18) (v := ?tv44) rfl (by kernel_rfl) (by kernel_rfl) (by kernel_rfl) (fun _ _ _ h => h) (Or.inl ⟨by rfl, ?ty44⟩) (by assumption) ?tr44
      case ty44 => (intro w hSw; (try dsimp only at hSw); go_simp; (try with_reducible rfl))
      try simp only [Act.put, List.getElem_toArray, List.getElem_cons_zero, List.getElem_cons_succ, List.setIfInBounds_toArray, List.set_cons_zero, List.set_cons_succ]
      refine wpAnyH_take (i := 19) (v := ?tv45) rfl (by kernel_rfl) (by kernel_rfl) (by kernel_rfl) (fun _ _ _ h => h) (Or.inl ⟨by rfl, ?ty45⟩) (by assumption) ?tr45
      case ty45 => (intro w hSw; (try dsimp only at hSw); go_simp; (try with_reducible rfl))
      try simp only [Act.put, List.getElem_toArray, List.getElem_cons_zero, List.getElem_cons_succ, List.setIfInBounds_toArray, List.set_cons_zero, List.set_cons_succ]
      refine wpAnyH_take (i := 20) (v := ?tv46) rfl (by kernel_rfl) (by kernel_rfl) (by kernel_rfl) (fun _ _ _ h => h) (Or.inl ⟨by rfl, ?ty46⟩) (by assumption) ?tr46
      case ty46 => (intro w hSw; (try dsimp only at hSw); go_simp; (try with_reducible rfl))
      try simp only [Act.put, List.getElem_toArray, List.getElem_cons_zero, List.getElem_cons_succ, List.setIfInBounds_toArray, List.set_cons_zero, List.set_cons_succ]
      refine wpAnyH_take (i := 21) (v := ?tv47) rfl (by kernel_rfl) (by kernel_rfl) (by kernel_rfl) (fun _ _ _ h => h) (Or.inl ⟨by rfl, ?ty47⟩) (by assumption) ?tr47
      case ty47 => (intro w hSw; (try dsimp only at hSw); go_simp; (try with_reducible rfl))
      try simp only [Act.put, List.getElem_toArray, List.getElem_cons_zero, List.getElem_cons_succ, List.setIfInBounds_toArray, List.set_cons_zero, List.set_cons_succ]
      refine wpAnyH_take (i := 22) (v := ?tv48) rfl (by kernel_rfl) (by kernel_rfl) (by kernel_rfl) (fun _ _ _ h => h) (Or.inl ⟨by rfl, ?ty48⟩) (by assumption) ?tr48
      case ty48 => (intro w hSw; (try dsimp only at hSw); go_simp; (try with_reducible rfl))
      try simp only [Act.put, List.getElem_toArray, List.getElem_cons_zero, List.getElem_cons_succ, List.setIfInBounds_toArray, List.set_cons_zero, List.set_cons_succ]
      refine wpAnyH_ready (rs := [23]) (by kernel_rfl) (by simp) ?_
      refine AllReadyH.cons (i := 23) rfl (fun K2 hK2 => ?_) AllReadyH.nil
      go_simp
      go_at_call 27
      refine (HLV.out w15.drew (show Env B a w15.drew from HE.out.step (show Gr w w15.drew from (by repeat (first | exact Gr.refl _ | (refine Gr.step ?_ (by assumption)) | (refine Gr.alloc ?_ _) | (refine Gr.drew ?_)))))).mono ?_
      rintro ev w102 ⟨rfl, b102⟩
      try go_wp2_with fail
      refine hK2.out _ _ (show Gr w15 _ from (by repeat (first | exact Gr.refl _ | (refine Gr.step ?_ (by assumption)) | (refine Gr.alloc ?_ _) | (refine Gr.drew ?_)))) (fun hHeld2 => ?_)
      clear hK2 K2
      try simp only [Act.put, List.getElem_toArray, List.getElem_cons_zero, List.getElem_cons_succ, List.setIfInBounds_toArray, List.set_cons_zero, List.set_cons_succ]
      refine wpAnyH_take (i := 24) (v := ?tv49) rfl (by kernel_rfl) (by kernel_rfl) (by kernel_rfl) (fun _ _ _ h => h) (Or.inl ⟨by rfl, ?ty49⟩) (by assumption) ?tr49
      case ty49 => (intro w hSw; (try dsimp only at hSw); go_simp; (try with_reducible rfl))
      try simp only [Act.put, List.getElem_toArray, List.getElem_cons_zero, List.getElem_cons_succ, List.setIfInBounds_toArray, List.set_cons_zero, List.set_cons_succ]
      refine wpAnyH_take (i := 25) (v := ?tv50) rfl (by kernel_rfl) (by kernel_rfl) (by kernel_rfl) (fun _ _ _ h => h) (Or.inl ⟨by rfl, ?ty50⟩) (by assumption) ?tr50
      case ty50 => (intro w hSw; (try dsimp only at hSw); go_simp; (try with_reducible rfl))
      try simp only [Act.put, List.getElem_toArray, List.getElem_cons_zero, List.getElem_cons_succ, List.setIfInBounds_toArray, List.set_cons_zero, List.set_cons_succ]
      refine wpAnyH_done (by kernel_rfl) ?_ _
      go_wp2
      go_ret
      exact ⟨rfl, show Gr w _ from (by repeat (first | exact Gr.refl _ | (refine Gr.step ?_ (by assumption)) | (refine Gr.alloc ?_ _) | (refine Gr.drew ?_)))⟩

set_option maxRecDepth 100000 in
set_option maxHeartbeats 8000000 in
theorem stays_yny (a : Nat → Addr) (B : Nat) (D D' : List ByteArray) (A A' : Option Addr) (n c n' c' : Nat) (x y : Int) (w : World) (hE : Env B a w) (h : SIn w A n c D) (h' : SIn w A' n' c' D') (hx0 : 0 ≤ x) (hx9 : x < 18446744073709551616) (hy0 : 0 ≤ y) (hy9 : y < 18446744073709551616)
    (hg : n + n' + bulk D + bulk D' ≤ 1048576) (k1 : x < ((keptL D).length : Int)) (k2 : x = 0 ∨ ((keptL D).length : Int) < x) (k3 : x < y ∧ y ≤ ((keptL D).length : Int)) :
    Calls Tryd.prog 9 #[.slice A n c, .slice A' n' c', .int .u64 x, .int .u64 y] w fun ev w' => ev = .returned (.bool true) ∧ Below w.heap.size w w' := by
  have HK := Lib.hid (And.intro k1 (And.intro k2 k3))
  clear k1 k2 k3
  have HE := Lib.hid hE
  have HD := Lib.hid h
  have HD2 := Lib.hid h'
  have hn9 : n ≤ 140737488355328 := h.2.2.2.2.1
  have hn9' : n' ≤ 140737488355328 := h'.2.2.2.2.1
  have HG := Lib.hid hg
  clear hE h h' hg
  go_enter Tryd.func9, Tryd.ntmps9
  go_wp2_with fail
  refine (texts_any D A n c w HD.out).mono ?_
  rintro ev w0 ⟨t, rfl, ht9, ht, rfl⟩
  have HT0 := Lib.hid ht
  clear ht
  go_wp2_with fail
  refine (texts_any D' A' n' c' w HD2.out).mono ?_
  rintro ev w0 ⟨t', rfl, ht9', ht', rfl⟩
  have HT1 := Lib.hid ht'
  clear ht'
  go_wp2_with fail
  refine (beyond4 n n' t t' w (by omega) (by omega) ht9 ht9').mono ?_
  rintro ev w1 ⟨rfl, hw1⟩
  have b1 : Below w.heap.size w w1 := by rw [hw1]; exact (Below.refl _ _).alloc (Nat.le_refl _) _
  clear hw1
  have hgd : decide (1048576 < n + n' + t + t') = false := by have := HT0.out; have := HT1.out; have := HG.out; simp; omega
  have hn10 : n ≤ 1048576 := by have := HG.out; omega
  have hn10' : n' ≤ 1048576 := by have := HG.out; omega
  rw [hgd]
  go_wp2_with fail
  refine (grown_any a B D A n c w1 (show Env B a w1 from HE.out.step (show Gr w w1 from (by repeat (first | exact Gr.refl _ | (refine Gr.step ?_ (by assumption)) | (refine Gr.alloc ?_ _) | (refine Gr.drew ?_))))) (HD.out.below (show Gr w w1 from (by repeat (first | exact Gr.refl _ | (refine Gr.step ?_ (by assumption)) | (refine Gr.alloc ?_ _) | (refine Gr.drew ?_))))) hn10).mono ?_
  rintro ev w2 ⟨lb, lv, rfl, hL2, b2⟩
  have HN := Lib.hid (show (keptL D).length ≤ 1048576 from hL2.1.1)
  have HL2 := Lib.hid hL2
  clear hL2
  obtain ⟨L, hL⟩ : ∃ L, keptL D = L := ⟨_, rfl⟩
  rw [hL] at HN HL2 HK
  rw [hL]
  obtain ⟨N, hN⟩ : ∃ N, L.length = N := ⟨_, rfl⟩
  rw [hN] at HN HK
  rw [hN]
  have HNL := Lib.hid hN
  have hN0 : N ≤ 1048576 := HN.out
  have hwn : IntKind.u64.wrap (N : Int) = N := IntWalk.u64_in _ (by omega)
  have HLV := Lib.hid (lives_any a B)
  clear hL hN
  obtain ⟨k1, k2, k3⟩ := HK.out
  have hz0 : (0 : Int) ≤ N := by omega
  have hz9 : (N : Int) < 18446744073709551616 := by omega
  obtain ⟨l1, hl1⟩ : ∃ l, pathL 64 x 0 N = l := ⟨_, rfl⟩
  obtain ⟨m1, hm1⟩ : ∃ m, l1.length = m := ⟨_, rfl⟩
  have I1 := Lib.hid (show SpansIn l1 N from by rw [← hl1]; exact path_spansIn x N hx0 k1 (by omega))
  have N1 : m1 ≤ 1000 := by rw [← hm1, ← hl1]; exact (by have := pathL_len 64 x 0 N; omega)
  have E1 := Lib.hid (And.intro hl1 hm1)
  clear hl1 hm1
  obtain ⟨l3, hl3⟩ : ∃ l, batchL 64 x y 0 N = l := ⟨_, rfl⟩
  obtain ⟨m3, hm3⟩ : ∃ m, l3.length = m := ⟨_, rfl⟩
  have I3 := Lib.hid (show SpansIn l3 N from by rw [← hl3]; exact batch_spansIn x y N hx0 k3.1 k3.2 (by omega))
  have N3 : m3 ≤ 1000 := by rw [← hm3, ← hl3]; exact (by have := batchL_len 64 x y 0 N (by omega) (by rw [pow2_64]; omega); omega)
  have E3 := Lib.hid (And.intro hl3 hm3)
  clear hl3 hm3
  obtain ⟨rt, hrt⟩ : ∃ r, treeB L 0 N = r := ⟨_, rfl⟩
  have lrt : rt.length = 32 := by rw [← hrt]; exact treeB_len L 0 N
  obtain ⟨vr, evr, Hvr, Zvr, Ivr, Ovr⟩ := row_of rt lrt
  have hqr := eq_self rt lrt vr evr
  have HRT := Lib.hid (And.intro hrt evr)
  clear hrt lrt evr
  have hz0' := hz0
  go_wp2_with fail
  refine (lroot_ok a B _ lb lv L N w2 (show Env B a w2 from HE.out.step (show Gr w w2 from (by repeat (first | exact Gr.refl _ | (refine Gr.step ?_ (by assumption)) | (refine Gr.alloc ?_ _) | (refine Gr.drew ?_))))) HL2.out hz0 (by rw [HNL.out]; exact Int.le_refl _)).mono ?_
  rw [HRT.out.1, HRT.out.2]
  rintro ev w3 ⟨rfl, b3⟩
  go_upto_region 8 with (refine wpList_store_row_any rfl 29 _ _ rfl w3.heap.size vr rfl rfl 29 _ (heap_at _ _ _ rfl) Ivr.out (by rw [Zvr.out]; rfl) Ovr.out ?_; intro w4 hbN hgN hsN; have b4 : Below w3.heap.size w3 w4 := ((Below.refl _ w3).alloc (Nat.le_refl _) _).trans (hbN.to_below (by simp) (fun k hk q => by omega)); have Rw4 := Lib.hid hgN; clear hbN hgN hsN)
  go_wp2_with fail
  refine (lpath_ok a B _ lb lv L x N w4 (show Env B a w4 from HE.out.step (show Gr w w4 from (by repeat (first | exact Gr.refl _ | (refine Gr.step ?_ (by assumption)) | (refine Gr.alloc ?_ _) | (refine Gr.drew ?_))))) (HL2.out.below (show Gr w2 w4 from (by repeat (first | exact Gr.refl _ | (refine Gr.step ?_ (by assumption)) | (refine Gr.alloc ?_ _) | (refine Gr.drew ?_))))) hx0 k1 (by rw [HNL.out]; exact Int.le_refl _)).mono ?_
  rw [E1.out.1]
  rintro ev w5 ⟨h32_1, va1, rfl, own1, b5⟩
  rw [treesB_len, E1.out.2] at own1
  obtain ⟨A1, ca1, rfl, hca1⟩ := own_shape own1
  have X1 := Lib.hid (And.intro h32_1 (own_mono own1 (show w2.heap.size ≤ w4.heap.size from (show Gr w2 w4 from (by repeat (first | exact Gr.refl _ | (refine Gr.step ?_ (by assumption)) | (refine Gr.alloc ?_ _) | (refine Gr.drew ?_)))).size)))
  clear h32_1 own1
  go_wp2_with fail
  refine (lproof_bad a B _ lb lv L x N w5 (show Env B a w5 from HE.out.step (show Gr w w5 from (by repeat (first | exact Gr.refl _ | (refine Gr.step ?_ (by assumption)) | (refine Gr.alloc ?_ _) | (refine Gr.drew ?_))))) (HL2.out.below (show Gr w2 w5 from (by repeat (first | exact Gr.refl _ | (refine Gr.step ?_ (by assumption)) | (refine Gr.alloc ?_ _) | (refine Gr.drew ?_))))) hx0 hx9 hz0 hz9 (.inr k2)).mono ?_
  rintro ev w6 ⟨rfl, b6⟩
  go_wp2_with fail
  refine (lbatch_ok a B _ lb lv L x y N w6 (show Env B a w6 from HE.out.step (show Gr w w6 from (by repeat (first | exact Gr.refl _ | (refine Gr.step ?_ (by assumption)) | (refine Gr.alloc ?_ _) | (refine Gr.drew ?_))))) (HL2.out.below (show Gr w2 w6 from (by repeat (first | exact Gr.refl _ | (refine Gr.step ?_ (by assumption)) | (refine Gr.alloc ?_ _) | (refine Gr.drew ?_))))) hx0 k3.1 k3.2 (by rw [HNL.out]; exact Int.le_refl _)).mono ?_
  rw [E3.out.1]
  rintro ev w7 ⟨h32_3, va3, rfl, own3, b7⟩
  rw [treesB_len, E3.out.2] at own3
  obtain ⟨A3, ca3, rfl, hca3⟩ := own_shape own3
  have X3 := Lib.hid (And.intro h32_3 (own_mono own3 (show w2.heap.size ≤ w6.heap.size from (show Gr w2 w6 from (by repeat (first | exact Gr.refl _ | (refine Gr.step ?_ (by assumption)) | (refine Gr.alloc ?_ _) | (refine Gr.drew ?_)))).size)))
  clear h32_3 own3
  try unfold errV
  go_upto_region 12 with fail
  have HW : Unit → Gr w2 w7 := fun _ => (by repeat (first | exact Gr.refl _ | (refine Gr.step ?_ (by assumption)) | (refine Gr.alloc ?_ _) | (refine Gr.drew ?_)))
  go_loopw [21] (fun i wr => ∃ (k : Nat) (M : List ByteArray) (v : Value), k ≤ n' ∧ i = .int .i64 k ∧ Hid (LogAt w1.heap.size lb v (L ++ M) wr) ∧ Hid (∀ g, v.ownBlock = some g → g < w2.heap.size ∨ w7.heap.size ≤ g) ∧ Hid (Mid w2.heap.size w7.heap.size w7 wr) ∧ Hid (w7.heap.size ≤ wr.heap.size ∧ Below w1.heap.size w1 wr)) (fun i _ => n' - (intOf i).toNat)
  case atStart => exact ⟨0, [], lv, Nat.zero_le _, rfl, Lib.hid (by rw [List.append_nil]; exact HL2.out.below (HW ())), Lib.hid (fun g hg => .inl (HL2.out.2.2.2.1.lt g hg).2), Lib.hid (Mid.refl _ _ _), Lib.hid ⟨Nat.le_refl _, b2.trans (Below.mono (show Below w2.heap.size w2 w7 from HW ()) b2.size)⟩⟩
  case round =>
    obtain ⟨k, M, v, hk, rfl, HLG, HOB, HMD, HBW⟩ := hrel
    by_cases hlt : k < n'
    · obtain ⟨s, hs⟩ : ∃ s, D'[k]? = some s := ⟨_, List.getElem?_eq_getElem (by have := HD2.out.1; omega)⟩
      obtain ⟨g, o, rfl, hc0, hg, hsz⟩ := HD2.out.at hs
      have hww : Below w.heap.size w wr := b1.trans (HBW.out.2.mono b1.size)
      have hc := cell_below hww hc0 hg
      have i0 : (0 : Int) ≤ k := by omega
      have i1 : (k : Int) < n' := by omega
      have hEr := Lib.hid (HE.out.step hww)
      have hsl : (s.size : Int) ≤ 140737488355328 := by omega
      have HLT := Lib.hid (show lb < w2.heap.size from HL2.out.lt)
      by_cases hok : s.size ≤ 65536 ∧ (L ++ M).length < 1048576
      · have HA := Lib.hid (append_ok w1.heap.size lb v (L ++ M) s wr HLG.out hok.1 hok.2 HBW.out.2.size)
        clear hs hok hc0 hg
        go_wp2_with fail
        refine HA.out.mono ?_
        rintro e w8 ⟨rfl, v2, hL8, hC8⟩
        have HL8 := Lib.hid (show LogAt w1.heap.size lb v2 (L ++ (M ++ [s])) w8 by rw [← List.append_assoc]; exact hL8)
        have HC8 := Lib.hid hC8
        clear hL8 hC8
        go_wp2
        go_roundw
        case rel => exact ⟨k + 1, M ++ [s], v2, by omega, by go_num, HL8, Lib.hid (fun g hg => by
          rcases HC8.out.blk g hg with q | q
          · exact HOB.out g q
          · have := HBW.out.1; exact .inr (by omega)), Lib.hid (HMD.out.trans (Mid.coll HC8.out HBW.out.1 (.inl HLT.out) HOB.out)), Lib.hid ⟨Nat.le_trans HBW.out.1 HC8.out.size, HBW.out.2.trans (HC8.out.below_of HLG.out.2.1 HBW.out.2.size HLG.out.own_ge)⟩⟩
        case measure => simp [intOf]; omega
      · have HA := Lib.hid (append_bad a B w1.heap.size lb v (L ++ M) s wr hEr.out HLG.out (by omega))
        clear hs hok hc0 hg
        go_wp2_with fail
        refine HA.out.mono ?_
        rintro e w8 ⟨rfl, hb8⟩
        have HB8 := Lib.hid hb8
        clear hb8
        go_wp2
        go_roundw
        case rel => exact ⟨k + 1, M, v, by omega, by go_num, Lib.hid (HLG.out.below HB8.out), HOB, Lib.hid (HMD.out.trans (Mid.below HB8.out HBW.out.1)), Lib.hid ⟨Nat.le_trans HBW.out.1 HB8.out.size, HBW.out.2.trans (HB8.out.mono HBW.out.2.size)⟩⟩
        case measure => simp [intOf]; omega
    · obtain rfl : k = n' := by omega
      have bw : Below w.heap.size w wr := b1.trans (HBW.out.2.mono b1.size)
      have HLM := Lib.hid (show (N : Int) ≤ ((L ++ M).length : Int) by rw [List.length_append, HNL.out]; omega)
      have HRM : Hid (treeB (L ++ M) 0 N = treeB L 0 N) := Lib.hid (treeB_more L M 0 N (by omega) hz0 (by rw [HNL.out]; exact Int.le_refl _))
      have KR : Hid (wr.heap[w3.heap.size]? = some (.cells vr 29 (0, 0))) := Lib.hid (by
        have hl := (Array.getElem?_eq_some_iff.1 Rw4.out).1
        rw [HMD.out w3.heap.size (show Gr w2 w3 from (by repeat (first | exact Gr.refl _ | (refine Gr.step ?_ (by assumption)) | (refine Gr.alloc ?_ _) | (refine Gr.drew ?_)))).size (Nat.lt_of_lt_of_le hl (show Gr w4 w7 from (by repeat (first | exact Gr.refl _ | (refine Gr.step ?_ (by assumption)) | (refine Gr.alloc ?_ _) | (refine Gr.drew ?_)))).size)]
        exact ((show Below w4.heap.size w4 w7 from (show Gr w4 w7 from (by repeat (first | exact Gr.refl _ | (refine Gr.step ?_ (by assumption)) | (refine Gr.alloc ?_ _) | (refine Gr.drew ?_))))).block _ hl).trans Rw4.out)
      have Y1 : Hid (HIn wr A1 m1 ca1 (treesB L l1)) := Lib.hid (own_hin (own_mid (own_below X1.out.2 (show Below w5.heap.size w5 w7 from (show Gr w5 w7 from (by repeat (first | exact Gr.refl _ | (refine Gr.step ?_ (by assumption)) | (refine Gr.alloc ?_ _) | (refine Gr.drew ?_))))) (Nat.le_refl _)) HMD.out (Nat.le_refl _)) X1.out.1 (by rw [treesB_len, E1.out.2]))
      have Y3 : Hid (HIn wr A3 m3 ca3 (treesB L l3)) := Lib.hid (own_hin (own_mid (own_below X3.out.2 (show Below w7.heap.size w7 w7 from (show Gr w7 w7 from (by repeat (first | exact Gr.refl _ | (refine Gr.step ?_ (by assumption)) | (refine Gr.alloc ?_ _) | (refine Gr.drew ?_))))) (Nat.le_refl _)) HMD.out (Nat.le_refl _)) X3.out.1 (by rw [treesB_len, E3.out.2]))
      clear b1 b2 b3 b4 b5 b6 b7
      go_wp2_with fail
      refine (lroot_ok a B _ lb v (L ++ M) N wr (show Env B a wr from HE.out.step (show Gr w wr from (by repeat (first | exact Gr.refl _ | (refine Gr.step ?_ (by assumption)) | (refine Gr.alloc ?_ _) | (refine Gr.drew ?_))))) HLG.out hz0 HLM.out).mono ?_
      rw [HRM.out, HRT.out.1, HRT.out.2]
      rintro ev w8 ⟨rfl, b8⟩
      go_upto_region 16 with (refine wpList_store_row_any rfl 29 _ _ rfl w8.heap.size vr rfl rfl 29 _ (heap_at _ _ _ rfl) Ivr.out (by rw [Zvr.out]; rfl) Ovr.out ?_; intro w9 hbN hgN hsN; have b9 : Below w8.heap.size w8 w9 := ((Below.refl _ w8).alloc (Nat.le_refl _) _).trans (hbN.to_below (by simp) (fun k hk q => by omega)); have Rw9 := Lib.hid hgN; clear hbN hgN hsN)
      go_wp2_with fail
      refine (lpath_ok a B _ lb v (L ++ M) x N w9 (show Env B a w9 from HE.out.step (show Gr w w9 from (by repeat (first | exact Gr.refl _ | (refine Gr.step ?_ (by assumption)) | (refine Gr.alloc ?_ _) | (refine Gr.drew ?_))))) (HLG.out.below (show Gr wr w9 from (by repeat (first | exact Gr.refl _ | (refine Gr.step ?_ (by assumption)) | (refine Gr.alloc ?_ _) | (refine Gr.drew ?_))))) hx0 k1 HLM.out).mono ?_
      rw [E1.out.1, treesB_more L M l1 N I1.out (by rw [HNL.out]; exact Int.le_refl _)]
      rintro ev w10 ⟨h32_1, vb1, rfl, own1, b10⟩
      rw [treesB_len, E1.out.2] at own1
      obtain ⟨Ab1, cb1, rfl, hcb1⟩ := own_shape own1
      have Z1 := Lib.hid (own_hin own1 h32_1 (by rw [treesB_len, E1.out.2]))
      clear h32_1 own1
      go_wp2_with fail
      refine (lproof_bad a B _ lb v (L ++ M) x N w10 (show Env B a w10 from HE.out.step (show Gr w w10 from (by repeat (first | exact Gr.refl _ | (refine Gr.step ?_ (by assumption)) | (refine Gr.alloc ?_ _) | (refine Gr.drew ?_))))) (HLG.out.below (show Gr wr w10 from (by repeat (first | exact Gr.refl _ | (refine Gr.step ?_ (by assumption)) | (refine Gr.alloc ?_ _) | (refine Gr.drew ?_))))) hx0 hx9 hz0 hz9 (.inr k2)).mono ?_
      rintro ev w11 ⟨rfl, b11⟩
      go_wp2_with fail
      refine (lbatch_ok a B _ lb v (L ++ M) x y N w11 (show Env B a w11 from HE.out.step (show Gr w w11 from (by repeat (first | exact Gr.refl _ | (refine Gr.step ?_ (by assumption)) | (refine Gr.alloc ?_ _) | (refine Gr.drew ?_))))) (HLG.out.below (show Gr wr w11 from (by repeat (first | exact Gr.refl _ | (refine Gr.step ?_ (by assumption)) | (refine Gr.alloc ?_ _) | (refine Gr.drew ?_))))) hx0 k3.1 k3.2 HLM.out).mono ?_
      rw [E3.out.1, treesB_more L M l3 N I3.out (by rw [HNL.out]; exact Int.le_refl _)]
      rintro ev w12 ⟨h32_3, vb3, rfl, own3, b12⟩
      rw [treesB_len, E3.out.2] at own3
      obtain ⟨Ab3, cb3, rfl, hcb3⟩ := own_shape own3
      have Z3 := Lib.hid (own_hin own3 h32_3 (by rw [treesB_len, E3.out.2]))
      clear h32_3 own3
      try unfold errV
      have K1 : Hid (w12.heap[w8.heap.size]? = some (.cells vr 29 (0, 0))) := Lib.hid (((show Below w9.heap.size w9 w12 from (show Gr w9 w12 from (by repeat (first | exact Gr.refl _ | (refine Gr.step ?_ (by assumption)) | (refine Gr.alloc ?_ _) | (refine Gr.drew ?_))))).block _ (Array.getElem?_eq_some_iff.1 Rw9.out).1).trans Rw9.out)
      have K2 : Hid (w12.heap[w3.heap.size]? = some (.cells vr 29 (0, 0))) := Lib.hid (((show Below wr.heap.size wr w12 from (show Gr wr w12 from (by repeat (first | exact Gr.refl _ | (refine Gr.step ?_ (by assumption)) | (refine Gr.alloc ?_ _) | (refine Gr.drew ?_))))).block _ (Array.getElem?_eq_some_iff.1 KR.out).1).trans KR.out)
      go_wp2_with (first | (refine wpList_load_row rfl 29 _ rfl w8.heap.size rfl 29 vr (0, 0) _ K1.out Tryd.underlying29 rfl Ivr.out ?_) | (refine wpList_load_row rfl 29 _ rfl w3.heap.size rfl 29 vr (0, 0) _ K2.out Tryd.underlying29 rfl Ivr.out ?_))
      refine (same_hashes (treesB L l1) (treesB L l1) A1 Ab1 m1 m1 ca1 cb1 w12 (by omega) (Y1.out.below (show Gr wr w12 from (by repeat (first | exact Gr.refl _ | (refine Gr.step ?_ (by assumption)) | (refine Gr.alloc ?_ _) | (refine Gr.drew ?_))))) (Z1.out.below (show Gr w10 w12 from (by repeat (first | exact Gr.refl _ | (refine Gr.step ?_ (by assumption)) | (refine Gr.alloc ?_ _) | (refine Gr.drew ?_)))))).mono ?_
      rintro ev w13 ⟨rfl, b13⟩
      rw [decide_eq_true rfl]
      go_wp2_with fail
      refine (same_hashes [] [] none none 0 0 0 0 w13 (by omega) (hin_none w13) (hin_none w13)).mono ?_
      rintro ev w14 ⟨rfl, b14⟩
      rw [decide_eq_true rfl]
      go_wp2_with fail
      refine (same_hashes (treesB L l3) (treesB L l3) A3 Ab3 m3 m3 ca3 cb3 w14 (by omega) (Y3.out.below (show Gr wr w14 from (by repeat (first | exact Gr.refl _ | (refine Gr.step ?_ (by assumption)) | (refine Gr.alloc ?_ _) | (refine Gr.drew ?_))))) (Z3.out.below (show Gr w12 w14 from (by repeat (first | exact Gr.refl _ | (refine Gr.step ?_ (by assumption)) | (refine Gr.alloc ?_ _) | (refine Gr.drew ?_)))))).mono ?_
      rintro ev w15 ⟨rfl, b15⟩
      rw [decide_eq_true rfl]
      go_wp2_with fail
      refine wp_region_held_drew (S := Gr w15) (by kernel_rfl) ((Gr.refl _).drew) (fun hHeld => ?_)
      refine wpAnyH_take (i := 0) (v := ?tv51) rfl (by kernel_rfl) (by kernel_rfl) (by kernel_rfl) (fun _ _ _ h => h) (Or.inl ⟨by rfl, ?ty51⟩) (by assumption) ?tr51
      case ty51 => (intro w hSw; (try dsimp only at hSw); go_simp; (try with_reducible rfl))
      try simp only [Act.put, List.getElem_toArray, List.getElem_cons_zero, List.setIfInBounds_toArray, List.set_cons_zero, List.set_cons_succ]
      refine wpAnyH_take (i := 1) (v := ?tv52) rfl (by kernel_rfl) (by kernel_rfl) (by kernel_rfl) (fun _ _ _ h => h) (Or.inl ⟨by rfl, ?ty52⟩) (by assumption) ?tr52
      case ty52 => (intro w hSw; (try dsimp only at hSw); go_simp; (try with_reducible rfl))
      try simp only [Act.put, List.getElem_toArray, List.getElem_cons_zero, List.getElem_cons_succ, List.setIfInBounds_toArray, List.set_cons_zero, List.set_cons_succ]
      refine wpAnyH_take (i := 2) (v := ?tv53) rfl (by kernel_rfl) (by kernel_rfl) (by kernel_rfl) (fun _ _ _ h => h) (Or.inl ⟨by rfl, ?ty53⟩) (by assumption) ?tr53
      case ty53 => (intro w hSw; (try dsimp only at hSw); go_simp; (try with_reducible rfl))
      try simp only [Act.put, List.getElem_toArray, List.getElem_cons_zero, List.getElem_cons_succ, List.setIfInBounds_toArray, List.set_cons_zero, List.set_cons_succ]
      refine wpAnyH_take (i := 3) (v := ?tv54) rfl (by kernel_rfl) (by kernel_rfl) (by kernel_rfl) (fun _ _ _ h => h) (Or.inl ⟨by rfl, ?ty54⟩) (by assumption) ?tr54
      case ty54 => (intro w hSw; (try dsimp only at hSw); go_simp; (try with_reducible rfl))
      try simp only [Act.put, List.getElem_toArray, List.getElem_cons_zero, List.getElem_cons_succ, List.setIfInBounds_toArray, List.set_cons_zero, List.set_cons_succ]
      refine wpAnyH_take (i := 4) (v := ?tv55) rfl (by kernel_rfl) (by kernel_rfl) (by kernel_rfl) (fun _ _ _ h => h) (Or.inl ⟨by rfl, ?ty55⟩) (by assumption) ?tr55
      case ty55 => (intro w hSw; (try dsimp only at hSw); go_simp; (try with_reducible rfl))
      try simp only [Act.put, List.getElem_toArray, List.getElem_cons_zero, List.getElem_cons_succ, List.setIfInBounds_toArray, List.set_cons_zero, List.set_cons_succ]
      refine wpAnyH_take (i := 5) (v := ?tv56) rfl (by kernel_rfl) (by kernel_rfl) (by kernel_rfl) (fun _ _ _ h => h) (Or.inl ⟨by rfl, ?ty56⟩) (by assumption) ?tr56
      case ty56 => (intro w hSw; (try dsimp only at hSw); go_simp; (try with_reducible rfl))
      try simp only [Act.put, List.getElem_toArray, List.getElem_cons_zero, List.getElem_cons_succ, List.setIfInBounds_toArray, List.set_cons_zero, List.set_cons_succ]
      refine wpAnyH_take (i := 6) (v := ?tv57) rfl (by kernel_rfl) (by kernel_rfl) (by kernel_rfl) (fun _ _ _ h => h) (Or.inl ⟨by rfl, ?ty57⟩) (by assumption) ?tr57
      case ty57 => (intro w hSw; (try dsimp only at hSw); go_simp; (try with_reducible rfl))
      try simp only [Act.put, List.getElem_toArray, List.getElem_cons_zero, List.getElem_cons_succ, List.setIfInBounds_toArray, List.set_cons_zero, List.set_cons_succ]
      refine wpAnyH_take (i := 7) (v := ?tv58) rfl (by kernel_rfl) (by kernel_rfl) (by kernel_rfl) (fun _ _ _ h => h) (Or.inl ⟨by rfl, ?ty58⟩) (by assumption) ?tr58
      case ty58 => (intro w hSw; (try dsimp only at hSw); go_simp; (try with_reducible rfl))
      try simp only [Act.put, List.getElem_toArray, List.getElem_cons_zero, List.getElem_cons_succ, List.setIfInBounds_toArray, List.set_cons_zero, List.set_cons_succ]
      refine wpAnyH_take (i := 8) (v := ?tv59) rfl (by kernel_rfl) (by kernel_rfl) (by kernel_rfl) (fun _ _ _ h => h) (Or.inl ⟨by rfl, ?ty59⟩) (by assumption) ?tr59
      case ty59 => (intro w hSw; (try dsimp only at hSw); go_simp; (try with_reducible rfl))
      try simp only [Act.put, List.getElem_toArray, List.getElem_cons_zero, List.getElem_cons_succ, List.setIfInBounds_toArray, List.set_cons_zero, List.set_cons_succ]
      refine wpAnyH_take (i := 9) (v := ?tv60) rfl (by kernel_rfl) (by kernel_rfl) (by kernel_rfl) (fun _ _ _ h => h) (Or.inl ⟨by rfl, ?ty60⟩) (by assumption) ?tr60
      case ty60 => (intro w hSw; (try dsimp only at hSw); go_simp; (try with_reducible rfl))
      try simp only [Act.put, List.getElem_toArray, List.getElem_cons_zero, List.getElem_cons_succ, List.setIfInBounds_toArray, List.set_cons_zero, List.set_cons_succ]
      refine wpAnyH_take (i := 10) (v := ?tv61) rfl (by kernel_rfl) (by kernel_rfl) (by kernel_rfl) (fun _ _ _ h => h) (Or.inl ⟨by rfl, ?ty61⟩) (by assumption) ?tr61
      case ty61 => (intro w hSw; (try dsimp only at hSw); go_simp; (try with_reducible rfl))
      try simp only [Act.put, List.getElem_toArray, List.getElem_cons_zero, List.getElem_cons_succ, List.setIfInBounds_toArray, List.set_cons_zero, List.set_cons_succ]
      refine wpAnyH_take (i := 11) (v := ?tv62) rfl (by kernel_rfl) (by kernel_rfl) (by kernel_rfl) (fun _ _ _ h => h) (Or.inl ⟨by rfl, ?ty62⟩) (by assumption) ?tr62
      case ty62 => (intro w hSw; (try dsimp only at hSw); go_simp; (try with_reducible rfl))
      try simp only [Act.put, List.getElem_toArray, List.getElem_cons_zero, List.getElem_cons_succ, List.setIfInBounds_toArray, List.set_cons_zero, List.set_cons_succ]
      refine wpAnyH_take (i := 12) (v := ?tv63) rfl (by kernel_rfl) (by kernel_rfl) (by kernel_rfl) (fun _ _ _ h => h) (Or.inl ⟨by rfl, ?ty63⟩) (by assumption) ?tr63
      case ty63 => (intro w hSw; (try dsimp only at hSw); go_simp; (try with_reducible rfl))
      try simp only [Act.put, List.getElem_toArray, List.getElem_cons_zero, List.getElem_cons_succ, List.setIfInBounds_toArray, List.set_cons_zero, List.set_cons_succ]
      refine wpAnyH_take (i := 13) (v := ?tv64) rfl (by kernel_rfl) (by kernel_rfl) (by kernel_rfl) (fun _ _ _ h => h) (Or.inl ⟨by rfl, ?ty64⟩) (by assumption) ?tr64
      case ty64 => (intro w hSw; (try dsimp only at hSw); go_simp; (try with_reducible rfl))
      try simp only [Act.put, List.getElem_toArray, List.getElem_cons_zero, List.getElem_cons_succ, List.setIfInBounds_toArray, List.set_cons_zero, List.set_cons_succ]
      refine wpAnyH_take (i := 14) (v := ?tv65) rfl (by kernel_rfl) (by kernel_rfl) (by kernel_rfl) (fun _ _ _ h => h) (Or.inl ⟨by rfl, ?ty65⟩) (by assumption) ?tr65
      case ty65 => (intro w hSw; (try dsimp only at hSw); go_simp; (try with_reducible rfl))
      try simp only [Act.put, List.getElem_toArray, List.getElem_cons_zero, List.getElem_cons_succ, List.setIfInBounds_toArray, List.set_cons_zero, List.set_cons_succ]
      refine wpAnyH_take (i := 15) (v := ?tv66) rfl (by kernel_rfl) (by kernel_rfl) (by kernel_rfl) (fun _ _ _ h => h) (Or.inl ⟨by rfl, ?ty66⟩) (by assumption) ?tr66
      case ty66 => (intro w hSw; (try dsimp only at hSw); go_simp; (try with_reducible rfl))
      try simp only [Act.put, List.getElem_toArray, List.getElem_cons_zero, List.getElem_cons_succ, List.setIfInBounds_toArray, List.set_cons_zero, List.set_cons_succ]
      refine wpAnyH_take (i := 16) (v := ?tv67) rfl (by kernel_rfl) (by kernel_rfl) (by kernel_rfl) (fun _ _ _ h => h) (Or.inl ⟨by rfl, ?ty67⟩) (by assumption) ?tr67
      case ty67 => (intro w hSw; (try dsimp only at hSw); go_simp; (try with_reducible rfl))
      try simp only [Act.put, List.getElem_toArray, List.getElem_cons_zero, List.getElem_cons_succ, List.setIfInBounds_toArray, List.set_cons_zero, List.set_cons_succ]
      refine wpAnyH_take (i := 17) (v := ?tv68) rfl (by kernel_rfl) (by kernel_rfl) (by kernel_rfl) (fun _ _ _ h => h) (Or.inl ⟨by rfl, ?ty68⟩) (by assumption) ?tr68
      case ty68 => (intro w hSw; (try dsimp only at hSw); go_simp; (try with_reducible rfl))
      try simp only [Act.put, List.getElem_toArray, List.getElem_cons_zero, List.getElem_cons_succ, List.setIfInBounds_toArray, List.set_cons_zero, List.set_cons_succ]
      refine wpAnyH_take (i := 18) (v := ?tv69) rfl (by kernel_rfl) (by kernel_rfl) (by kernel_rfl) (fun _ _ _ h => h) (Or.inl ⟨by rfl, ?ty69⟩) (by assumption) ?tr69
      case ty69 => (intro w hSw; (try dsimp only at hSw); go_simp; (try with_reducible rfl))
      try simp only [Act.put, List.getElem_toArray, List.getElem_cons_zero, List.getElem_cons_succ, List.setIfInBounds_toArray, List.set_cons_zero, List.set_cons_succ]
      refine wpAnyH_take (i := 19) (v := ?tv70) rfl (by kernel_rfl) (by kernel_rfl) (by kernel_rfl) (fun _ _ _ h => h) (Or.inl ⟨by rfl, ?ty70⟩) (by assumption) ?tr70
      case ty70 => (intro w hSw; (try dsimp only at hSw); go_simp; (try with_reducible rfl))
      try simp only [Act.put, List.getElem_toArray, List.getElem_cons_zero, List.getElem_cons_succ, List.setIfInBounds_toArray, List.set_cons_zero, List.set_cons_succ]
      refine wpAnyH_take (i := 20) (v := ?tv71) rfl (by kernel_rfl) (by kernel_rfl) (by kernel_rfl) (fun _ _ _ h => h) (Or.inl ⟨by rfl, ?ty71⟩) (by assumption) ?tr71
      case ty71 => (intro w hSw; (try dsimp only at hSw); go_simp; (try with_reducible rfl))
      try simp only [Act.put, List.getElem_toArray, List.getElem_cons_zero, List.getElem_cons_succ, List.setIfInBounds_toArray, List.set_cons_zero, List.set_cons_succ]
      refine wpAnyH_take (i := 21) (v := ?tv72) rfl (by kernel_rfl) (by kernel_rfl) (by kernel_rfl) (fun _ _ _ h => h) (Or.inl ⟨by rfl, ?ty72⟩) (by assumption) ?tr72
      case ty72 => (intro w hSw; (try dsimp only at hSw); go_simp; (try with_reducible rfl))
      try simp only [Act.put, List.getElem_toArray, List.getElem_cons_zero, List.getElem_cons_succ, List.setIfInBounds_toArray, List.set_cons_zero, List.set_cons_succ]
      refine wpAnyH_take (i := 22) (v := ?tv73) rfl (by kernel_rfl) (by kernel_rfl) (by kernel_rfl) (fun _ _ _ h => h) (Or.inl ⟨by rfl, ?ty73⟩) (by assumption) ?tr73
      case ty73 => (intro w hSw; (try dsimp only at hSw); go_simp; (try with_reducible rfl))
      try simp only [Act.put, List.getElem_toArray, List.getElem_cons_zero, List.getElem_cons_succ, List.setIfInBounds_toArray, List.set_cons_zero, List.set_cons_succ]
      refine wpAnyH_ready (rs := [23]) (by kernel_rfl) (by simp) ?_
      refine AllReadyH.cons (i := 23) rfl (fun K2 hK2 => ?_) AllReadyH.nil
      go_simp
      go_at_call 27
      refine (HLV.out w15.drew (show Env B a w15.drew from HE.out.step (show Gr w w15.drew from (by repeat (first | exact Gr.refl _ | (refine Gr.step ?_ (by assumption)) | (refine Gr.alloc ?_ _) | (refine Gr.drew ?_)))))).mono ?_
      rintro ev w103 ⟨rfl, b103⟩
      try go_wp2_with fail
      refine hK2.out _ _ (show Gr w15 _ from (by repeat (first | exact Gr.refl _ | (refine Gr.step ?_ (by assumption)) | (refine Gr.alloc ?_ _) | (refine Gr.drew ?_)))) (fun hHeld2 => ?_)
      clear hK2 K2
      try simp only [Act.put, List.getElem_toArray, List.getElem_cons_zero, List.getElem_cons_succ, List.setIfInBounds_toArray, List.set_cons_zero, List.set_cons_succ]
      refine wpAnyH_take (i := 24) (v := ?tv74) rfl (by kernel_rfl) (by kernel_rfl) (by kernel_rfl) (fun _ _ _ h => h) (Or.inl ⟨by rfl, ?ty74⟩) (by assumption) ?tr74
      case ty74 => (intro w hSw; (try dsimp only at hSw); go_simp; (try with_reducible rfl))
      try simp only [Act.put, List.getElem_toArray, List.getElem_cons_zero, List.getElem_cons_succ, List.setIfInBounds_toArray, List.set_cons_zero, List.set_cons_succ]
      refine wpAnyH_take (i := 25) (v := ?tv75) rfl (by kernel_rfl) (by kernel_rfl) (by kernel_rfl) (fun _ _ _ h => h) (Or.inl ⟨by rfl, ?ty75⟩) (by assumption) ?tr75
      case ty75 => (intro w hSw; (try dsimp only at hSw); go_simp; (try with_reducible rfl))
      try simp only [Act.put, List.getElem_toArray, List.getElem_cons_zero, List.getElem_cons_succ, List.setIfInBounds_toArray, List.set_cons_zero, List.set_cons_succ]
      refine wpAnyH_done (by kernel_rfl) ?_ _
      go_wp2
      go_ret
      exact ⟨rfl, show Gr w _ from (by repeat (first | exact Gr.refl _ | (refine Gr.step ?_ (by assumption)) | (refine Gr.alloc ?_ _) | (refine Gr.drew ?_)))⟩

set_option maxRecDepth 100000 in
set_option maxHeartbeats 8000000 in
theorem stays_ynn (a : Nat → Addr) (B : Nat) (D D' : List ByteArray) (A A' : Option Addr) (n c n' c' : Nat) (x y : Int) (w : World) (hE : Env B a w) (h : SIn w A n c D) (h' : SIn w A' n' c' D') (hx0 : 0 ≤ x) (hx9 : x < 18446744073709551616) (hy0 : 0 ≤ y) (hy9 : y < 18446744073709551616)
    (hg : n + n' + bulk D + bulk D' ≤ 1048576) (k1 : x < ((keptL D).length : Int)) (k2 : x = 0 ∨ ((keptL D).length : Int) < x) (k3 : ((keptL D).length : Int) < y ∨ y ≤ x) :
    Calls Tryd.prog 9 #[.slice A n c, .slice A' n' c', .int .u64 x, .int .u64 y] w fun ev w' => ev = .returned (.bool true) ∧ Below w.heap.size w w' := by
  have HK := Lib.hid (And.intro k1 (And.intro k2 k3))
  clear k1 k2 k3
  have HE := Lib.hid hE
  have HD := Lib.hid h
  have HD2 := Lib.hid h'
  have hn9 : n ≤ 140737488355328 := h.2.2.2.2.1
  have hn9' : n' ≤ 140737488355328 := h'.2.2.2.2.1
  have HG := Lib.hid hg
  clear hE h h' hg
  go_enter Tryd.func9, Tryd.ntmps9
  go_wp2_with fail
  refine (texts_any D A n c w HD.out).mono ?_
  rintro ev w0 ⟨t, rfl, ht9, ht, rfl⟩
  have HT0 := Lib.hid ht
  clear ht
  go_wp2_with fail
  refine (texts_any D' A' n' c' w HD2.out).mono ?_
  rintro ev w0 ⟨t', rfl, ht9', ht', rfl⟩
  have HT1 := Lib.hid ht'
  clear ht'
  go_wp2_with fail
  refine (beyond4 n n' t t' w (by omega) (by omega) ht9 ht9').mono ?_
  rintro ev w1 ⟨rfl, hw1⟩
  have b1 : Below w.heap.size w w1 := by rw [hw1]; exact (Below.refl _ _).alloc (Nat.le_refl _) _
  clear hw1
  have hgd : decide (1048576 < n + n' + t + t') = false := by have := HT0.out; have := HT1.out; have := HG.out; simp; omega
  have hn10 : n ≤ 1048576 := by have := HG.out; omega
  have hn10' : n' ≤ 1048576 := by have := HG.out; omega
  rw [hgd]
  go_wp2_with fail
  refine (grown_any a B D A n c w1 (show Env B a w1 from HE.out.step (show Gr w w1 from (by repeat (first | exact Gr.refl _ | (refine Gr.step ?_ (by assumption)) | (refine Gr.alloc ?_ _) | (refine Gr.drew ?_))))) (HD.out.below (show Gr w w1 from (by repeat (first | exact Gr.refl _ | (refine Gr.step ?_ (by assumption)) | (refine Gr.alloc ?_ _) | (refine Gr.drew ?_))))) hn10).mono ?_
  rintro ev w2 ⟨lb, lv, rfl, hL2, b2⟩
  have HN := Lib.hid (show (keptL D).length ≤ 1048576 from hL2.1.1)
  have HL2 := Lib.hid hL2
  clear hL2
  obtain ⟨L, hL⟩ : ∃ L, keptL D = L := ⟨_, rfl⟩
  rw [hL] at HN HL2 HK
  rw [hL]
  obtain ⟨N, hN⟩ : ∃ N, L.length = N := ⟨_, rfl⟩
  rw [hN] at HN HK
  rw [hN]
  have HNL := Lib.hid hN
  have hN0 : N ≤ 1048576 := HN.out
  have hwn : IntKind.u64.wrap (N : Int) = N := IntWalk.u64_in _ (by omega)
  have HLV := Lib.hid (lives_any a B)
  clear hL hN
  obtain ⟨k1, k2, k3⟩ := HK.out
  have hz0 : (0 : Int) ≤ N := by omega
  have hz9 : (N : Int) < 18446744073709551616 := by omega
  obtain ⟨l1, hl1⟩ : ∃ l, pathL 64 x 0 N = l := ⟨_, rfl⟩
  obtain ⟨m1, hm1⟩ : ∃ m, l1.length = m := ⟨_, rfl⟩
  have I1 := Lib.hid (show SpansIn l1 N from by rw [← hl1]; exact path_spansIn x N hx0 k1 (by omega))
  have N1 : m1 ≤ 1000 := by rw [← hm1, ← hl1]; exact (by have := pathL_len 64 x 0 N; omega)
  have E1 := Lib.hid (And.intro hl1 hm1)
  clear hl1 hm1
  obtain ⟨rt, hrt⟩ : ∃ r, treeB L 0 N = r := ⟨_, rfl⟩
  have lrt : rt.length = 32 := by rw [← hrt]; exact treeB_len L 0 N
  obtain ⟨vr, evr, Hvr, Zvr, Ivr, Ovr⟩ := row_of rt lrt
  have hqr := eq_self rt lrt vr evr
  have HRT := Lib.hid (And.intro hrt evr)
  clear hrt lrt evr
  have hz0' := hz0
  go_wp2_with fail
  refine (lroot_ok a B _ lb lv L N w2 (show Env B a w2 from HE.out.step (show Gr w w2 from (by repeat (first | exact Gr.refl _ | (refine Gr.step ?_ (by assumption)) | (refine Gr.alloc ?_ _) | (refine Gr.drew ?_))))) HL2.out hz0 (by rw [HNL.out]; exact Int.le_refl _)).mono ?_
  rw [HRT.out.1, HRT.out.2]
  rintro ev w3 ⟨rfl, b3⟩
  go_upto_region 8 with (refine wpList_store_row_any rfl 29 _ _ rfl w3.heap.size vr rfl rfl 29 _ (heap_at _ _ _ rfl) Ivr.out (by rw [Zvr.out]; rfl) Ovr.out ?_; intro w4 hbN hgN hsN; have b4 : Below w3.heap.size w3 w4 := ((Below.refl _ w3).alloc (Nat.le_refl _) _).trans (hbN.to_below (by simp) (fun k hk q => by omega)); have Rw4 := Lib.hid hgN; clear hbN hgN hsN)
  go_wp2_with fail
  refine (lpath_ok a B _ lb lv L x N w4 (show Env B a w4 from HE.out.step (show Gr w w4 from (by repeat (first | exact Gr.refl _ | (refine Gr.step ?_ (by assumption)) | (refine Gr.alloc ?_ _) | (refine Gr.drew ?_))))) (HL2.out.below (show Gr w2 w4 from (by repeat (first | exact Gr.refl _ | (refine Gr.step ?_ (by assumption)) | (refine Gr.alloc ?_ _) | (refine Gr.drew ?_))))) hx0 k1 (by rw [HNL.out]; exact Int.le_refl _)).mono ?_
  rw [E1.out.1]
  rintro ev w5 ⟨h32_1, va1, rfl, own1, b5⟩
  rw [treesB_len, E1.out.2] at own1
  obtain ⟨A1, ca1, rfl, hca1⟩ := own_shape own1
  have X1 := Lib.hid (And.intro h32_1 (own_mono own1 (show w2.heap.size ≤ w4.heap.size from (show Gr w2 w4 from (by repeat (first | exact Gr.refl _ | (refine Gr.step ?_ (by assumption)) | (refine Gr.alloc ?_ _) | (refine Gr.drew ?_)))).size)))
  clear h32_1 own1
  go_wp2_with fail
  refine (lproof_bad a B _ lb lv L x N w5 (show Env B a w5 from HE.out.step (show Gr w w5 from (by repeat (first | exact Gr.refl _ | (refine Gr.step ?_ (by assumption)) | (refine Gr.alloc ?_ _) | (refine Gr.drew ?_))))) (HL2.out.below (show Gr w2 w5 from (by repeat (first | exact Gr.refl _ | (refine Gr.step ?_ (by assumption)) | (refine Gr.alloc ?_ _) | (refine Gr.drew ?_))))) hx0 hx9 hz0 hz9 (.inr k2)).mono ?_
  rintro ev w6 ⟨rfl, b6⟩
  go_wp2_with fail
  refine (lbatch_bad a B _ lb lv L x y N w6 (show Env B a w6 from HE.out.step (show Gr w w6 from (by repeat (first | exact Gr.refl _ | (refine Gr.step ?_ (by assumption)) | (refine Gr.alloc ?_ _) | (refine Gr.drew ?_))))) (HL2.out.below (show Gr w2 w6 from (by repeat (first | exact Gr.refl _ | (refine Gr.step ?_ (by assumption)) | (refine Gr.alloc ?_ _) | (refine Gr.drew ?_))))) hx0 hx9 hy0 hy9 hz0 hz9 (.inr k3)).mono ?_
  rintro ev w7 ⟨rfl, b7⟩
  try unfold errV
  go_upto_region 12 with fail
  have HW : Unit → Gr w2 w7 := fun _ => (by repeat (first | exact Gr.refl _ | (refine Gr.step ?_ (by assumption)) | (refine Gr.alloc ?_ _) | (refine Gr.drew ?_)))
  go_loopw [21] (fun i wr => ∃ (k : Nat) (M : List ByteArray) (v : Value), k ≤ n' ∧ i = .int .i64 k ∧ Hid (LogAt w1.heap.size lb v (L ++ M) wr) ∧ Hid (∀ g, v.ownBlock = some g → g < w2.heap.size ∨ w7.heap.size ≤ g) ∧ Hid (Mid w2.heap.size w7.heap.size w7 wr) ∧ Hid (w7.heap.size ≤ wr.heap.size ∧ Below w1.heap.size w1 wr)) (fun i _ => n' - (intOf i).toNat)
  case atStart => exact ⟨0, [], lv, Nat.zero_le _, rfl, Lib.hid (by rw [List.append_nil]; exact HL2.out.below (HW ())), Lib.hid (fun g hg => .inl (HL2.out.2.2.2.1.lt g hg).2), Lib.hid (Mid.refl _ _ _), Lib.hid ⟨Nat.le_refl _, b2.trans (Below.mono (show Below w2.heap.size w2 w7 from HW ()) b2.size)⟩⟩
  case round =>
    obtain ⟨k, M, v, hk, rfl, HLG, HOB, HMD, HBW⟩ := hrel
    by_cases hlt : k < n'
    · obtain ⟨s, hs⟩ : ∃ s, D'[k]? = some s := ⟨_, List.getElem?_eq_getElem (by have := HD2.out.1; omega)⟩
      obtain ⟨g, o, rfl, hc0, hg, hsz⟩ := HD2.out.at hs
      have hww : Below w.heap.size w wr := b1.trans (HBW.out.2.mono b1.size)
      have hc := cell_below hww hc0 hg
      have i0 : (0 : Int) ≤ k := by omega
      have i1 : (k : Int) < n' := by omega
      have hEr := Lib.hid (HE.out.step hww)
      have hsl : (s.size : Int) ≤ 140737488355328 := by omega
      have HLT := Lib.hid (show lb < w2.heap.size from HL2.out.lt)
      by_cases hok : s.size ≤ 65536 ∧ (L ++ M).length < 1048576
      · have HA := Lib.hid (append_ok w1.heap.size lb v (L ++ M) s wr HLG.out hok.1 hok.2 HBW.out.2.size)
        clear hs hok hc0 hg
        go_wp2_with fail
        refine HA.out.mono ?_
        rintro e w8 ⟨rfl, v2, hL8, hC8⟩
        have HL8 := Lib.hid (show LogAt w1.heap.size lb v2 (L ++ (M ++ [s])) w8 by rw [← List.append_assoc]; exact hL8)
        have HC8 := Lib.hid hC8
        clear hL8 hC8
        go_wp2
        go_roundw
        case rel => exact ⟨k + 1, M ++ [s], v2, by omega, by go_num, HL8, Lib.hid (fun g hg => by
          rcases HC8.out.blk g hg with q | q
          · exact HOB.out g q
          · have := HBW.out.1; exact .inr (by omega)), Lib.hid (HMD.out.trans (Mid.coll HC8.out HBW.out.1 (.inl HLT.out) HOB.out)), Lib.hid ⟨Nat.le_trans HBW.out.1 HC8.out.size, HBW.out.2.trans (HC8.out.below_of HLG.out.2.1 HBW.out.2.size HLG.out.own_ge)⟩⟩
        case measure => simp [intOf]; omega
      · have HA := Lib.hid (append_bad a B w1.heap.size lb v (L ++ M) s wr hEr.out HLG.out (by omega))
        clear hs hok hc0 hg
        go_wp2_with fail
        refine HA.out.mono ?_
        rintro e w8 ⟨rfl, hb8⟩
        have HB8 := Lib.hid hb8
        clear hb8
        go_wp2
        go_roundw
        case rel => exact ⟨k + 1, M, v, by omega, by go_num, Lib.hid (HLG.out.below HB8.out), HOB, Lib.hid (HMD.out.trans (Mid.below HB8.out HBW.out.1)), Lib.hid ⟨Nat.le_trans HBW.out.1 HB8.out.size, HBW.out.2.trans (HB8.out.mono HBW.out.2.size)⟩⟩
        case measure => simp [intOf]; omega
    · obtain rfl : k = n' := by omega
      have bw : Below w.heap.size w wr := b1.trans (HBW.out.2.mono b1.size)
      have HLM := Lib.hid (show (N : Int) ≤ ((L ++ M).length : Int) by rw [List.length_append, HNL.out]; omega)
      have HRM : Hid (treeB (L ++ M) 0 N = treeB L 0 N) := Lib.hid (treeB_more L M 0 N (by omega) hz0 (by rw [HNL.out]; exact Int.le_refl _))
      have KR : Hid (wr.heap[w3.heap.size]? = some (.cells vr 29 (0, 0))) := Lib.hid (by
        have hl := (Array.getElem?_eq_some_iff.1 Rw4.out).1
        rw [HMD.out w3.heap.size (show Gr w2 w3 from (by repeat (first | exact Gr.refl _ | (refine Gr.step ?_ (by assumption)) | (refine Gr.alloc ?_ _) | (refine Gr.drew ?_)))).size (Nat.lt_of_lt_of_le hl (show Gr w4 w7 from (by repeat (first | exact Gr.refl _ | (refine Gr.step ?_ (by assumption)) | (refine Gr.alloc ?_ _) | (refine Gr.drew ?_)))).size)]
        exact ((show Below w4.heap.size w4 w7 from (show Gr w4 w7 from (by repeat (first | exact Gr.refl _ | (refine Gr.step ?_ (by assumption)) | (refine Gr.alloc ?_ _) | (refine Gr.drew ?_))))).block _ hl).trans Rw4.out)
      have Y1 : Hid (HIn wr A1 m1 ca1 (treesB L l1)) := Lib.hid (own_hin (own_mid (own_below X1.out.2 (show Below w5.heap.size w5 w7 from (show Gr w5 w7 from (by repeat (first | exact Gr.refl _ | (refine Gr.step ?_ (by assumption)) | (refine Gr.alloc ?_ _) | (refine Gr.drew ?_))))) (Nat.le_refl _)) HMD.out (Nat.le_refl _)) X1.out.1 (by rw [treesB_len, E1.out.2]))
      clear b1 b2 b3 b4 b5 b6 b7
      go_wp2_with fail
      refine (lroot_ok a B _ lb v (L ++ M) N wr (show Env B a wr from HE.out.step (show Gr w wr from (by repeat (first | exact Gr.refl _ | (refine Gr.step ?_ (by assumption)) | (refine Gr.alloc ?_ _) | (refine Gr.drew ?_))))) HLG.out hz0 HLM.out).mono ?_
      rw [HRM.out, HRT.out.1, HRT.out.2]
      rintro ev w8 ⟨rfl, b8⟩
      go_upto_region 16 with (refine wpList_store_row_any rfl 29 _ _ rfl w8.heap.size vr rfl rfl 29 _ (heap_at _ _ _ rfl) Ivr.out (by rw [Zvr.out]; rfl) Ovr.out ?_; intro w9 hbN hgN hsN; have b9 : Below w8.heap.size w8 w9 := ((Below.refl _ w8).alloc (Nat.le_refl _) _).trans (hbN.to_below (by simp) (fun k hk q => by omega)); have Rw9 := Lib.hid hgN; clear hbN hgN hsN)
      go_wp2_with fail
      refine (lpath_ok a B _ lb v (L ++ M) x N w9 (show Env B a w9 from HE.out.step (show Gr w w9 from (by repeat (first | exact Gr.refl _ | (refine Gr.step ?_ (by assumption)) | (refine Gr.alloc ?_ _) | (refine Gr.drew ?_))))) (HLG.out.below (show Gr wr w9 from (by repeat (first | exact Gr.refl _ | (refine Gr.step ?_ (by assumption)) | (refine Gr.alloc ?_ _) | (refine Gr.drew ?_))))) hx0 k1 HLM.out).mono ?_
      rw [E1.out.1, treesB_more L M l1 N I1.out (by rw [HNL.out]; exact Int.le_refl _)]
      rintro ev w10 ⟨h32_1, vb1, rfl, own1, b10⟩
      rw [treesB_len, E1.out.2] at own1
      obtain ⟨Ab1, cb1, rfl, hcb1⟩ := own_shape own1
      have Z1 := Lib.hid (own_hin own1 h32_1 (by rw [treesB_len, E1.out.2]))
      clear h32_1 own1
      go_wp2_with fail
      refine (lproof_bad a B _ lb v (L ++ M) x N w10 (show Env B a w10 from HE.out.step (show Gr w w10 from (by repeat (first | exact Gr.refl _ | (refine Gr.step ?_ (by assumption)) | (refine Gr.alloc ?_ _) | (refine Gr.drew ?_))))) (HLG.out.below (show Gr wr w10 from (by repeat (first | exact Gr.refl _ | (refine Gr.step ?_ (by assumption)) | (refine Gr.alloc ?_ _) | (refine Gr.drew ?_))))) hx0 hx9 hz0 hz9 (.inr k2)).mono ?_
      rintro ev w11 ⟨rfl, b11⟩
      go_wp2_with fail
      refine (lbatch_bad a B _ lb v (L ++ M) x y N w11 (show Env B a w11 from HE.out.step (show Gr w w11 from (by repeat (first | exact Gr.refl _ | (refine Gr.step ?_ (by assumption)) | (refine Gr.alloc ?_ _) | (refine Gr.drew ?_))))) (HLG.out.below (show Gr wr w11 from (by repeat (first | exact Gr.refl _ | (refine Gr.step ?_ (by assumption)) | (refine Gr.alloc ?_ _) | (refine Gr.drew ?_))))) hx0 hx9 hy0 hy9 hz0 hz9 (.inr k3)).mono ?_
      rintro ev w12 ⟨rfl, b12⟩
      try unfold errV
      have K1 : Hid (w12.heap[w8.heap.size]? = some (.cells vr 29 (0, 0))) := Lib.hid (((show Below w9.heap.size w9 w12 from (show Gr w9 w12 from (by repeat (first | exact Gr.refl _ | (refine Gr.step ?_ (by assumption)) | (refine Gr.alloc ?_ _) | (refine Gr.drew ?_))))).block _ (Array.getElem?_eq_some_iff.1 Rw9.out).1).trans Rw9.out)
      have K2 : Hid (w12.heap[w3.heap.size]? = some (.cells vr 29 (0, 0))) := Lib.hid (((show Below wr.heap.size wr w12 from (show Gr wr w12 from (by repeat (first | exact Gr.refl _ | (refine Gr.step ?_ (by assumption)) | (refine Gr.alloc ?_ _) | (refine Gr.drew ?_))))).block _ (Array.getElem?_eq_some_iff.1 KR.out).1).trans KR.out)
      go_wp2_with (first | (refine wpList_load_row rfl 29 _ rfl w8.heap.size rfl 29 vr (0, 0) _ K1.out Tryd.underlying29 rfl Ivr.out ?_) | (refine wpList_load_row rfl 29 _ rfl w3.heap.size rfl 29 vr (0, 0) _ K2.out Tryd.underlying29 rfl Ivr.out ?_))
      refine (same_hashes (treesB L l1) (treesB L l1) A1 Ab1 m1 m1 ca1 cb1 w12 (by omega) (Y1.out.below (show Gr wr w12 from (by repeat (first | exact Gr.refl _ | (refine Gr.step ?_ (by assumption)) | (refine Gr.alloc ?_ _) | (refine Gr.drew ?_))))) (Z1.out.below (show Gr w10 w12 from (by repeat (first | exact Gr.refl _ | (refine Gr.step ?_ (by assumption)) | (refine Gr.alloc ?_ _) | (refine Gr.drew ?_)))))).mono ?_
      rintro ev w13 ⟨rfl, b13⟩
      rw [decide_eq_true rfl]
      go_wp2_with fail
      refine (same_hashes [] [] none none 0 0 0 0 w13 (by omega) (hin_none w13) (hin_none w13)).mono ?_
      rintro ev w14 ⟨rfl, b14⟩
      rw [decide_eq_true rfl]
      go_wp2_with fail
      refine (same_hashes [] [] none none 0 0 0 0 w14 (by omega) (hin_none w14) (hin_none w14)).mono ?_
      rintro ev w15 ⟨rfl, b15⟩
      rw [decide_eq_true rfl]
      go_wp2_with fail
      refine wp_region_held_drew (S := Gr w15) (by kernel_rfl) ((Gr.refl _).drew) (fun hHeld => ?_)
      refine wpAnyH_take (i := 0) (v := ?tv76) rfl (by kernel_rfl) (by kernel_rfl) (by kernel_rfl) (fun _ _ _ h => h) (Or.inl ⟨by rfl, ?ty76⟩) (by assumption) ?tr76
      case ty76 => (intro w hSw; (try dsimp only at hSw); go_simp; (try with_reducible rfl))
      try simp only [Act.put, List.getElem_toArray, List.getElem_cons_zero, List.setIfInBounds_toArray, List.set_cons_zero, List.set_cons_succ]
      refine wpAnyH_take (i := 1) (v := ?tv77) rfl (by kernel_rfl) (by kernel_rfl) (by kernel_rfl) (fun _ _ _ h => h) (Or.inl ⟨by rfl, ?ty77⟩) (by assumption) ?tr77
      case ty77 => (intro w hSw; (try dsimp only at hSw); go_simp; (try with_reducible rfl))
      try simp only [Act.put, List.getElem_toArray, List.getElem_cons_zero, List.getElem_cons_succ, List.setIfInBounds_toArray, List.set_cons_zero, List.set_cons_succ]
      refine wpAnyH_take (i := 2) (v := ?tv78) rfl (by kernel_rfl) (by kernel_rfl) (by kernel_rfl) (fun _ _ _ h => h) (Or.inl ⟨by rfl, ?ty78⟩) (by assumption) ?tr78
      case ty78 => (intro w hSw; (try dsimp only at hSw); go_simp; (try with_reducible rfl))
      try simp only [Act.put, List.getElem_toArray, List.getElem_cons_zero, List.getElem_cons_succ, List.setIfInBounds_toArray, List.set_cons_zero, List.set_cons_succ]
      refine wpAnyH_take (i := 3) (v := ?tv79) rfl (by kernel_rfl) (by kernel_rfl) (by kernel_rfl) (fun _ _ _ h => h) (Or.inl ⟨by rfl, ?ty79⟩) (by assumption) ?tr79
      case ty79 => (intro w hSw; (try dsimp only at hSw); go_simp; (try with_reducible rfl))
      try simp only [Act.put, List.getElem_toArray, List.getElem_cons_zero, List.getElem_cons_succ, List.setIfInBounds_toArray, List.set_cons_zero, List.set_cons_succ]
      refine wpAnyH_take (i := 4) (v := ?tv80) rfl (by kernel_rfl) (by kernel_rfl) (by kernel_rfl) (fun _ _ _ h => h) (Or.inl ⟨by rfl, ?ty80⟩) (by assumption) ?tr80
      case ty80 => (intro w hSw; (try dsimp only at hSw); go_simp; (try with_reducible rfl))
      try simp only [Act.put, List.getElem_toArray, List.getElem_cons_zero, List.getElem_cons_succ, List.setIfInBounds_toArray, List.set_cons_zero, List.set_cons_succ]
      refine wpAnyH_take (i := 5) (v := ?tv81) rfl (by kernel_rfl) (by kernel_rfl) (by kernel_rfl) (fun _ _ _ h => h) (Or.inl ⟨by rfl, ?ty81⟩) (by assumption) ?tr81
      case ty81 => (intro w hSw; (try dsimp only at hSw); go_simp; (try with_reducible rfl))
      try simp only [Act.put, List.getElem_toArray, List.getElem_cons_zero, List.getElem_cons_succ, List.setIfInBounds_toArray, List.set_cons_zero, List.set_cons_succ]
      refine wpAnyH_take (i := 6) (v := ?tv82) rfl (by kernel_rfl) (by kernel_rfl) (by kernel_rfl) (fun _ _ _ h => h) (Or.inl ⟨by rfl, ?ty82⟩) (by assumption) ?tr82
      case ty82 => (intro w hSw; (try dsimp only at hSw); go_simp; (try with_reducible rfl))
      try simp only [Act.put, List.getElem_toArray, List.getElem_cons_zero, List.getElem_cons_succ, List.setIfInBounds_toArray, List.set_cons_zero, List.set_cons_succ]
      refine wpAnyH_take (i := 7) (v := ?tv83) rfl (by kernel_rfl) (by kernel_rfl) (by kernel_rfl) (fun _ _ _ h => h) (Or.inl ⟨by rfl, ?ty83⟩) (by assumption) ?tr83
      case ty83 => (intro w hSw; (try dsimp only at hSw); go_simp; (try with_reducible rfl))
      try simp only [Act.put, List.getElem_toArray, List.getElem_cons_zero, List.getElem_cons_succ, List.setIfInBounds_toArray, List.set_cons_zero, List.set_cons_succ]
      refine wpAnyH_take (i := 8) (v := ?tv84) rfl (by kernel_rfl) (by kernel_rfl) (by kernel_rfl) (fun _ _ _ h => h) (Or.inl ⟨by rfl, ?ty84⟩) (by assumption) ?tr84
      case ty84 => (intro w hSw; (try dsimp only at hSw); go_simp; (try with_reducible rfl))
      try simp only [Act.put, List.getElem_toArray, List.getElem_cons_zero, List.getElem_cons_succ, List.setIfInBounds_toArray, List.set_cons_zero, List.set_cons_succ]
      refine wpAnyH_take (i := 9) (v := ?tv85) rfl (by kernel_rfl) (by kernel_rfl) (by kernel_rfl) (fun _ _ _ h => h) (Or.inl ⟨by rfl, ?ty85⟩) (by assumption) ?tr85
      case ty85 => (intro w hSw; (try dsimp only at hSw); go_simp; (try with_reducible rfl))
      try simp only [Act.put, List.getElem_toArray, List.getElem_cons_zero, List.getElem_cons_succ, List.setIfInBounds_toArray, List.set_cons_zero, List.set_cons_succ]
      refine wpAnyH_take (i := 10) (v := ?tv86) rfl (by kernel_rfl) (by kernel_rfl) (by kernel_rfl) (fun _ _ _ h => h) (Or.inl ⟨by rfl, ?ty86⟩) (by assumption) ?tr86
      case ty86 => (intro w hSw; (try dsimp only at hSw); go_simp; (try with_reducible rfl))
      try simp only [Act.put, List.getElem_toArray, List.getElem_cons_zero, List.getElem_cons_succ, List.setIfInBounds_toArray, List.set_cons_zero, List.set_cons_succ]
      refine wpAnyH_take (i := 11) (v := ?tv87) rfl (by kernel_rfl) (by kernel_rfl) (by kernel_rfl) (fun _ _ _ h => h) (Or.inl ⟨by rfl, ?ty87⟩) (by assumption) ?tr87
      case ty87 => (intro w hSw; (try dsimp only at hSw); go_simp; (try with_reducible rfl))
      try simp only [Act.put, List.getElem_toArray, List.getElem_cons_zero, List.getElem_cons_succ, List.setIfInBounds_toArray, List.set_cons_zero, List.set_cons_succ]
      refine wpAnyH_take (i := 12) (v := ?tv88) rfl (by kernel_rfl) (by kernel_rfl) (by kernel_rfl) (fun _ _ _ h => h) (Or.inl ⟨by rfl, ?ty88⟩) (by assumption) ?tr88
      case ty88 => (intro w hSw; (try dsimp only at hSw); go_simp; (try with_reducible rfl))
      try simp only [Act.put, List.getElem_toArray, List.getElem_cons_zero, List.getElem_cons_succ, List.setIfInBounds_toArray, List.set_cons_zero, List.set_cons_succ]
      refine wpAnyH_take (i := 13) (v := ?tv89) rfl (by kernel_rfl) (by kernel_rfl) (by kernel_rfl) (fun _ _ _ h => h) (Or.inl ⟨by rfl, ?ty89⟩) (by assumption) ?tr89
      case ty89 => (intro w hSw; (try dsimp only at hSw); go_simp; (try with_reducible rfl))
      try simp only [Act.put, List.getElem_toArray, List.getElem_cons_zero, List.getElem_cons_succ, List.setIfInBounds_toArray, List.set_cons_zero, List.set_cons_succ]
      refine wpAnyH_take (i := 14) (v := ?tv90) rfl (by kernel_rfl) (by kernel_rfl) (by kernel_rfl) (fun _ _ _ h => h) (Or.inl ⟨by rfl, ?ty90⟩) (by assumption) ?tr90
      case ty90 => (intro w hSw; (try dsimp only at hSw); go_simp; (try with_reducible rfl))
      try simp only [Act.put, List.getElem_toArray, List.getElem_cons_zero, List.getElem_cons_succ, List.setIfInBounds_toArray, List.set_cons_zero, List.set_cons_succ]
      refine wpAnyH_take (i := 15) (v := ?tv91) rfl (by kernel_rfl) (by kernel_rfl) (by kernel_rfl) (fun _ _ _ h => h) (Or.inl ⟨by rfl, ?ty91⟩) (by assumption) ?tr91
      case ty91 => (intro w hSw; (try dsimp only at hSw); go_simp; (try with_reducible rfl))
      try simp only [Act.put, List.getElem_toArray, List.getElem_cons_zero, List.getElem_cons_succ, List.setIfInBounds_toArray, List.set_cons_zero, List.set_cons_succ]
      refine wpAnyH_take (i := 16) (v := ?tv92) rfl (by kernel_rfl) (by kernel_rfl) (by kernel_rfl) (fun _ _ _ h => h) (Or.inl ⟨by rfl, ?ty92⟩) (by assumption) ?tr92
      case ty92 => (intro w hSw; (try dsimp only at hSw); go_simp; (try with_reducible rfl))
      try simp only [Act.put, List.getElem_toArray, List.getElem_cons_zero, List.getElem_cons_succ, List.setIfInBounds_toArray, List.set_cons_zero, List.set_cons_succ]
      refine wpAnyH_take (i := 17) (v := ?tv93) rfl (by kernel_rfl) (by kernel_rfl) (by kernel_rfl) (fun _ _ _ h => h) (Or.inl ⟨by rfl, ?ty93⟩) (by assumption) ?tr93
      case ty93 => (intro w hSw; (try dsimp only at hSw); go_simp; (try with_reducible rfl))
      try simp only [Act.put, List.getElem_toArray, List.getElem_cons_zero, List.getElem_cons_succ, List.setIfInBounds_toArray, List.set_cons_zero, List.set_cons_succ]
      refine wpAnyH_take (i := 18) (v := ?tv94) rfl (by kernel_rfl) (by kernel_rfl) (by kernel_rfl) (fun _ _ _ h => h) (Or.inl ⟨by rfl, ?ty94⟩) (by assumption) ?tr94
      case ty94 => (intro w hSw; (try dsimp only at hSw); go_simp; (try with_reducible rfl))
      try simp only [Act.put, List.getElem_toArray, List.getElem_cons_zero, List.getElem_cons_succ, List.setIfInBounds_toArray, List.set_cons_zero, List.set_cons_succ]
      refine wpAnyH_take (i := 19) (v := ?tv95) rfl (by kernel_rfl) (by kernel_rfl) (by kernel_rfl) (fun _ _ _ h => h) (Or.inl ⟨by rfl, ?ty95⟩) (by assumption) ?tr95
      case ty95 => (intro w hSw; (try dsimp only at hSw); go_simp; (try with_reducible rfl))
      try simp only [Act.put, List.getElem_toArray, List.getElem_cons_zero, List.getElem_cons_succ, List.setIfInBounds_toArray, List.set_cons_zero, List.set_cons_succ]
      refine wpAnyH_take (i := 20) (v := ?tv96) rfl (by kernel_rfl) (by kernel_rfl) (by kernel_rfl) (fun _ _ _ h => h) (Or.inl ⟨by rfl, ?ty96⟩) (by assumption) ?tr96
      case ty96 => (intro w hSw; (try dsimp only at hSw); go_simp; (try with_reducible rfl))
      try simp only [Act.put, List.getElem_toArray, List.getElem_cons_zero, List.getElem_cons_succ, List.setIfInBounds_toArray, List.set_cons_zero, List.set_cons_succ]
      refine wpAnyH_take (i := 21) (v := ?tv97) rfl (by kernel_rfl) (by kernel_rfl) (by kernel_rfl) (fun _ _ _ h => h) (Or.inl ⟨by rfl, ?ty97⟩) (by assumption) ?tr97
      case ty97 => (intro w hSw; (try dsimp only at hSw); go_simp; (try with_reducible rfl))
      try simp only [Act.put, List.getElem_toArray, List.getElem_cons_zero, List.getElem_cons_succ, List.setIfInBounds_toArray, List.set_cons_zero, List.set_cons_succ]
      refine wpAnyH_take (i := 22) (v := ?tv98) rfl (by kernel_rfl) (by kernel_rfl) (by kernel_rfl) (fun _ _ _ h => h) (Or.inl ⟨by rfl, ?ty98⟩) (by assumption) ?tr98
      case ty98 => (intro w hSw; (try dsimp only at hSw); go_simp; (try with_reducible rfl))
      try simp only [Act.put, List.getElem_toArray, List.getElem_cons_zero, List.getElem_cons_succ, List.setIfInBounds_toArray, List.set_cons_zero, List.set_cons_succ]
      refine wpAnyH_ready (rs := [23]) (by kernel_rfl) (by simp) ?_
      refine AllReadyH.cons (i := 23) rfl (fun K2 hK2 => ?_) AllReadyH.nil
      go_simp
      go_at_call 27
      refine (HLV.out w15.drew (show Env B a w15.drew from HE.out.step (show Gr w w15.drew from (by repeat (first | exact Gr.refl _ | (refine Gr.step ?_ (by assumption)) | (refine Gr.alloc ?_ _) | (refine Gr.drew ?_)))))).mono ?_
      rintro ev w104 ⟨rfl, b104⟩
      try go_wp2_with fail
      refine hK2.out _ _ (show Gr w15 _ from (by repeat (first | exact Gr.refl _ | (refine Gr.step ?_ (by assumption)) | (refine Gr.alloc ?_ _) | (refine Gr.drew ?_)))) (fun hHeld2 => ?_)
      clear hK2 K2
      try simp only [Act.put, List.getElem_toArray, List.getElem_cons_zero, List.getElem_cons_succ, List.setIfInBounds_toArray, List.set_cons_zero, List.set_cons_succ]
      refine wpAnyH_take (i := 24) (v := ?tv99) rfl (by kernel_rfl) (by kernel_rfl) (by kernel_rfl) (fun _ _ _ h => h) (Or.inl ⟨by rfl, ?ty99⟩) (by assumption) ?tr99
      case ty99 => (intro w hSw; (try dsimp only at hSw); go_simp; (try with_reducible rfl))
      try simp only [Act.put, List.getElem_toArray, List.getElem_cons_zero, List.getElem_cons_succ, List.setIfInBounds_toArray, List.set_cons_zero, List.set_cons_succ]
      refine wpAnyH_take (i := 25) (v := ?tv100) rfl (by kernel_rfl) (by kernel_rfl) (by kernel_rfl) (fun _ _ _ h => h) (Or.inl ⟨by rfl, ?ty100⟩) (by assumption) ?tr100
      case ty100 => (intro w hSw; (try dsimp only at hSw); go_simp; (try with_reducible rfl))
      try simp only [Act.put, List.getElem_toArray, List.getElem_cons_zero, List.getElem_cons_succ, List.setIfInBounds_toArray, List.set_cons_zero, List.set_cons_succ]
      refine wpAnyH_done (by kernel_rfl) ?_ _
      go_wp2
      go_ret
      exact ⟨rfl, show Gr w _ from (by repeat (first | exact Gr.refl _ | (refine Gr.step ?_ (by assumption)) | (refine Gr.alloc ?_ _) | (refine Gr.drew ?_)))⟩
end Go.Proofs.YtmfngcnmacjbfaaDoor
