/- The law BatchLogs. Condition: the package-level variables read as listed. -/
import Derived.Test.YtmfngcnmacjbfaaDoorBatchAlive
import Derived.Test.YtmfngcnmacjbfaaDoorBeyond
import Derived.Test.YtmfngcnmacjbfaaDoorTextsArg
import Derived.Test.YtmfngcnmacjbfaaDoorNaiveGrown
import Derived.Test.YtmfngcnmacjbfaaDoorVerifyIncl
namespace Go.Proofs.YtmfngcnmacjbfaaDoor
open Go.ChangeShapes Go.WideShapes Go.ChangeAt Go.RowKit
set_option linter.unusedVariables false
theorem eq_selfB (p : List UInt8) (hp : p.length = 32) (vp : Array Value) (h : hv p = .agg vp) (w : World) : (Op.equalIn 10000 29 (.agg vp) (.agg vp)).run Tryd.prog w = .ok true w := by
  rw [eq_hash p p hp hp vp vp h h w]; simp
theorem beyond1 (x0 : Nat) (w : World) (h0 : x0 ≤ 9000000000000000000) :
    Calls Tryd.prog 23 #[.slice (some ⟨w.heap.size, 0, none⟩) 1 1] (w.alloc (.cells #[.int .i64 (x0 : Nat)] 3)) fun ev w' => ev = .returned (.bool (decide (1048576 < x0))) ∧ w' = w.alloc (.cells #[.int .i64 (x0 : Nat)] 3) := by
  have := beyond_any [x0] w.heap.size 1 1 (w.alloc (.cells #[.int .i64 (x0 : Nat)] 3)) rfl (by simp; omega) (fun j x hj => by
    refine cell_new _ _ _ _ ?_
    match j, hj with
    | 0, hj => simp at hj; subst hj; rfl
    | j + 1, hj => simp at hj) (by omega)
  have hs : [x0].sum = x0 := by simp
  rw [hs] at this
  exact this.mono (fun _ _ h => ⟨h.1, h.2.symm⟩)
set_option maxRecDepth 100000 in
set_option maxHeartbeats 4000000 in
theorem logged_any (a : Nat → Addr) (B : Nat) (D : List ByteArray) (A : Option Addr) (n c : Nat) (w : World) (hE : Env B a w) (h : SIn w A n c D) (hn : n ≤ 1048576) :
    Calls Tryd.prog 53 #[.slice A n c] w fun ev w' => ∃ b v, ev = .returned (.pointer (some ⟨b, 0, none⟩)) ∧ LogAt w.heap.size b v (keptL (D.take 300)) w' ∧ Below w.heap.size w w' := by
  have HE := Lib.hid hE
  have HD := Lib.hid h
  have HNEW := Lib.hid (fun w0 h => new_log w.heap.size w0 h)
  have HAP := Lib.hid (fun b v L s w0 h h1 h2 h3 => append_ok w.heap.size b v L s w0 h h1 h2 h3)
  clear hE h
  go_enter Tryd.func53, Tryd.ntmps53
  go_wp2_with fail
  refine (HNEW.out _ (Nat.le_refl _)).mono ?_
  rintro e w1 ⟨rfl, hL1, hB1⟩
  have hL1' := Lib.hid hL1
  have hB1' := Lib.hid hB1
  obtain ⟨b, hb⟩ : ∃ b, w.heap.size = b := ⟨_, rfl⟩
  have HBB := Lib.hid hb
  clear hL1 hB1
  rw [hb] at hL1' ⊢
  clear hb
  go_wp2
  go_loopw [4] (fun i wr => ∃ (k : Nat) (v : Value), k ≤ n ∧ k ≤ 300 ∧ i = .int .i64 k ∧ Hid (LogAt w.heap.size b v (keptL (D.take k)) wr) ∧ Hid (Below w.heap.size w wr)) (fun i _ => n - (intOf i).toNat)
  case atStart => exact ⟨0, .slice none 0 0, Nat.zero_le _, by omega, rfl, Lib.hid (by have := hL1'.out; unfold keptL; rw [HBB.out]; simpa using this), hB1'⟩
  case round =>
    obtain ⟨k, v, hk, hk3, rfl, HL, HB⟩ := hrel
    by_cases hlt : k < n ∧ k < 300
    · obtain ⟨hlt, hl3⟩ := hlt
      obtain ⟨s, hs⟩ : ∃ s, D[k]? = some s := ⟨_, List.getElem?_eq_getElem (by have := HD.out.1; omega)⟩
      obtain ⟨g, o, rfl, hc0, hg, hsz⟩ := HD.out.at hs
      have hc := cell_below HB.out hc0 hg
      have i0 : (0 : Int) ≤ k := by omega
      have i1 : (k : Int) < n := by omega
      have i3 : (k : Int) < 300 := by omega
      have hsl : (s.size : Int) ≤ 140737488355328 := by omega
      by_cases hs6 : s.size ≤ 65536
      · have hs7 : (s.size : Int) ≤ 65536 := by omega
        have HS := Lib.hid (keptL_hit hs hs6)
        have HA := Lib.hid (HAP.out b v (keptL (D.take k)) s wr HL.out hs6 (by have := keptL_len D k; omega) HB.out.size)
        clear hs hs6 hc0 hg
        go_wp2_with fail
        refine HA.out.mono ?_
        rintro e w2 ⟨rfl, v2, hL2, hC2⟩
        have HL2 := Lib.hid hL2
        have HB2 := Lib.hid (HB.out.trans (hC2.below_of HL.out.2.1 HB.out.size HL.out.own_ge))
        clear hL2 hC2
        go_wp2
        go_roundw
        case rel => exact ⟨k + 1, v2, by omega, by omega, by go_num, Lib.hid (by rw [HS.out]; exact HL2.out), HB2⟩
        case measure => simp [intOf]; omega
      · have hs7 : decide ((s.size : Int) ≤ 65536) = false := by simp; omega
        have HS := Lib.hid (keptL_miss hs hs6)
        clear hs hs6 hc0 hg
        go_wp2
        go_roundw
        case rel => exact ⟨k + 1, v, by omega, by omega, by go_num, Lib.hid (by rw [HS.out]; exact HL.out), HB⟩
        case measure => simp [intOf]; omega
    · have HT : Hid (D.take k = D.take 300) := Lib.hid (by
        have := HD.out.1
        by_cases q : k = 300
        · rw [q]
        · rw [List.take_of_length_le (by omega), List.take_of_length_le (by omega)])
      rw [HT.out] at HL
      have HP : Hid (∃ b v, LogAt w.heap.size b v (keptL (D.take 300)) wr) := Lib.hid ⟨b, v, HL.out⟩
      by_cases q : k < n
      · have q1 : (k : Int) < n := by omega
        have q2 : decide ((k : Int) < 300) = false := by simp; omega
        clear hlt q HT
        go_wp2
        refine bodyPost_ret (v := .pointer (some ⟨b, 0, none⟩)) (by simp [results, Tryd.results53, go_sem]) rfl ⟨b, v, rfl, HL.out, HB.out⟩
      · obtain rfl : k = n := by omega
        clear hlt q HT
        go_wp2
        refine bodyPost_ret (v := .pointer (some ⟨b, 0, none⟩)) (by simp [results, Tryd.results53, go_sem]) rfl ⟨b, v, rfl, HL.out, HB.out⟩

set_option maxRecDepth 100000 in
set_option maxHeartbeats 8000000 in
theorem logs_great (a : Nat → Addr) (B : Nat) (D : List ByteArray) (A : Option Addr) (n c : Nat) (x y : Int) (w : World) (hE : Env B a w) (h : SIn w A n c D) (hx0 : 0 ≤ x) (hx9 : x < 18446744073709551616) (hy0 : 0 ≤ y) (hy9 : y < 18446744073709551616)
    (hg : 1048576 < bulk D) :
    Calls Tryd.prog 11 #[.slice A n c, .int .u64 x, .int .u64 y] w fun ev w' => ev = .returned (.bool true) ∧ Below w.heap.size w w' := by
  have HE := Lib.hid hE
  have HD := Lib.hid h
  have hn9 : n ≤ 140737488355328 := h.2.2.2.2.1
  have HG := Lib.hid hg
  clear hE h hg
  go_enter Tryd.func11, Tryd.ntmps11
  go_wp2_with fail
  refine (alive19 a B w HE.out).mono ?_
  rintro ev w1 ⟨rfl, b1⟩
  go_wp2_with fail
  refine (texts_any D A n c w1 (HD.out.below b1)).mono ?_
  rintro ev w0 ⟨t, rfl, ht9, ht, rfl⟩
  have HT0 := Lib.hid ht
  clear ht
  go_wp2_with fail
  refine (beyond1 t w1 ht9).mono ?_
  rintro ev w2 ⟨rfl, hw2⟩
  have b2 : Below w1.heap.size w1 w2 := by rw [hw2]; exact (Below.refl _ _).alloc (Nat.le_refl _) _
  clear hw2
  have hgd : decide (1048576 < t) = true := by have := HT0.out; have := HG.out; simp; omega
  rw [hgd]
  go_wp2_with fail
  refine (alive19 a B w2 (show Env B a w2 from HE.out.step (show Gr w w2 from (by repeat (first | exact Gr.refl _ | (refine Gr.step ?_ (by assumption)) | (refine Gr.alloc ?_ _) | (refine Gr.drew ?_)))))).mono ?_
  rintro ev w3 ⟨rfl, b3⟩
  go_wp2
  go_ret
  exact ⟨rfl, show Gr w _ from (by repeat (first | exact Gr.refl _ | (refine Gr.step ?_ (by assumption)) | (refine Gr.alloc ?_ _) | (refine Gr.drew ?_)))⟩

set_option maxRecDepth 100000 in
set_option maxHeartbeats 8000000 in
theorem logs_off (a : Nat → Addr) (B : Nat) (D : List ByteArray) (A : Option Addr) (n c : Nat) (x y : Int) (w : World) (hE : Env B a w) (h : SIn w A n c D) (hx0 : 0 ≤ x) (hx9 : x < 18446744073709551616) (hy0 : 0 ≤ y) (hy9 : y < 18446744073709551616)
    (hg : bulk D ≤ 1048576) (hk : y ≤ x ∨ ((keptL (D.take 300)).length : Int) < y) :
    Calls Tryd.prog 11 #[.slice A n c, .int .u64 x, .int .u64 y] w fun ev w' => ev = .returned (.bool true) ∧ Below w.heap.size w w' := by
  have HK := Lib.hid hk
  clear hk
  have HE := Lib.hid hE
  have HD := Lib.hid h
  have hn9 : n ≤ 140737488355328 := h.2.2.2.2.1
  have HG := Lib.hid hg
  clear hE h hg
  go_enter Tryd.func11, Tryd.ntmps11
  go_wp2_with fail
  refine (alive19 a B w HE.out).mono ?_
  rintro ev w1 ⟨rfl, b1⟩
  go_wp2_with fail
  refine (texts_any D A n c w1 (HD.out.below b1)).mono ?_
  rintro ev w0 ⟨t, rfl, ht9, ht, rfl⟩
  have HT0 := Lib.hid ht
  clear ht
  go_wp2_with fail
  refine (beyond1 t w1 ht9).mono ?_
  rintro ev w2 ⟨rfl, hw2⟩
  have b2 : Below w1.heap.size w1 w2 := by rw [hw2]; exact (Below.refl _ _).alloc (Nat.le_refl _) _
  clear hw2
  have hgd : decide (1048576 < t) = false := by have := HT0.out; have := HG.out; simp; omega
  have hn10 : n ≤ 1048576 := by have := HG.out; have := bulk_len D; have := HD.out.1; omega
  rw [hgd]
  go_wp2_with fail
  refine (logged_any a B D A n c w2 (show Env B a w2 from HE.out.step (show Gr w w2 from (by repeat (first | exact Gr.refl _ | (refine Gr.step ?_ (by assumption)) | (refine Gr.alloc ?_ _) | (refine Gr.drew ?_))))) (HD.out.below (show Gr w w2 from (by repeat (first | exact Gr.refl _ | (refine Gr.step ?_ (by assumption)) | (refine Gr.alloc ?_ _) | (refine Gr.drew ?_))))) hn10).mono ?_
  rintro ev w3 ⟨lb, lv, rfl, hL3, b3⟩
  have HN := Lib.hid (show (keptL (D.take 300)).length ≤ 1048576 from hL3.1.1)
  have HL3 := Lib.hid hL3
  clear hL3
  obtain ⟨L, hL⟩ : ∃ L, keptL (D.take 300) = L := ⟨_, rfl⟩
  rw [hL] at HN HL3 HK
  obtain ⟨N, hN⟩ : ∃ N, L.length = N := ⟨_, rfl⟩
  rw [hN] at HN HK
  have HNL := Lib.hid hN
  have hN0 : N ≤ 1048576 := HN.out
  have HSZ := Lib.hid (lsize_any _ lb lv L w3 HL3.out)
  rw [hN] at HSZ
  clear hL hN
  have hk := HK.out
  by_cases q : y ≤ x
  · have q1 : decide (y ≤ x) = true := by simpa using q
    clear hk q
    go_wp2_with (go_at_call 34; refine HSZ.out.mono ?_; rintro ev w0 ⟨rfl, rfl⟩)
    go_ret
    exact ⟨rfl, show Gr w _ from (by repeat (first | exact Gr.refl _ | (refine Gr.step ?_ (by assumption)) | (refine Gr.alloc ?_ _) | (refine Gr.drew ?_)))⟩
  · have q1 : decide (y ≤ x) = false := by simpa using q
    have q2 : decide ((N : Int) < y) = true := by simp; omega
    clear hk q
    go_wp2_with (go_at_call 34; refine HSZ.out.mono ?_; rintro ev w0 ⟨rfl, rfl⟩)
    go_ret
    exact ⟨rfl, show Gr w _ from (by repeat (first | exact Gr.refl _ | (refine Gr.step ?_ (by assumption)) | (refine Gr.alloc ?_ _) | (refine Gr.drew ?_)))⟩

set_option maxRecDepth 100000 in
set_option maxHeartbeats 8000000 in
theorem logs_ok (a : Nat → Addr) (B : Nat) (D : List ByteArray) (A : Option Addr) (n c : Nat) (x y : Int) (w : World) (hE : Env B a w) (h : SIn w A n c D) (hx0 : 0 ≤ x) (hx9 : x < 18446744073709551616) (hy0 : 0 ≤ y) (hy9 : y < 18446744073709551616)
    (hg : bulk D ≤ 1048576) (hk : x < y ∧ y ≤ ((keptL (D.take 300)).length : Int)) :
    Calls Tryd.prog 11 #[.slice A n c, .int .u64 x, .int .u64 y] w fun ev w' => ev = .returned (.bool true) ∧ Below w.heap.size w w' := by
  have HK := Lib.hid hk
  clear hk
  have HE := Lib.hid hE
  have HD := Lib.hid h
  have hn9 : n ≤ 140737488355328 := h.2.2.2.2.1
  have HG := Lib.hid hg
  clear hE h hg
  go_enter Tryd.func11, Tryd.ntmps11
  go_wp2_with fail
  refine (alive19 a B w HE.out).mono ?_
  rintro ev w1 ⟨rfl, b1⟩
  go_wp2_with fail
  refine (texts_any D A n c w1 (HD.out.below b1)).mono ?_
  rintro ev w0 ⟨t, rfl, ht9, ht, rfl⟩
  have HT0 := Lib.hid ht
  clear ht
  go_wp2_with fail
  refine (beyond1 t w1 ht9).mono ?_
  rintro ev w2 ⟨rfl, hw2⟩
  have b2 : Below w1.heap.size w1 w2 := by rw [hw2]; exact (Below.refl _ _).alloc (Nat.le_refl _) _
  clear hw2
  have hgd : decide (1048576 < t) = false := by have := HT0.out; have := HG.out; simp; omega
  have hn10 : n ≤ 1048576 := by have := HG.out; have := bulk_len D; have := HD.out.1; omega
  rw [hgd]
  go_wp2_with fail
  refine (logged_any a B D A n c w2 (show Env B a w2 from HE.out.step (show Gr w w2 from (by repeat (first | exact Gr.refl _ | (refine Gr.step ?_ (by assumption)) | (refine Gr.alloc ?_ _) | (refine Gr.drew ?_))))) (HD.out.below (show Gr w w2 from (by repeat (first | exact Gr.refl _ | (refine Gr.step ?_ (by assumption)) | (refine Gr.alloc ?_ _) | (refine Gr.drew ?_))))) hn10).mono ?_
  rintro ev w3 ⟨lb, lv, rfl, hL3, b3⟩
  have HN := Lib.hid (show (keptL (D.take 300)).length ≤ 1048576 from hL3.1.1)
  have HL3 := Lib.hid hL3
  clear hL3
  obtain ⟨L, hL⟩ : ∃ L, keptL (D.take 300) = L := ⟨_, rfl⟩
  rw [hL] at HN HL3 HK
  obtain ⟨N, hN⟩ : ∃ N, L.length = N := ⟨_, rfl⟩
  rw [hN] at HN HK
  have HNL := Lib.hid hN
  have hN0 : N ≤ 1048576 := HN.out
  have HSZ := Lib.hid (lsize_any _ lb lv L w3 HL3.out)
  rw [hN] at HSZ
  clear hL hN
  have hk := HK.out
  have q1 : decide (y ≤ x) = false := by simp; omega
  have q2 : decide ((N : Int) < y) = false := by simp; omega
  go_wp2_with (go_at_call 34; refine HSZ.out.mono ?_; rintro ev w0 ⟨rfl, rfl⟩)
  have hxy := hk.1
  have hyN := hk.2
  obtain ⟨b, hb⟩ : ∃ b : Nat, x = b := ⟨x.toNat, by omega⟩
  obtain ⟨q, hq⟩ : ∃ q : Nat, y = (b : Int) + q := ⟨(y - x).toNat, by omega⟩
  have hq0 : 0 < q := by omega
  have hbq : b + q ≤ N := by omega
  obtain ⟨i0, hi, hz0, hz1, hz2⟩ := info_parts info_hash
  -- the proof's hashes, the root, the leaves' hashes
  obtain ⟨P, hP⟩ : ∃ P, treesB L (batchL 64 x y 0 N) = P := ⟨_, rfl⟩
  have hP32 : H32 P := by rw [← hP]; exact treesB_h32 _ _
  obtain ⟨mP, hmP⟩ : ∃ m, P.length = m := ⟨_, rfl⟩
  have hmP9 : mP ≤ 1000000 := by rw [← hmP, ← hP, treesB_len]; have := batchL_len 64 x y 0 N (by omega) (by rw [pow2_64]; omega); omega
  obtain ⟨Hs, hHs⟩ : ∃ h, leavesB L b q = h := ⟨_, rfl⟩
  have hHl : Hs.length = q := by rw [← hHs]; exact leavesB_len L b q (by rw [HNL.out]; exact hbq)
  have hH32 : H32 Hs := by rw [← hHs]; exact leavesB_h32 L b q
  obtain ⟨rt, hrt⟩ : ∃ r, treeB L 0 N = r := ⟨_, rfl⟩
  have lrt : rt.length = 32 := by rw [← hrt]; exact treeB_len L 0 N
  obtain ⟨vr, evr, Hvr, Zvr, Ivr, Ovr⟩ := row_of rt lrt
  have hqr : ∀ w, (Op.equalIn 10000 29 (.agg vr) (.agg vr)).run Tryd.prog w = .ok true w := eq_selfB rt lrt vr evr
  have hKK : batchK x N q mP = 0 := by rw [← hmP, ← hP, hb, hq]; exact logs_K L b q N HNL.out hN0 hq0 hbq
  have hRB : rootB x N Hs P = rt := by rw [← hP, ← hHs, ← hrt, hb, hq]; exact logs_root L b q N HNL.out hN0 hq0 hbq
  have hPB : ∀ i : Int, x ≤ i → i < y → pathB x N Hs P i = treesB L (pathL 64 i 0 N) := fun i h1 h2 => by
    rw [← hP, ← hHs, hb, hq]; exact logs_path L b q N i HNL.out hN0 hbq (by omega) (by omega)
  have HBAT : Hid (∀ w, Env B a w → LogAt w2.heap.size lb lv L w → Calls Tryd.prog 40 #[.pointer (some ⟨lb, 0, none⟩), .int .u64 x, .int .u64 y, .int .u64 N] w (HashesPost w P)) := Lib.hid (fun w h1 h2 => by
    have := lbatch_ok a B _ lb lv L x y N w h1 h2 hx0 hxy hyN (by rw [HNL.out]; exact Int.le_refl _)
    rw [hP] at this; exact this)
  have HROOT : Hid (∀ w, Env B a w → LogAt w2.heap.size lb lv L w → Calls Tryd.prog 37 #[.pointer (some ⟨lb, 0, none⟩), .int .u64 N] w fun ev w' => ev = .returned (.tuple #[.agg vr, .nilIface]) ∧ Below w.heap.size w w') := Lib.hid (fun w h1 h2 => by
    have := lroot_ok a B _ lb lv L N w h1 h2 (by omega) (by rw [HNL.out]; exact Int.le_refl _)
    rw [hrt, evr] at this; exact this)
  have HLEAF : Hid (∀ i : Int, x ≤ i → i < y → ∃ s : ByteArray, leafG L i = leafH s ∧ s.size ≤ 65536 ∧ ∀ w, LogAt w2.heap.size lb lv L w → Calls Tryd.prog 29 #[.pointer (some ⟨lb, 0, none⟩), .int .u64 i] w fun ev w' => ev = .returned (.tuple #[.string s, .nilIface]) ∧ w = w') := Lib.hid (fun i h1 h2 => by
    obtain ⟨k, rfl⟩ : ∃ k : Nat, i = k := ⟨i.toNat, by omega⟩
    obtain ⟨s, hs⟩ : ∃ s, L[k]? = some s := ⟨_, List.getElem?_eq_getElem (by have := HNL.out; omega)⟩
    refine ⟨s, by unfold leafG; rw [List.getD_eq_getElem?_getD, Int.toNat_natCast, hs]; rfl, HL3.out.1.2 s (List.mem_of_getElem? hs), fun w h => lleaf_ok _ lb lv L w h k s hs⟩)
  have HHK : Hid (∀ k, k < q → Hs[k]? = some (leafG L (x + k))) := Lib.hid (fun k hk => by
    rw [← hHs, leavesB_at L b q k (by rw [HNL.out]; exact hbq) hk, hb]; congr 2)
  have HBR : Hid (∀ (Aq : Option Addr) cq (Ap : Option Addr) cp w, Env B a w → HIn w Aq q cq Hs → HIn w Ap mP cp P → Calls Tryd.prog 15 #[.int .u64 x, .int .u64 N, .slice Aq q cq, .slice Ap mP cp] w fun ev w' => ev = .returned (.tuple #[.agg vr, .nilIface]) ∧ Below w.heap.size w w') := Lib.hid (fun Aq cq Ap cp w h1 h2 h3 => by
    have := root_ok a B x N Aq Ap cq cp Hs P w h1 (by rw [hHl]; exact h2) (by rw [hmP]; exact h3) hx0 hx9 (by omega) (by omega) (by rw [hHl, hmP]; exact hKK)
    rw [hRB, hHl, hmP, evr] at this
    exact this.mono (fun _ _ z => ⟨z.1, z.2.2⟩))
  have HBV : Hid (∀ (Aq : Option Addr) cq (Ap : Option Addr) cp w, Env B a w → HIn w Aq q cq Hs → HIn w Ap mP cp P → Calls Tryd.prog 16 #[.int .u64 x, .int .u64 N, .slice Aq q cq, .slice Ap mP cp, .agg vr] w fun ev w' => ev = .returned .nilIface ∧ Below w.heap.size w w') := Lib.hid (fun Aq cq Ap cp w h1 h2 h3 => by
    have := verify_ok a B x N Aq Ap cq cp Hs P rt lrt w h1 (by rw [hHl]; exact h2) (by rw [hmP]; exact h3) hx0 hx9 (by omega) (by omega) (by rw [hHl, hmP]; exact hKK)
    rw [hRB, if_pos rfl, hHl, hmP, evr] at this
    exact this)
  have HBP : Hid (∀ (i : Int) (Aq : Option Addr) cq (Ap : Option Addr) cp w, x ≤ i → i < y → Env B a w → HIn w Aq q cq Hs → HIn w Ap mP cp P → Calls Tryd.prog 44 #[.int .u64 x, .int .u64 N, .slice Aq q cq, .slice Ap mP cp, .int .u64 i] w (HashesPost w (treesB L (pathL 64 i 0 N)))) := Lib.hid (fun i Aq cq Ap cp w i1 i2 h1 h2 h3 => by
    have := bpath_ok a B x N i Aq Ap cq cp Hs P w h1 (by rw [hHl]; exact h2) (by rw [hmP]; exact h3) hx0 hx9 (by omega) (by omega) (by rw [hHl, hmP]; exact hKK) i1 (by rw [hHl]; omega)
    rw [hPB i i1 i2, hHl, hmP] at this
    exact this)
  have HLP : Hid (∀ (i : Int) w, x ≤ i → i < y → Env B a w → LogAt w2.heap.size lb lv L w → Calls Tryd.prog 38 #[.pointer (some ⟨lb, 0, none⟩), .int .u64 i, .int .u64 N] w (HashesPost w (treesB L (pathL 64 i 0 N)))) := Lib.hid (fun i w i1 i2 h1 h2 =>
    lpath_ok a B _ lb lv L i N w h1 h2 (by omega) (by omega) (by rw [HNL.out]; exact Int.le_refl _))
  have HIC : Hid (∀ (i : Int) (ps : List (List UInt8)) (vx : Array Value) (Ap : Option Addr) m cp w, x ≤ i → i < y → treesB L (pathL 64 i 0 N) = ps → hv (leafG L i) = .agg vx → m ≤ 1000 → Env B a w → HIn w Ap m cp ps → Calls Tryd.prog 42 #[.int .u64 i, .int .u64 N, .agg vx, .slice Ap m cp, .agg vr] w fun ev w' => ev = .returned .nilIface ∧ Below w.heap.size w w') := Lib.hid (fun i ps vx Ap m cp w i1 i2 e1 e2 hm h1 h2 => by
    obtain ⟨k, rfl⟩ : ∃ k : Nat, i = k := ⟨i.toNat, by omega⟩
    subst e1
    have := vincl_ok a B k N (leafG L k) _ rt Ap m cp w h1 (leafH_length _) lrt h2 (by omega) (by omega) (by rw [← hrt]; exact logs_says L N k HNL.out hN0 (by omega)) (by omega)
    rw [e2, evr] at this
    exact this)
  have HLEN : Hid (∀ i : Int, (treesB L (pathL 64 i 0 N)).length ≤ 64) := Lib.hid (fun i => by rw [treesB_len]; exact pathL_len 64 i 0 N)
  have HHL := Lib.hid (And.intro hHl (And.intro hH32 hmP))
  have hyx : y = x + q := by omega
  have HYX := Lib.hid hyx
  have hq9 : q ≤ 1048576 := by omega
  clear hP hP32 hmP hHs hHl hH32 hrt lrt evr hKK hRB hPB hb hq hyx hk hbq
  go_wp2_with fail
  refine (HBAT.out w3 (show Env B a w3 from HE.out.step (show Gr w w3 from (by repeat (first | exact Gr.refl _ | (refine Gr.step ?_ (by assumption)) | (refine Gr.alloc ?_ _) | (refine Gr.drew ?_))))) HL3.out).mono ?_
  rintro ev w4 ⟨h32P, vP, rfl, ownP, b4⟩
  rw [HHL.out.2.2] at ownP
  obtain ⟨Ap, cp, rfl, hcp⟩ := own_shape ownP
  have XP := Lib.hid (own_hin ownP h32P HHL.out.2.2)
  clear h32P ownP
  go_wp2_with fail
  refine (HROOT.out w4 (show Env B a w4 from HE.out.step (show Gr w w4 from (by repeat (first | exact Gr.refl _ | (refine Gr.step ?_ (by assumption)) | (refine Gr.alloc ?_ _) | (refine Gr.drew ?_))))) (HL3.out.below (show Gr w3 w4 from (by repeat (first | exact Gr.refl _ | (refine Gr.step ?_ (by assumption)) | (refine Gr.alloc ?_ _) | (refine Gr.drew ?_)))))).mono ?_
  rintro ev w5 ⟨rfl, b5⟩
  go_upto_region 15 with (refine wpList_store_row_any rfl 29 _ _ rfl w5.heap.size vr rfl rfl 29 _ (heap_at _ _ _ rfl) Ivr.out (by rw [Zvr.out]; rfl) Ovr.out ?_; intro w6 hbN hgN hsN; have b6 : Below w5.heap.size w5 w6 := ((Below.refl _ w5).alloc (Nat.le_refl _) _).trans (hbN.to_below (by simp) (fun k hk q => by omega)); have Rw6 := Lib.hid hgN; clear hbN hgN hsN)
  have hs26 : w2.heap.size ≤ w6.heap.size := (show Gr w2 w6 from (by repeat (first | exact Gr.refl _ | (refine Gr.step ?_ (by assumption)) | (refine Gr.alloc ?_ _) | (refine Gr.drew ?_)))).size
  go_loopw [13, 14] (fun o i wr => ∃ (k : Nat) (Aq : Option Addr) (cq : Nat), k ≤ q ∧ i = .int .u64 (x + k) ∧ o = .slice Aq k cq ∧ k ≤ cq ∧ Hid (wr.ownsRow w6.heap.size 29 32 (.slice Aq k cq) k (hashCells (Hs.take k))) ∧ Hid (Gr w6 wr)) (fun _ i _ => (y - intOf i).toNat)
  case atStart => exact ⟨0, none, 0, Nat.zero_le _, by simp, rfl, Nat.le_refl _, Lib.hid (by simpa [hashCells] using World.ownsRow_nil _ _ _ _), Lib.hid (Gr.refl _)⟩
  case round =>
    obtain ⟨k, Aq, cq, hk, rfl, rfl, hkc, HO, HGr⟩ := hrel
    by_cases hlt : k < q
    · have hkx : x + (k : Int) < y := by have := HYX.out; omega
      obtain ⟨s, hls, hss, hcl⟩ := HLEAF.out (x + k) (by omega) hkx
      have HCL := Lib.hid hcl
      obtain ⟨vx, evx, EX, ZX, IX, OX⟩ := row_of (leafH s) (leafH_length s)
      have HLF : Hid (∀ w, Env B a w → Calls Tryd.prog 30 #[.string s] w fun ev w' => ev = .returned (.agg vx) ∧ Below w.heap.size w w') := Lib.hid (fun w h => by
        have := hleaf_any s w (by omega) h.tab
        rw [evx] at this; exact this)
      have HTK : Hid (Hs.take (k + 1) = Hs.take k ++ [leafH s]) := Lib.hid (by
        rw [List.take_add_one, HHK.out k hlt, hls]; rfl)
      have HX := Lib.hid (And.intro (leafH_length s) EX.out)
      obtain ⟨outk, houtk⟩ : ∃ o, Hs.take k = o := ⟨_, rfl⟩
      rw [houtk] at HO HTK
      have gw6 : Below w6.heap.size w6 wr := HGr.out
      have hk0 : (0 : Int) ≤ k := by omega
      clear hls hss hcl evx houtk
      go_wp2_with fail
      refine (HCL.out wr (HL3.out.below (show Gr w3 wr from (by repeat (first | exact Gr.refl _ | (refine Gr.step ?_ (by assumption)) | (refine Gr.alloc ?_ _) | (refine Gr.drew ?_)))))).mono ?_
      rintro ev w0 ⟨rfl, rfl⟩
      go_wp2_with fail
      refine (HLF.out wr (show Env B a wr from HE.out.step (show Gr w wr from (by repeat (first | exact Gr.refl _ | (refine Gr.step ?_ (by assumption)) | (refine Gr.alloc ?_ _) | (refine Gr.drew ?_)))))).mono ?_
      rintro ev w7 ⟨rfl, b7⟩
      have HO2 : Hid ((w7.alloc (.cells vx 29)).ownsRow w6.heap.size 29 32 (.slice Aq k cq) k (hashCells outk)) := Lib.hid (own_below (own_below HO.out b7 (Nat.le_refl _)) ((Below.refl _ _).alloc (Nat.le_refl _) _) (Nat.le_refl _))
      have HG7 := Lib.hid (show Below w6.heap.size w6 w7 from gw6.trans (b7.mono gw6.size))
      have hs7 : w6.heap.size ≤ w7.heap.size := HG7.out.size
      go_wp2_with (first
        | (refine wpList_buildSlice_row rfl 23 29 _ vx _ 32 rfl rfl Tryd.underlying23 Tryd.sizeOf29 Tryd.zeroValue29 rfl ZX.out (by omega) (by omega) ?_)
        | (refine wpList_append_list rfl _ _ 23 rfl w6.heap.size w7.heap.size 29 i0 _ 32 32 Tryd.underlying23 hi hz0 hz1 hz2 rfl (by omega) (.slice Aq k cq) _ k 1 (hashCells outk) (hashCells [leafH s]) rfl rfl (HO2.out) (own_one w7 w7.heap.size vx (leafH s) HX.out.1 HX.out.2 (Nat.le_refl _)) (hashCells_cell _) (by unfold maxLen; omega) (by omega) (by simp; omega) ?_; intro v' w9 hown hgrow hblk; obtain ⟨A9, c9, rfl, hc9⟩ := own_shape hown; have HN9 := Lib.hid (And.intro hown (And.intro hgrow hblk)); clear hown hgrow hblk))
      go_roundw
      case rel => exact ⟨k + 1, A9, c9, by omega, by go_num, rfl, hc9, Lib.hid (own_congr HN9.out.1 rfl (by rw [HTK.out, hashCells_append])), Lib.hid ((((Below.refl _ w7).alloc (Nat.le_refl _) _).mono HG7.out.size |> HG7.out.trans).grown HN9.out.2.1 (by simp; omega) (fun q hq => (HO2.out.lt q hq).1))⟩
      case measure => simp [intOf]; omega
    · obtain rfl : k = q := by omega
      have HXQ : Hid (HIn wr Aq k cq Hs) := Lib.hid (by
        have := HO.out
        rw [List.take_of_length_le (by rw [HHL.out.1]; exact Nat.le_refl _)] at this
        exact own_hin this HHL.out.2.1 HHL.out.1)
      have hxk : decide (x + (k : Int) < y) = false := by have := HYX.out; simp; omega
      have gw6 : Below w6.heap.size w6 wr := HGr.out
      clear HO hlt hk
      go_wp2_with fail
      refine (HBR.out Aq cq Ap cp wr (show Env B a wr from HE.out.step (show Gr w wr from (by repeat (first | exact Gr.refl _ | (refine Gr.step ?_ (by assumption)) | (refine Gr.alloc ?_ _) | (refine Gr.drew ?_))))) HXQ.out (XP.out.below (show Gr w4 wr from (by repeat (first | exact Gr.refl _ | (refine Gr.step ?_ (by assumption)) | (refine Gr.alloc ?_ _) | (refine Gr.drew ?_)))))).mono ?_
      rintro ev w8 ⟨rfl, b8⟩
      go_upto_region 22 with (refine wpList_store_row_any rfl 29 _ _ rfl w8.heap.size vr rfl rfl 29 _ (heap_at _ _ _ rfl) Ivr.out (by rw [Zvr.out]; rfl) Ovr.out ?_; intro w9 hbN hgN hsN; have b9 : Below w8.heap.size w8 w9 := ((Below.refl _ w8).alloc (Nat.le_refl _) _).trans (hbN.to_below (by simp) (fun k hk q => by omega)); have Rw9 := Lib.hid hgN; clear hbN hgN hsN)
      have K11 : Hid (∀ w', Gr wr w' → w'.heap[w5.heap.size]? = some (.cells vr 29 (0, 0))) := Lib.hid (fun w' h => by
        have hl := (Array.getElem?_eq_some_iff.1 Rw6.out).1
        exact ((gw6.trans (Below.mono h gw6.size)).block _ hl).trans Rw6.out)
      have K9 := Lib.hid (K11.out w9 (show Gr wr w9 from (by repeat (first | exact Gr.refl _ | (refine Gr.step ?_ (by assumption)) | (refine Gr.alloc ?_ _) | (refine Gr.drew ?_)))))
      go_wp2_with (first | (refine wpList_load_row_g rfl 29 _ rfl w8.heap.size rfl 29 vr (0, 0) _ Rw9.out Tryd.underlying29 rfl Ivr.out ?_) | (refine wpList_load_row_g rfl 29 _ rfl w5.heap.size rfl 29 vr (0, 0) _ K9.out Tryd.underlying29 rfl Ivr.out ?_))
      refine (HBV.out Aq cq Ap cp w9 (show Env B a w9 from HE.out.step (show Gr w w9 from (by repeat (first | exact Gr.refl _ | (refine Gr.step ?_ (by assumption)) | (refine Gr.alloc ?_ _) | (refine Gr.drew ?_))))) (HXQ.out.below (show Gr wr w9 from (by repeat (first | exact Gr.refl _ | (refine Gr.step ?_ (by assumption)) | (refine Gr.alloc ?_ _) | (refine Gr.drew ?_))))) (XP.out.below (show Gr w4 w9 from (by repeat (first | exact Gr.refl _ | (refine Gr.step ?_ (by assumption)) | (refine Gr.alloc ?_ _) | (refine Gr.drew ?_)))))).mono ?_
      rintro ev w10 ⟨rfl, b10⟩
      go_upto_region 25 with fail
      have Z10 := Lib.hid (HXQ.out.below (show Gr wr w10 from (by repeat (first | exact Gr.refl _ | (refine Gr.step ?_ (by assumption)) | (refine Gr.alloc ?_ _) | (refine Gr.drew ?_)))))
      have P10 := Lib.hid (XP.out.below (show Gr w4 w10 from (by repeat (first | exact Gr.refl _ | (refine Gr.step ?_ (by assumption)) | (refine Gr.alloc ?_ _) | (refine Gr.drew ?_)))))
      have L10 := Lib.hid (HL3.out.below (show Gr w3 w10 from (by repeat (first | exact Gr.refl _ | (refine Gr.step ?_ (by assumption)) | (refine Gr.alloc ?_ _) | (refine Gr.drew ?_)))))
      have K10 : Hid (∀ w', Gr w10 w' → w'.heap[w5.heap.size]? = some (.cells vr 29 (0, 0))) := Lib.hid (fun w' h => K11.out w' (show Gr wr w' from Gr.step (show Gr wr w10 from (by repeat (first | exact Gr.refl _ | (refine Gr.step ?_ (by assumption)) | (refine Gr.alloc ?_ _) | (refine Gr.drew ?_)))) h))
      have H10 : Unit → Gr w w10 := fun _ => (by repeat (first | exact Gr.refl _ | (refine Gr.step ?_ (by assumption)) | (refine Gr.alloc ?_ _) | (refine Gr.drew ?_)))
      go_loopw [19] (fun i wz => ∃ j : Nat, j ≤ k ∧ i = .int .u64 (x + j) ∧ Hid (Gr w10 wz)) (fun i _ => (y - intOf i).toNat)
      case atStart => exact ⟨0, Nat.zero_le _, by simp, Lib.hid (Gr.refl _)⟩
      case round =>
      obtain ⟨j, hj, rfl, HG2⟩ := hrel
      have gz : Below w10.heap.size w10 wr := HG2.out
      by_cases hlt : j < k
      · have hjx : x + (j : Int) < y := by have := HYX.out; omega
        have hj0 : (0 : Int) ≤ j := by omega
        have hjk : (j : Int) < k := by omega
        have hwj : IntKind.u64.wrap (j : Int) = j := IntWalk.u64_in _ (by omega)
        have hsub : x + (j : Int) - x = j := by omega
        obtain ⟨ps, hps⟩ : ∃ l, treesB L (pathL 64 (x + j) 0 N) = l := ⟨_, rfl⟩
        have PS := Lib.hid hps
        obtain ⟨m, hm⟩ : ∃ m, ps.length = m := ⟨_, rfl⟩
        have hm64 : m ≤ 64 := by rw [← hm, ← hps]; exact HLEN.out _
        have HM := Lib.hid hm
        obtain ⟨g2, o2, rfl, gl2, r2, l2⟩ := Z10.out.row (HHK.out j hlt)
        obtain ⟨px, hpx⟩ : ∃ p, bytesV (leafG L (x + j)) = p := ⟨_, rfl⟩
        have EVX : Hid (hv (leafG L (x + j)) = .agg px.toArray) := Lib.hid (by rw [hv, hpx])
        have IP := Lib.hid (show (Tryd.prog.info? 29).map (·.size) = some px.length by rw [← hpx, bytesV_length, l2]; kernel_rfl)
        rw [hpx] at r2
        have R2 := Lib.hid (And.intro gl2 r2)
        have HA := Lib.hid (HBP.out (x + j) _ cq Ap cp wr (by omega) hjx (HE.out.step ((H10 ()).step gz)) (Z10.out.below gz) (P10.out.below gz))
        have HB := Lib.hid (fun w' h1 h2 => HLP.out (x + j) w' (by omega) hjx h1 h2)
        rw [hps] at HA HB
        clear hps hm gl2 r2 l2 hpx
        go_wp2_with fail
        refine HA.out.mono ?_
        rintro ev w11 ⟨h32a, va, rfl, owna, b11⟩
        rw [HM.out] at owna
        obtain ⟨Aa, ca, rfl, hca⟩ := own_shape owna
        have YA := Lib.hid (own_hin owna h32a HM.out)
        clear h32a owna
        go_wp2_with fail
        refine (HB.out w11 (HE.out.step ((H10 ()).step (gz.trans (b11.mono gz.size)))) (L10.out.below (gz.trans (b11.mono gz.size)))).mono ?_
        rintro ev w12 ⟨h32b, vb, rfl, ownb, b12⟩
        rw [HM.out] at ownb
        obtain ⟨Ab, cb, rfl, hcb⟩ := own_shape ownb
        have YB := Lib.hid (own_hin ownb h32b HM.out)
        clear h32b ownb
        have G12 : Unit → Below w10.heap.size w10 w12 := fun _ => (gz.trans (b11.mono gz.size)).trans (b12.mono (gz.trans (b11.mono gz.size)).size)
        have K12 : Hid (∀ w', Gr w12 w' → w'.heap[w5.heap.size]? = some (.cells vr 29 (0, 0))) := Lib.hid (fun w' h => K10.out w' (show Gr w10 w' from Gr.step (show Gr w10 w12 from G12 ()) h))
        have KP : Hid (∀ w', Gr w12 w' → w'.rangeAt g2 (o2 + j * 32) px) := Lib.hid (fun w' h => rangeAt_below ((G12 ()).trans (Below.mono h (G12 ()).size)) R2.out.2 R2.out.1)
        go_upto_region 29 with fail
        refine wp_region_held_drew (S := Gr w12) (by kernel_rfl) ((Gr.refl _).drew) (fun hHeld => ?_)
        refine wpAnyH_take (i := 0) (v := ?tv1) rfl (by kernel_rfl) (by kernel_rfl) (by kernel_rfl) (fun _ _ _ h => h) (Or.inl ⟨by rfl, ?ty1⟩) (by assumption) ?tr1
        case ty1 => (intro w hSw; (try dsimp only at hSw); go_simp; (try with_reducible rfl))
        try simp only [Act.put, List.getElem_toArray, List.getElem_cons_zero, List.setIfInBounds_toArray, List.set_cons_zero, List.set_cons_succ]
        refine wpAnyH_take (i := 1) (v := ?tv2) rfl (by kernel_rfl) (by kernel_rfl) (by kernel_rfl) (fun _ _ _ h => h) (Or.inl ⟨by rfl, ?ty2⟩) (by assumption) ?tr2
        case ty2 => (intro w hSw; (try dsimp only at hSw); go_simp; (try with_reducible rfl))
        try simp only [Act.put, List.getElem_toArray, List.getElem_cons_zero, List.getElem_cons_succ, List.setIfInBounds_toArray, List.set_cons_zero, List.set_cons_succ]
        refine wpAnyH_take (i := 2) (v := ?tv3) rfl (by kernel_rfl) (by kernel_rfl) (by kernel_rfl) (fun _ _ _ h => h) (Or.inl ⟨by rfl, ?ty3⟩) (by assumption) ?tr3
        case ty3 => (intro w hSw; (try dsimp only at hSw); go_simp; (try with_reducible rfl))
        try simp only [Act.put, List.getElem_toArray, List.getElem_cons_zero, List.getElem_cons_succ, List.setIfInBounds_toArray, List.set_cons_zero, List.set_cons_succ]
        refine wpAnyH_take (i := 3) (v := ?tv4) rfl (by kernel_rfl) (by kernel_rfl) (by kernel_rfl) (fun _ _ _ h => h) (Or.inl ⟨by rfl, ?ty4⟩) (by assumption) ?tr4
        case ty4 => (intro w hSw; (try dsimp only at hSw); go_simp; (try with_reducible rfl))
        try simp only [Act.put, List.getElem_toArray, List.getElem_cons_zero, List.getElem_cons_succ, List.setIfInBounds_toArray, List.set_cons_zero, List.set_cons_succ]
        refine wpAnyH_take (i := 4) (v := ?tv5) rfl (by kernel_rfl) (by kernel_rfl) (by kernel_rfl) (fun _ _ _ h => h) (Or.inl ⟨by rfl, ?ty5⟩) (by assumption) ?tr5
        case ty5 => (intro w hSw; (try dsimp only at hSw); go_simp; (try with_reducible rfl))
        try simp only [Act.put, List.getElem_toArray, List.getElem_cons_zero, List.getElem_cons_succ, List.setIfInBounds_toArray, List.set_cons_zero, List.set_cons_succ]
        refine wpAnyH_take (i := 5) (v := ?tv6) rfl (by kernel_rfl) (by kernel_rfl) (by kernel_rfl) (fun _ _ _ h => h) (Or.inl ⟨by rfl, ?ty6⟩) (by assumption) ?tr6
        case ty6 => (intro w hSw; (try dsimp only at hSw); go_simp; (try with_reducible rfl))
        try simp only [Act.put, List.getElem_toArray, List.getElem_cons_zero, List.getElem_cons_succ, List.setIfInBounds_toArray, List.set_cons_zero, List.set_cons_succ]
        refine wpAnyH_take (i := 6) (v := ?tv7) rfl (by kernel_rfl) (by kernel_rfl) (by kernel_rfl) (fun _ _ _ h => h) (Or.inl ⟨by rfl, ?ty7⟩) (by assumption) ?tr7
        case ty7 => (intro w hSw; (try dsimp only at hSw); go_simp; (try with_reducible rfl))
        try simp only [Act.put, List.getElem_toArray, List.getElem_cons_zero, List.getElem_cons_succ, List.setIfInBounds_toArray, List.set_cons_zero, List.set_cons_succ]
        refine wpAnyH_take (i := 7) (v := ?tv8) rfl (by kernel_rfl) (by kernel_rfl) (by kernel_rfl) (fun _ _ _ h => h) (Or.inl ⟨by rfl, ?ty8⟩) (by assumption) ?tr8
        case ty8 => (intro w hSw; (try dsimp only at hSw); go_simp; (try with_reducible rfl))
        try simp only [Act.put, List.getElem_toArray, List.getElem_cons_zero, List.getElem_cons_succ, List.setIfInBounds_toArray, List.set_cons_zero, List.set_cons_succ]
        refine wpAnyH_take (i := 8) (v := ?tv9) rfl (by kernel_rfl) (by kernel_rfl) (by kernel_rfl) (fun _ _ _ h => h) (Or.inl ⟨by rfl, ?ty9⟩) (by assumption) ?tr9
        case ty9 => (intro w hSw; (try dsimp only at hSw); go_simp; (try with_reducible rfl))
        try simp only [Act.put, List.getElem_toArray, List.getElem_cons_zero, List.getElem_cons_succ, List.setIfInBounds_toArray, List.set_cons_zero, List.set_cons_succ]
        refine wpAnyH_ready (rs := [9]) (by kernel_rfl) (by simp) ?_
        refine AllReadyH.cons (i := 9) rfl (fun K2 hK2 => ?_) AllReadyH.nil
        go_simp
        go_at_call 52
        refine (same_hashes ps ps Aa Ab m m ca cb w12.drew (by omega) (YA.out.below (show Gr w11 w12.drew from (by repeat (first | exact Gr.refl _ | (refine Gr.step ?_ (by assumption)) | (refine Gr.alloc ?_ _) | (refine Gr.drew ?_))))) (YB.out.below (show Gr w12 w12.drew from (by repeat (first | exact Gr.refl _ | (refine Gr.step ?_ (by assumption)) | (refine Gr.alloc ?_ _) | (refine Gr.drew ?_)))))).mono ?_
        rintro ev w101 ⟨rfl, b101⟩
        try go_wp2_with fail
        refine hK2.out _ _ (show Gr w12 _ from (by repeat (first | exact Gr.refl _ | (refine Gr.step ?_ (by assumption)) | (refine Gr.alloc ?_ _) | (refine Gr.drew ?_)))) (fun hHeld2 => ?_)
        clear hK2 K2
        try simp only [Act.put, List.getElem_toArray, List.getElem_cons_zero, List.getElem_cons_succ, List.setIfInBounds_toArray, List.set_cons_zero, List.set_cons_succ]
        refine wpAnyH_take (i := 10) (v := ?tv10) rfl (by kernel_rfl) (by kernel_rfl) (by kernel_rfl) (fun _ _ _ h => h) (Or.inl ⟨by rfl, ?ty10⟩) (by assumption) ?tr10
        case ty10 => (intro w hSw; (try dsimp only at hSw); go_simp; (try with_reducible rfl))
        try simp only [Act.put, List.getElem_toArray, List.getElem_cons_zero, List.getElem_cons_succ, List.setIfInBounds_toArray, List.set_cons_zero, List.set_cons_succ]
        refine wpAnyH_take (i := 11) (v := ?tv11) rfl (by kernel_rfl) (by kernel_rfl) (by kernel_rfl) (fun _ _ _ h => h) (Or.inl ⟨by rfl, ?ty11⟩) (by assumption) ?tr11
        case ty11 => (intro w hSw; (try dsimp only at hSw); go_simp; (try with_reducible rfl))
        try simp only [Act.put, List.getElem_toArray, List.getElem_cons_zero, List.getElem_cons_succ, List.setIfInBounds_toArray, List.set_cons_zero, List.set_cons_succ]
        refine wpAnyH_take (i := 12) (v := ?tv12) rfl (by kernel_rfl) (by kernel_rfl) (by kernel_rfl) (fun _ _ _ h => h) (Or.inl ⟨by rfl, ?ty12⟩) (by assumption) ?tr12
        case ty12 => (intro w hSw; (try dsimp only at hSw); go_simp; (try with_reducible rfl))
        try simp only [Act.put, List.getElem_toArray, List.getElem_cons_zero, List.getElem_cons_succ, List.setIfInBounds_toArray, List.set_cons_zero, List.set_cons_succ]
        refine wpAnyH_take (i := 13) (v := ?tv13) rfl (by kernel_rfl) (by kernel_rfl) (by kernel_rfl) (fun _ _ _ h => h) (Or.inl ⟨by rfl, ?ty13⟩) (by assumption) ?tr13
        case ty13 => (intro w hSw; (try dsimp only at hSw); go_simp; (try with_reducible rfl))
        try simp only [Act.put, List.getElem_toArray, List.getElem_cons_zero, List.getElem_cons_succ, List.setIfInBounds_toArray, List.set_cons_zero, List.set_cons_succ]
        refine wpAnyH_take (i := 14) (v := ?tv14) rfl (by kernel_rfl) (by kernel_rfl) (by kernel_rfl) (fun _ _ _ h => h) (Or.inl ⟨by rfl, ?ty14⟩) (by assumption) ?tr14
        case ty14 => (intro w hSw; (try dsimp only at hSw); go_simp; (try with_reducible rfl))
        try simp only [Act.put, List.getElem_toArray, List.getElem_cons_zero, List.getElem_cons_succ, List.setIfInBounds_toArray, List.set_cons_zero, List.set_cons_succ]
        refine wpAnyH_take (i := 15) (v := ?tv15) rfl (by kernel_rfl) (by kernel_rfl) (by kernel_rfl) (fun _ _ _ h => h) (Or.inl ⟨by rfl, ?ty15⟩) (by assumption) ?tr15
        case ty15 => (intro w hSw; (try dsimp only at hSw); go_simp; (try with_reducible rfl))
        try simp only [Act.put, List.getElem_toArray, List.getElem_cons_zero, List.getElem_cons_succ, List.setIfInBounds_toArray, List.set_cons_zero, List.set_cons_succ]
        refine wpAnyH_take (i := 16) (v := ?tv16) rfl (by kernel_rfl) (by kernel_rfl) (by kernel_rfl) (fun _ _ _ h => h) (Or.inl ⟨by rfl, ?ty16⟩) (by assumption) ?tr16
        case ty16 => (intro w hSw; (try dsimp only at hSw); go_simp; (try with_reducible rfl))
        try simp only [Act.put, List.getElem_toArray, List.getElem_cons_zero, List.getElem_cons_succ, List.setIfInBounds_toArray, List.set_cons_zero, List.set_cons_succ]
        refine wpAnyH_take (i := 17) (v := ?tv17) rfl (by kernel_rfl) (by kernel_rfl) (by kernel_rfl) (fun _ _ _ h => h) (Or.inl ⟨by rfl, ?ty17⟩) (by assumption) ?tr17
        case ty17 => (intro w hSw; (try dsimp only at hSw); go_simp; (try with_reducible rfl))
        try simp only [Act.put, List.getElem_toArray, List.getElem_cons_zero, List.getElem_cons_succ, List.setIfInBounds_toArray, List.set_cons_zero, List.set_cons_succ]
        refine wpAnyH_take (i := 18) (v := ?tv18) rfl (by kernel_rfl) (by kernel_rfl) (by kernel_rfl) (fun _ _ _ h => h) (Or.inl ⟨by rfl, ?ty18⟩) (by assumption) ?tr18
        case ty18 => (intro w hSw; (try dsimp only at hSw); go_simp; (try with_reducible rfl))
        try simp only [Act.put, List.getElem_toArray, List.getElem_cons_zero, List.getElem_cons_succ, List.setIfInBounds_toArray, List.set_cons_zero, List.set_cons_succ]
        refine wpAnyH_take (i := 19) (v := ?tv19) rfl (by kernel_rfl) (by kernel_rfl) (by kernel_rfl) (fun _ _ _ h => h) (Or.inl ⟨by rfl, ?ty19⟩) (by assumption) ?tr19
        case ty19 => (intro w hSw; (try dsimp only at hSw); go_simp; (try with_reducible rfl))
        try simp only [Act.put, List.getElem_toArray, List.getElem_cons_zero, List.getElem_cons_succ, List.setIfInBounds_toArray, List.set_cons_zero, List.set_cons_succ]
        refine wpAnyH_take (i := 20) (v := _) rfl (by kernel_rfl) (by kernel_rfl) (by kernel_rfl) (fun _ _ _ h => h) (yieldsIf_load_mid (by rfl) 29 _ (by rfl) g2 (o2 + j * 32) (by first | rfl | simp) px _ (fun w h => KP.out w h) Tryd.underlying29 (by rfl) IP.out) (by assumption) ?_
        try simp only [Act.put, List.getElem_toArray, List.getElem_cons_zero, List.getElem_cons_succ, List.setIfInBounds_toArray, List.set_cons_zero, List.set_cons_succ]
        refine wpAnyH_take (i := 21) (v := ?tv21) rfl (by kernel_rfl) (by kernel_rfl) (by kernel_rfl) (fun _ _ _ h => h) (Or.inl ⟨by rfl, ?ty21⟩) (by assumption) ?tr21
        case ty21 => (intro w hSw; (try dsimp only at hSw); go_simp; (try with_reducible rfl))
        try simp only [Act.put, List.getElem_toArray, List.getElem_cons_zero, List.getElem_cons_succ, List.setIfInBounds_toArray, List.set_cons_zero, List.set_cons_succ]
        refine wpAnyH_take (i := 22) (v := _) rfl (by kernel_rfl) (by kernel_rfl) (by kernel_rfl) (fun _ _ _ h => h) (yieldsIf_load_row (by rfl) 29 _ (by rfl) _ (by rfl) 29 vr (0, 0) _ (fun w h => K12.out w h) Tryd.underlying29 rfl Ivr.out) (by assumption) ?_
        try simp only [Act.put, List.getElem_toArray, List.getElem_cons_zero, List.getElem_cons_succ, List.setIfInBounds_toArray, List.set_cons_zero, List.set_cons_succ]
        refine wpAnyH_ready (rs := [23]) (by kernel_rfl) (by simp) ?_
        refine AllReadyH.cons (i := 23) rfl (fun K2 hK2 => ?_) AllReadyH.nil
        go_simp
        go_at_call 42
        refine (HIC.out _ ps _ Aa m ca w101 (by omega) hjx PS.out EVX.out (by omega) (show Env B a w101 from HE.out.step (show Gr w w101 from (by repeat (first | exact Gr.refl _ | (refine Gr.step ?_ (by assumption)) | (refine Gr.alloc ?_ _) | (refine Gr.drew ?_))))) (YA.out.below (show Gr w11 w101 from (by repeat (first | exact Gr.refl _ | (refine Gr.step ?_ (by assumption)) | (refine Gr.alloc ?_ _) | (refine Gr.drew ?_)))))).mono ?_
        rintro ev w102 ⟨rfl, b102⟩
        try go_wp2_with fail
        refine hK2.out _ _ (show Gr w12 _ from (by repeat (first | exact Gr.refl _ | (refine Gr.step ?_ (by assumption)) | (refine Gr.alloc ?_ _) | (refine Gr.drew ?_)))) (fun hHeld2 => ?_)
        clear hK2 K2
        try simp only [Act.put, List.getElem_toArray, List.getElem_cons_zero, List.getElem_cons_succ, List.setIfInBounds_toArray, List.set_cons_zero, List.set_cons_succ]
        refine wpAnyH_take (i := 24) (v := ?tv23) rfl (by kernel_rfl) (by kernel_rfl) (by kernel_rfl) (fun _ _ _ h => h) (Or.inl ⟨by rfl, ?ty23⟩) (by assumption) ?tr23
        case ty23 => (intro w hSw; (try dsimp only at hSw); go_simp; (try with_reducible rfl))
        try simp only [Act.put, List.getElem_toArray, List.getElem_cons_zero, List.getElem_cons_succ, List.setIfInBounds_toArray, List.set_cons_zero, List.set_cons_succ]
        refine wpAnyH_take (i := 25) (v := ?tv24) rfl (by kernel_rfl) (by kernel_rfl) (by kernel_rfl) (fun _ _ _ h => h) (Or.inl ⟨by rfl, ?ty24⟩) (by assumption) ?tr24
        case ty24 => (intro w hSw; (try dsimp only at hSw); go_simp; (try with_reducible rfl))
        try simp only [Act.put, List.getElem_toArray, List.getElem_cons_zero, List.getElem_cons_succ, List.setIfInBounds_toArray, List.set_cons_zero, List.set_cons_succ]
        refine wpAnyH_done (by kernel_rfl) ?_ _
        go_wp2
        go_roundw
        case rel => exact ⟨j + 1, by omega, by go_num, Lib.hid (show Gr w10 _ from (by repeat (first | exact Gr.refl _ | (refine Gr.step ?_ (by assumption)) | (refine Gr.alloc ?_ _) | (refine Gr.drew ?_))))⟩
        case measure => simp [intOf]; omega
      · obtain rfl : j = k := by omega
        have hxk2 : decide (x + (j : Int) < y) = false := by have := HYX.out; simp; omega
        go_wp2
        go_ret
        exact ⟨rfl, show Gr w _ from (by repeat (first | exact Gr.refl _ | (refine Gr.step ?_ (by assumption)) | (refine Gr.alloc ?_ _) | (refine Gr.drew ?_)))⟩
end Go.Proofs.YtmfngcnmacjbfaaDoor
