/- The law NaiveShapes (b). Condition: the package-level variables read as listed. -/
import Derived.Test.YtmfngcnmacjbfaaDoorLaw08Aid
import Derived.Test.YtmfngcnmacjbfaaDoorNaiveStretch
import Derived.BigQuiet
import Derived.Deep.QuietTactic
namespace Go.Proofs.YtmfngcnmacjbfaaDoor
open Go.ChangeShapes Go.WideShapes Go.ChangeAt Go.RowKit
set_option linter.unusedVariables false
set_option maxRecDepth 100000 in
set_option maxHeartbeats 8000000 in
theorem shapes_nyn (a : Nat → Addr) (B : Nat) (D : List ByteArray) (A : Option Addr) (n c : Nat) (x y z : Int) (w : World) (hE : Env B a w) (h : SIn w A n c D) (hx0 : 0 ≤ x) (hx9 : x < 18446744073709551616) (hy0 : 0 ≤ y) (hy9 : y < 18446744073709551616) (hz0 : 0 ≤ z) (hz9 : z < 18446744073709551616)
    (hg : n + bulk D ≤ 1048576) (hk : z ≤ ((keptL D).length : Int)) (k1 : z ≤ x) (k2 : 0 < x ∧ x ≤ z) (k3 : z < y ∨ y ≤ x) :
    Calls Tryd.prog 8 #[.slice A n c, .int .u64 x, .int .u64 y, .int .u64 z] w fun ev w' => ev = .returned (.bool true) ∧ Below w.heap.size w w' := by
  have HK := Lib.hid hk
  clear hk
  have HE := Lib.hid hE
  have HD := Lib.hid h
  have hn9 : n ≤ 140737488355328 := h.2.2.2.2.1
  have HG := Lib.hid hg
  clear hE h hg
  go_enter Tryd.func8, Tryd.ntmps8
  go_wp2_with fail
  refine (texts_any D A n c w HD.out).mono ?_
  rintro ev w' ⟨t, rfl, ht9, ht, rfl⟩
  have HT0 := Lib.hid ht
  clear ht
  go_wp2_with fail
  refine (beyond2 n t w (by omega) ht9).mono ?_
  rintro ev w1 ⟨rfl, hw1⟩
  have b1 : Below w.heap.size w w1 := by rw [hw1]; exact (Below.refl _ _).alloc (Nat.le_refl _) _
  clear hw1
  have hgd : decide (1048576 < n + t) = false := by have := HT0.out; have := HG.out; simp; omega
  have hn10 : n ≤ 1048576 := by have := HG.out; omega
  rw [hgd]
  go_wp2_with fail
  refine (grown_any a B D A n c w1 (show Env B a w1 from HE.out.step (show Gr w w1 from (by repeat (first | exact Gr.refl _ | (refine Gr.step ?_ (by assumption)) | (refine Gr.alloc ?_ _) | (refine Gr.drew ?_))))) (HD.out.below (show Gr w w1 from (by repeat (first | exact Gr.refl _ | (refine Gr.step ?_ (by assumption)) | (refine Gr.alloc ?_ _) | (refine Gr.drew ?_))))) hn10).mono ?_
  rintro ev w2 ⟨lb, lv, rfl, hL2, b2⟩
  have HN := Lib.hid (show (keptL D).length ≤ 1048576 from hL2.1.1)
  have HL2 := Lib.hid hL2
  clear hL2
  obtain ⟨L, hL⟩ : ∃ L, keptL D = L := ⟨_, rfl⟩
  rw [hL] at HN HL2 HK
  rw [hL]
  obtain ⟨N, hN⟩ : ∃ N, L.length = N := ⟨_, rfl⟩
  rw [hN] at HN HK
  rw [hN]
  have HNL := Lib.hid hN
  have hN0 : N ≤ 1048576 := HN.out
  have hwn : IntKind.u64.wrap (N : Int) = N := IntWalk.u64_in _ (by omega)
  have HLV := Lib.hid (lives_any a B)
  clear hL hN
  have hk := HK.out
  have hd9 : decide ((N : Int) < z) = false := by simp; omega
  obtain ⟨l2, hl2⟩ : ∃ l, proofL 64 x 0 z = l := ⟨_, rfl⟩
  obtain ⟨m2, hm2⟩ : ∃ m, l2.length = m := ⟨_, rfl⟩
  have I2 := Lib.hid (show SpansIn l2 z from by rw [← hl2]; exact proof_spansIn x z k2.1 k2.2 (by omega))
  have N2 : m2 ≤ 1000 := by rw [← hm2, ← hl2]; exact (by have := proofL_len 64 x 0 z; omega)
  go_wp2_with fail
  refine (lpath_bad a B _ lb lv L x z w2 (show Env B a w2 from HE.out.step (show Gr w w2 from (by repeat (first | exact Gr.refl _ | (refine Gr.step ?_ (by assumption)) | (refine Gr.alloc ?_ _) | (refine Gr.drew ?_))))) (HL2.out.below (show Gr w2 w2 from (by repeat (first | exact Gr.refl _ | (refine Gr.step ?_ (by assumption)) | (refine Gr.alloc ?_ _) | (refine Gr.drew ?_))))) hx0 hx9 hz0 hz9 (.inr k1)).mono ?_
  rintro ev w3 ⟨rfl, b3⟩
  go_wp2_with fail
  refine (lproof_ok a B _ lb lv L x z w3 (show Env B a w3 from HE.out.step (show Gr w w3 from (by repeat (first | exact Gr.refl _ | (refine Gr.step ?_ (by assumption)) | (refine Gr.alloc ?_ _) | (refine Gr.drew ?_))))) (HL2.out.below (show Gr w2 w3 from (by repeat (first | exact Gr.refl _ | (refine Gr.step ?_ (by assumption)) | (refine Gr.alloc ?_ _) | (refine Gr.drew ?_))))) k2.1 k2.2 (by rw [HNL.out]; omega)).mono ?_
  rw [hl2]
  rintro ev w4 ⟨h32, va2, rfl, own2, b4⟩
  rw [treesB_len, hm2] at own2
  obtain ⟨A2, ca2, rfl, hca2⟩ := own_shape own2
  have X2 := Lib.hid (own_hin own2 h32 (by rw [treesB_len, hm2]))
  clear h32 own2
  go_wp2_with fail
  refine (lbatch_bad a B _ lb lv L x y z w4 (show Env B a w4 from HE.out.step (show Gr w w4 from (by repeat (first | exact Gr.refl _ | (refine Gr.step ?_ (by assumption)) | (refine Gr.alloc ?_ _) | (refine Gr.drew ?_))))) (HL2.out.below (show Gr w2 w4 from (by repeat (first | exact Gr.refl _ | (refine Gr.step ?_ (by assumption)) | (refine Gr.alloc ?_ _) | (refine Gr.drew ?_))))) hx0 hx9 hy0 hy9 hz0 hz9 (.inr k3)).mono ?_
  rintro ev w5 ⟨rfl, b5⟩
  go_wp2_with fail
  refine (path_fail a B x z w5 (show Env B a w5 from HE.out.step (show Gr w w5 from (by repeat (first | exact Gr.refl _ | (refine Gr.step ?_ (by assumption)) | (refine Gr.alloc ?_ _) | (refine Gr.drew ?_))))).laid hx0 hx9 hz0 hz9 (.inr k1)).mono ?_
  rintro ev w6 ⟨rfl, b6⟩
  go_wp2_with fail
  refine (proof_ok x z w6 k2.1 k2.2 (by omega)).mono ?_
  rw [hl2, hm2]
  rintro ev w7 ⟨vs2, rfl, own2, b7⟩
  have Y2 := Lib.hid (rd_own own2)
  obtain ⟨S2, cs2, rfl, hcs2⟩ := own_shape own2
  clear own2
  go_wp2_with fail
  refine (batch_fail a B x y z w7 (show Env B a w7 from HE.out.step (show Gr w w7 from (by repeat (first | exact Gr.refl _ | (refine Gr.step ?_ (by assumption)) | (refine Gr.alloc ?_ _) | (refine Gr.drew ?_))))).laid hx0 hx9 hy0 hy9 hz0 hz9 (.inr k3)).mono ?_
  rintro ev w8 ⟨rfl, b8⟩
  try unfold errV
  go_upto_region 14 with fail
  go_quiet (fail)
  have bq : Below w8.heap.size w8 (w8.drewN nq) := below_drewN (Below.refl _ _)
  obtain ⟨w9, hw9⟩ : ∃ w9, w8.drewN nq = w9 := ⟨_, rfl⟩
  rw [hw9] at bq ⊢
  clear hw9
  go_wp2_with fail
  change Calls _ _ #[errV a 5, _] _ _
  refine (is_sent a B 5 w9 (show Env B a w9 from HE.out.step (show Gr w w9 from (by repeat (first | exact Gr.refl _ | (refine Gr.step ?_ (by assumption)) | (refine Gr.alloc ?_ _) | (refine Gr.drew ?_))))).laid (by omega) (by omega)).mono ?_
  rintro ev w10 ⟨rfl, b10⟩
  go_wp2_with fail
  change Calls _ _ #[errV a 5, _] _ _
  refine (is_sent a B 5 w10 (show Env B a w10 from HE.out.step (show Gr w w10 from (by repeat (first | exact Gr.refl _ | (refine Gr.step ?_ (by assumption)) | (refine Gr.alloc ?_ _) | (refine Gr.drew ?_))))).laid (by omega) (by omega)).mono ?_
  rintro ev w11 ⟨rfl, b11⟩
  go_wp2_with fail
  refine (stretches_any a B _ lb lv L z [] none 0 0 _ w11 (show Env B a w11 from HE.out.step (show Gr w w11 from (by repeat (first | exact Gr.refl _ | (refine Gr.step ?_ (by assumption)) | (refine Gr.alloc ?_ _) | (refine Gr.drew ?_))))) (HL2.out.below (show Gr w2 w11 from (by repeat (first | exact Gr.refl _ | (refine Gr.step ?_ (by assumption)) | (refine Gr.alloc ?_ _) | (refine Gr.drew ?_))))) (hin_none w11) ⟨rfl, none, 0, rfl, .inl rfl⟩ (fun _ h => by simp at h) (by rw [HNL.out]; exact HK.out) (by omega)).mono ?_
  rintro ev w12 ⟨rfl, b12⟩
  go_wp2_with fail
  refine (stretches_any a B _ lb lv L z l2 A2 m2 ca2 _ w12 (show Env B a w12 from HE.out.step (show Gr w w12 from (by repeat (first | exact Gr.refl _ | (refine Gr.step ?_ (by assumption)) | (refine Gr.alloc ?_ _) | (refine Gr.drew ?_))))) (HL2.out.below (show Gr w2 w12 from (by repeat (first | exact Gr.refl _ | (refine Gr.step ?_ (by assumption)) | (refine Gr.alloc ?_ _) | (refine Gr.drew ?_))))) (X2.out.below (show Gr w4 w12 from (by repeat (first | exact Gr.refl _ | (refine Gr.step ?_ (by assumption)) | (refine Gr.alloc ?_ _) | (refine Gr.drew ?_))))) (Y2.out.below (show Gr w7 w12 from (by repeat (first | exact Gr.refl _ | (refine Gr.step ?_ (by assumption)) | (refine Gr.alloc ?_ _) | (refine Gr.drew ?_))))) I2.out (by rw [HNL.out]; exact HK.out) N2).mono ?_
  rintro ev w13 ⟨rfl, b13⟩
  go_wp2_with fail
  refine (stretches_any a B _ lb lv L z [] none 0 0 _ w13 (show Env B a w13 from HE.out.step (show Gr w w13 from (by repeat (first | exact Gr.refl _ | (refine Gr.step ?_ (by assumption)) | (refine Gr.alloc ?_ _) | (refine Gr.drew ?_))))) (HL2.out.below (show Gr w2 w13 from (by repeat (first | exact Gr.refl _ | (refine Gr.step ?_ (by assumption)) | (refine Gr.alloc ?_ _) | (refine Gr.drew ?_))))) (hin_none w13) ⟨rfl, none, 0, rfl, .inl rfl⟩ (fun _ h => by simp at h) (by rw [HNL.out]; exact HK.out) (by omega)).mono ?_
  rintro ev w14 ⟨rfl, b14⟩
  go_wp2_with fail
  refine (HLV.out w14 (show Env B a w14 from HE.out.step (show Gr w w14 from (by repeat (first | exact Gr.refl _ | (refine Gr.step ?_ (by assumption)) | (refine Gr.alloc ?_ _) | (refine Gr.drew ?_)))))).mono ?_
  rintro ev w15 ⟨rfl, b15⟩
  go_wp2
  go_ret
  exact ⟨rfl, show Gr w _ from (by repeat (first | exact Gr.refl _ | (refine Gr.step ?_ (by assumption)) | (refine Gr.alloc ?_ _) | (refine Gr.drew ?_)))⟩

set_option maxRecDepth 100000 in
set_option maxHeartbeats 8000000 in
theorem shapes_nnn (a : Nat → Addr) (B : Nat) (D : List ByteArray) (A : Option Addr) (n c : Nat) (x y z : Int) (w : World) (hE : Env B a w) (h : SIn w A n c D) (hx0 : 0 ≤ x) (hx9 : x < 18446744073709551616) (hy0 : 0 ≤ y) (hy9 : y < 18446744073709551616) (hz0 : 0 ≤ z) (hz9 : z < 18446744073709551616)
    (hg : n + bulk D ≤ 1048576) (hk : z ≤ ((keptL D).length : Int)) (k1 : z ≤ x) (k2 : x = 0 ∨ z < x) (k3 : z < y ∨ y ≤ x) :
    Calls Tryd.prog 8 #[.slice A n c, .int .u64 x, .int .u64 y, .int .u64 z] w fun ev w' => ev = .returned (.bool true) ∧ Below w.heap.size w w' := by
  have HK := Lib.hid hk
  clear hk
  have HE := Lib.hid hE
  have HD := Lib.hid h
  have hn9 : n ≤ 140737488355328 := h.2.2.2.2.1
  have HG := Lib.hid hg
  clear hE h hg
  go_enter Tryd.func8, Tryd.ntmps8
  go_wp2_with fail
  refine (texts_any D A n c w HD.out).mono ?_
  rintro ev w' ⟨t, rfl, ht9, ht, rfl⟩
  have HT0 := Lib.hid ht
  clear ht
  go_wp2_with fail
  refine (beyond2 n t w (by omega) ht9).mono ?_
  rintro ev w1 ⟨rfl, hw1⟩
  have b1 : Below w.heap.size w w1 := by rw [hw1]; exact (Below.refl _ _).alloc (Nat.le_refl _) _
  clear hw1
  have hgd : decide (1048576 < n + t) = false := by have := HT0.out; have := HG.out; simp; omega
  have hn10 : n ≤ 1048576 := by have := HG.out; omega
  rw [hgd]
  go_wp2_with fail
  refine (grown_any a B D A n c w1 (show Env B a w1 from HE.out.step (show Gr w w1 from (by repeat (first | exact Gr.refl _ | (refine Gr.step ?_ (by assumption)) | (refine Gr.alloc ?_ _) | (refine Gr.drew ?_))))) (HD.out.below (show Gr w w1 from (by repeat (first | exact Gr.refl _ | (refine Gr.step ?_ (by assumption)) | (refine Gr.alloc ?_ _) | (refine Gr.drew ?_))))) hn10).mono ?_
  rintro ev w2 ⟨lb, lv, rfl, hL2, b2⟩
  have HN := Lib.hid (show (keptL D).length ≤ 1048576 from hL2.1.1)
  have HL2 := Lib.hid hL2
  clear hL2
  obtain ⟨L, hL⟩ : ∃ L, keptL D = L := ⟨_, rfl⟩
  rw [hL] at HN HL2 HK
  rw [hL]
  obtain ⟨N, hN⟩ : ∃ N, L.length = N := ⟨_, rfl⟩
  rw [hN] at HN HK
  rw [hN]
  have HNL := Lib.hid hN
  have hN0 : N ≤ 1048576 := HN.out
  have hwn : IntKind.u64.wrap (N : Int) = N := IntWalk.u64_in _ (by omega)
  have HLV := Lib.hid (lives_any a B)
  clear hL hN
  have hk := HK.out
  have hd9 : decide ((N : Int) < z) = false := by simp; omega
  go_wp2_with fail
  refine (lpath_bad a B _ lb lv L x z w2 (show Env B a w2 from HE.out.step (show Gr w w2 from (by repeat (first | exact Gr.refl _ | (refine Gr.step ?_ (by assumption)) | (refine Gr.alloc ?_ _) | (refine Gr.drew ?_))))) (HL2.out.below (show Gr w2 w2 from (by repeat (first | exact Gr.refl _ | (refine Gr.step ?_ (by assumption)) | (refine Gr.alloc ?_ _) | (refine Gr.drew ?_))))) hx0 hx9 hz0 hz9 (.inr k1)).mono ?_
  rintro ev w3 ⟨rfl, b3⟩
  go_wp2_with fail
  refine (lproof_bad a B _ lb lv L x z w3 (show Env B a w3 from HE.out.step (show Gr w w3 from (by repeat (first | exact Gr.refl _ | (refine Gr.step ?_ (by assumption)) | (refine Gr.alloc ?_ _) | (refine Gr.drew ?_))))) (HL2.out.below (show Gr w2 w3 from (by repeat (first | exact Gr.refl _ | (refine Gr.step ?_ (by assumption)) | (refine Gr.alloc ?_ _) | (refine Gr.drew ?_))))) hx0 hx9 hz0 hz9 (.inr k2)).mono ?_
  rintro ev w4 ⟨rfl, b4⟩
  go_wp2_with fail
  refine (lbatch_bad a B _ lb lv L x y z w4 (show Env B a w4 from HE.out.step (show Gr w w4 from (by repeat (first | exact Gr.refl _ | (refine Gr.step ?_ (by assumption)) | (refine Gr.alloc ?_ _) | (refine Gr.drew ?_))))) (HL2.out.below (show Gr w2 w4 from (by repeat (first | exact Gr.refl _ | (refine Gr.step ?_ (by assumption)) | (refine Gr.alloc ?_ _) | (refine Gr.drew ?_))))) hx0 hx9 hy0 hy9 hz0 hz9 (.inr k3)).mono ?_
  rintro ev w5 ⟨rfl, b5⟩
  go_wp2_with fail
  refine (path_fail a B x z w5 (show Env B a w5 from HE.out.step (show Gr w w5 from (by repeat (first | exact Gr.refl _ | (refine Gr.step ?_ (by assumption)) | (refine Gr.alloc ?_ _) | (refine Gr.drew ?_))))).laid hx0 hx9 hz0 hz9 (.inr k1)).mono ?_
  rintro ev w6 ⟨rfl, b6⟩
  go_wp2_with fail
  refine (proof_fail a B x z w6 (show Env B a w6 from HE.out.step (show Gr w w6 from (by repeat (first | exact Gr.refl _ | (refine Gr.step ?_ (by assumption)) | (refine Gr.alloc ?_ _) | (refine Gr.drew ?_))))).laid hx0 hx9 hz0 hz9 (.inr k2)).mono ?_
  rintro ev w7 ⟨rfl, b7⟩
  go_wp2_with fail
  refine (batch_fail a B x y z w7 (show Env B a w7 from HE.out.step (show Gr w w7 from (by repeat (first | exact Gr.refl _ | (refine Gr.step ?_ (by assumption)) | (refine Gr.alloc ?_ _) | (refine Gr.drew ?_))))).laid hx0 hx9 hy0 hy9 hz0 hz9 (.inr k3)).mono ?_
  rintro ev w8 ⟨rfl, b8⟩
  try unfold errV
  go_upto_region 14 with fail
  go_quiet (fail)
  have bq : Below w8.heap.size w8 (w8.drewN nq) := below_drewN (Below.refl _ _)
  obtain ⟨w9, hw9⟩ : ∃ w9, w8.drewN nq = w9 := ⟨_, rfl⟩
  rw [hw9] at bq ⊢
  clear hw9
  go_wp2_with fail
  change Calls _ _ #[errV a 5, _] _ _
  refine (is_sent a B 5 w9 (show Env B a w9 from HE.out.step (show Gr w w9 from (by repeat (first | exact Gr.refl _ | (refine Gr.step ?_ (by assumption)) | (refine Gr.alloc ?_ _) | (refine Gr.drew ?_))))).laid (by omega) (by omega)).mono ?_
  rintro ev w10 ⟨rfl, b10⟩
  go_wp2_with fail
  change Calls _ _ #[errV a 5, _] _ _
  refine (is_sent a B 5 w10 (show Env B a w10 from HE.out.step (show Gr w w10 from (by repeat (first | exact Gr.refl _ | (refine Gr.step ?_ (by assumption)) | (refine Gr.alloc ?_ _) | (refine Gr.drew ?_))))).laid (by omega) (by omega)).mono ?_
  rintro ev w11 ⟨rfl, b11⟩
  go_wp2_with fail
  change Calls _ _ #[errV a 5, _] _ _
  refine (is_sent a B 5 w11 (show Env B a w11 from HE.out.step (show Gr w w11 from (by repeat (first | exact Gr.refl _ | (refine Gr.step ?_ (by assumption)) | (refine Gr.alloc ?_ _) | (refine Gr.drew ?_))))).laid (by omega) (by omega)).mono ?_
  rintro ev w12 ⟨rfl, b12⟩
  go_wp2_with fail
  refine (stretches_any a B _ lb lv L z [] none 0 0 _ w12 (show Env B a w12 from HE.out.step (show Gr w w12 from (by repeat (first | exact Gr.refl _ | (refine Gr.step ?_ (by assumption)) | (refine Gr.alloc ?_ _) | (refine Gr.drew ?_))))) (HL2.out.below (show Gr w2 w12 from (by repeat (first | exact Gr.refl _ | (refine Gr.step ?_ (by assumption)) | (refine Gr.alloc ?_ _) | (refine Gr.drew ?_))))) (hin_none w12) ⟨rfl, none, 0, rfl, .inl rfl⟩ (fun _ h => by simp at h) (by rw [HNL.out]; exact HK.out) (by omega)).mono ?_
  rintro ev w13 ⟨rfl, b13⟩
  go_wp2_with fail
  refine (stretches_any a B _ lb lv L z [] none 0 0 _ w13 (show Env B a w13 from HE.out.step (show Gr w w13 from (by repeat (first | exact Gr.refl _ | (refine Gr.step ?_ (by assumption)) | (refine Gr.alloc ?_ _) | (refine Gr.drew ?_))))) (HL2.out.below (show Gr w2 w13 from (by repeat (first | exact Gr.refl _ | (refine Gr.step ?_ (by assumption)) | (refine Gr.alloc ?_ _) | (refine Gr.drew ?_))))) (hin_none w13) ⟨rfl, none, 0, rfl, .inl rfl⟩ (fun _ h => by simp at h) (by rw [HNL.out]; exact HK.out) (by omega)).mono ?_
  rintro ev w14 ⟨rfl, b14⟩
  go_wp2_with fail
  refine (stretches_any a B _ lb lv L z [] none 0 0 _ w14 (show Env B a w14 from HE.out.step (show Gr w w14 from (by repeat (first | exact Gr.refl _ | (refine Gr.step ?_ (by assumption)) | (refine Gr.alloc ?_ _) | (refine Gr.drew ?_))))) (HL2.out.below (show Gr w2 w14 from (by repeat (first | exact Gr.refl _ | (refine Gr.step ?_ (by assumption)) | (refine Gr.alloc ?_ _) | (refine Gr.drew ?_))))) (hin_none w14) ⟨rfl, none, 0, rfl, .inl rfl⟩ (fun _ h => by simp at h) (by rw [HNL.out]; exact HK.out) (by omega)).mono ?_
  rintro ev w15 ⟨rfl, b15⟩
  go_wp2_with fail
  refine (HLV.out w15 (show Env B a w15 from HE.out.step (show Gr w w15 from (by repeat (first | exact Gr.refl _ | (refine Gr.step ?_ (by assumption)) | (refine Gr.alloc ?_ _) | (refine Gr.drew ?_)))))).mono ?_
  rintro ev w16 ⟨rfl, b16⟩
  go_wp2
  go_ret
  exact ⟨rfl, show Gr w _ from (by repeat (first | exact Gr.refl _ | (refine Gr.step ?_ (by assumption)) | (refine Gr.alloc ?_ _) | (refine Gr.drew ?_)))⟩
end Go.Proofs.YtmfngcnmacjbfaaDoor
