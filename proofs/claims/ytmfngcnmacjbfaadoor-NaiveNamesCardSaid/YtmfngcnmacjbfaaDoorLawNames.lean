/- The law NaiveNames. Condition: the package-level variables read as listed. -/
import Derived.Test.YtmfngcnmacjbfaaDoorNamesAid
import Derived.Test.YtmfngcnmacjbfaaDoorSameHashes
import Derived.Laws.MakeOwn
namespace Go.Proofs.YtmfngcnmacjbfaaDoor
open Go.ChangeShapes Go.WideShapes Go.ChangeAt Go.RowKit
set_option linter.unusedVariables false
theorem info_byte : (Tryd.prog.info? 5).map (fun i => (i.zero, i.size, i.bytes)) = some (some (.int .u8 0), 1, 1) := by kernel_rfl
/-- 'string(make([]byte, 65537))' -/
theorem big_text (w : World) : ∃ (s : ByteArray) (w' : World), s.size = 65537 ∧ (Instr.makeSlice 87 (.int .i64 65537) (.int .i64 65537)).run Tryd.prog w = .ok (.slice (some ⟨w.heap.size, 0, none⟩) 65537 65537) w' ∧ Below w.heap.size w w' ∧
    (convert 87 9 (.slice (some ⟨w.heap.size, 0, none⟩) 65537 65537)).run Tryd.prog w' = .ok (.string s) w' := by
  obtain ⟨i0, hi, hz0, hz1, hz2⟩ := info_parts info_byte
  have hm := run_make (P := Tryd.prog) w 87 5 i0 (.int .u8 0) Tryd.underlying87 hi hz0 .i64 .i64 65537 65537 (by omega) (by omega) (by rw [hz2]; omega) (by omega)
  obtain ⟨N, hN⟩ : ∃ N : Nat, (65537 : Int).toNat = N := ⟨_, rfl⟩
  have hN' : N = 65537 := by rw [← hN]; rfl
  rw [hN, hz1] at hm
  obtain ⟨cs, hcs⟩ : ∃ cs, madeCells (Value.int .u8 0).cells (N * 1) = cs := ⟨_, rfl⟩
  rw [hcs] at hm
  have hrow : (w.alloc (.cells cs 5)).rangeAt w.heap.size 0 (bytesV (List.replicate N 0)) := fun j v hj => by
    rw [Nat.zero_add]
    refine cell_new _ _ j v ?_
    have hjN : j < N := by have := (List.getElem?_eq_some_iff.1 hj).1; rw [bytesV_length, List.length_replicate] at this; exact this
    have hv : v = .int .u8 0 := by
      simp only [bytesV, List.map_replicate] at hj
      rw [List.getElem?_replicate, if_pos hjN] at hj
      cases hj; rfl
    rw [hv, ← hcs]
    unfold madeCells
    simp [Value.cells, hjN, Nat.mod_one]
  refine ⟨⟨(List.replicate N (0 : UInt8)).toArray⟩, w.alloc (.cells cs 5), ?_, ?_, (Below.refl _ _).alloc (Nat.le_refl _) _, ?_⟩
  · show (List.replicate N (0 : UInt8)).toArray.size = 65537
    rw [List.size_toArray, List.length_replicate, hN']
  · rw [hN'] at hm; exact hm
  · have := bytes_back (w.alloc (.cells cs 5)) w.heap.size 0 N (List.replicate N 0) (by simp) hrow
    rw [hN'] at this ⊢; exact this
def l5' : List ByteArray := l5
set_option maxRecDepth 100000 in
set_option maxHeartbeats 8000000 in
theorem names_walk (a : Nat → Addr) (B : Nat) (w : World) (hE : Env B a w) : Calls Tryd.prog 10 #[] w fun ev w' => ev = .returned (.bool true) ∧ Below w.heap.size w w' := by
  have HE := Lib.hid hE
  clear hE
  have la := leafH_length ⟨#[97]⟩
  have hfa : ∀ w, Env B a w → _ := fun w h => hleaf_any ⟨#[97]⟩ w (by decide) h.tab
  have lb := leafH_length ⟨#[98]⟩
  have hfb : ∀ w, Env B a w → _ := fun w h => hleaf_any ⟨#[98]⟩ w (by decide) h.tab
  have lc := leafH_length ⟨#[99]⟩
  have hfc : ∀ w, Env B a w → _ := fun w h => hleaf_any ⟨#[99]⟩ w (by decide) h.tab
  have ld := leafH_length ⟨#[100]⟩
  have hfd : ∀ w, Env B a w → _ := fun w h => hleaf_any ⟨#[100]⟩ w (by decide) h.tab
  have le := leafH_length ⟨#[101]⟩
  have hfe : ∀ w, Env B a w → _ := fun w h => hleaf_any ⟨#[101]⟩ w (by decide) h.tab
  have hproof := l5_proof
  have hbatch := l5_batch
  obtain ⟨ha, hha⟩ : ∃ h, leafH ⟨#[97]⟩ = h := ⟨_, rfl⟩
  rw [hha] at la hfa
  obtain ⟨hb, hhb⟩ : ∃ h, leafH ⟨#[98]⟩ = h := ⟨_, rfl⟩
  rw [hhb] at lb hfb
  obtain ⟨hc, hhc⟩ : ∃ h, leafH ⟨#[99]⟩ = h := ⟨_, rfl⟩
  rw [hhc] at lc hfc
  obtain ⟨hd, hhd⟩ : ∃ h, leafH ⟨#[100]⟩ = h := ⟨_, rfl⟩
  rw [hhd] at ld hfd
  obtain ⟨he, hhe⟩ : ∃ h, leafH ⟨#[101]⟩ = h := ⟨_, rfl⟩
  rw [hhe] at le hfe
  rw [hha, hhb, hhc, hhd, hhe] at hproof
  rw [hha, hhd, hhe] at hbatch
  have ln := nodeH_length ha hb
  have hnd : ∀ w, Env B a w → _ := fun w h => hnode_any ha hb w la lb h.tab
  obtain ⟨hn, hhn⟩ : ∃ h, nodeH ha hb = h := ⟨_, rfl⟩
  rw [hhn] at ln hnd hproof
  obtain ⟨va, ea, Ha, Za, Ia, Oa⟩ := row_of ha la
  obtain ⟨vb, eb, Hb, Zb, Ib, Ob⟩ := row_of hb lb
  obtain ⟨vc, ec, Hc, Zc, Ic, Oc⟩ := row_of hc lc
  obtain ⟨vd, ed, Hd, Zd, Id, Od⟩ := row_of hd ld
  obtain ⟨ve, ee, He, Ze, Ie, Oe⟩ := row_of he le
  obtain ⟨vn, en, Hn, Zn, In, On⟩ := row_of hn ln
  rw [ea] at hfa
  rw [eb] at hfb
  rw [ec] at hfc
  rw [ed] at hfd
  rw [ee] at hfe
  rw [ea, eb, en] at hnd
  have HFa := Lib.hid hfa
  have HFb := Lib.hid hfb
  have HFc := Lib.hid hfc
  have HFd := Lib.hid hfd
  have HFe := Lib.hid hfe
  have HFn := Lib.hid hnd
  have HLS := Lib.hid (And.intro la (And.intro lb (And.intro lc (And.intro ld (And.intro le ln)))))
  obtain ⟨vz, ez, Hz, Zvz, Ivz, Ovz⟩ := row_of zeroH zeroH_length
  have HPROOF := Lib.hid hproof
  have HBATCH := Lib.hid hbatch
  have HEZ := Lib.hid ez
  clear hproof hbatch hfa hfb hfc hfd hfe hnd ea eb ec ed ee en ez hha hhb hhc hhd hhe hhn la lb lc ld le ln
  have HSIN : Hid (SIn (w.alloc (.cells #[.string ⟨#[97]⟩, .string ⟨#[98]⟩, .string ⟨#[99]⟩, .string ⟨#[100]⟩, .string ⟨#[101]⟩] 9)) (some ⟨w.heap.size, 0, none⟩) 5 5 l5) := Lib.hid ⟨rfl, by omega, by omega, by intro s hs; simp [l5] at hs; rcases hs with rfl | rfl | rfl | rfl | rfl <;> decide, by omega, .inr ⟨_, _, rfl, fun j u hu => by
    rw [Nat.zero_add]
    refine cell_new _ _ j u ?_
    match j, hu with
    | 0, hu => exact hu
    | 1, hu => exact hu
    | 2, hu => exact hu
    | 3, hu => exact hu
    | 4, hu => exact hu
    | j + 5, hu => simp [l5] at hu⟩⟩
  have b0 : Gr w (w.alloc (.cells #[.string ⟨#[97]⟩, .string ⟨#[98]⟩, .string ⟨#[99]⟩, .string ⟨#[100]⟩, .string ⟨#[101]⟩] 9)) := (Gr.refl w).alloc _
  obtain ⟨w0, hw0⟩ : ∃ w0, (w.alloc (.cells #[.string ⟨#[97]⟩, .string ⟨#[98]⟩, .string ⟨#[99]⟩, .string ⟨#[100]⟩, .string ⟨#[101]⟩] 9)) = w0 := ⟨_, rfl⟩
  rw [hw0] at HSIN b0
  have HW0 := Lib.hid hw0
  have b0 : Below w.heap.size w w0 := b0
  clear hw0
  go_enter Tryd.func10, Tryd.ntmps10
  go_wp2_with fail
  rw [HW0.out]
  refine (grown_any a B l5 _ 5 5 w0 (show Env B a w0 from HE.out.step (show Gr w w0 from (by repeat (first | exact Gr.refl _ | (refine Gr.step ?_ (by assumption)) | (refine Gr.alloc ?_ _) | (refine Gr.drew ?_))))) HSIN.out (by omega)).mono ?_
  rintro ev w1 ⟨b, v, rfl, hL1, b1⟩
  rw [l5_kept] at hL1 ⊢
  have HL := Lib.hid hL1
  have hk5 : l5.length = 5 := rfl
  have HLN := Lib.hid (show (l5.length : Int) = 5 from rfl)
  rw [hk5]
  clear hL1 hk5
  obtain ⟨sb, w2, hsb, hmk, b2, hcv⟩ := big_text w1
  have HSB := Lib.hid hsb
  clear hsb
  go_wp2_with fail
  refine (append_bad a B _ b v l5 sb w2 (show Env B a w2 from HE.out.step (show Gr w w2 from (by repeat (first | exact Gr.refl _ | (refine Gr.step ?_ (by assumption)) | (refine Gr.alloc ?_ _) | (refine Gr.drew ?_))))) (HL.out.below (show Gr w1 w2 from (by repeat (first | exact Gr.refl _ | (refine Gr.step ?_ (by assumption)) | (refine Gr.alloc ?_ _) | (refine Gr.drew ?_))))) (.inl (by rw [HSB.out]; omega))).mono ?_
  rintro ev w3 ⟨rfl, b3⟩
  go_wp2_with fail
  refine (append_nil a B _ w3 (show Env B a w3 from HE.out.step (show Gr w w3 from (by repeat (first | exact Gr.refl _ | (refine Gr.step ?_ (by assumption)) | (refine Gr.alloc ?_ _) | (refine Gr.drew ?_)))))).mono ?_
  rintro ev w4 ⟨rfl, b4⟩
  have b5 : Below w4.heap.size w4 (w4.alloc (.cells #[.slice none 0 0, .bool false] 89)) := (Below.refl _ _).alloc (Nat.le_refl _) _
  have c5 : (w4.alloc (.cells #[.slice none 0 0, .bool false] 89)).cell? ⟨w4.heap.size, 1, none⟩ = some (.bool false) := cell_new _ _ 1 _ rfl
  obtain ⟨w5, hw5⟩ : ∃ x, w4.alloc (.cells #[.slice none 0 0, .bool false] 89) = x := ⟨_, rfl⟩
  rw [hw5] at b5 c5
  have HW5 := Lib.hid hw5
  clear hw5
  go_wp2_with fail
  rw [HW5.out]
  refine (lroot_nil a B w4.heap.size 0 w5 (show Env B a w5 from HE.out.step (show Gr w w5 from (by repeat (first | exact Gr.refl _ | (refine Gr.step ?_ (by assumption)) | (refine Gr.alloc ?_ _) | (refine Gr.drew ?_))))) c5).mono ?_
  rw [HEZ.out]
  rintro ev w6 ⟨rfl, b6⟩
  go_upto_region 8 with (refine wpList_store_row_any rfl 29 _ _ rfl w6.heap.size vz rfl rfl 29 _ (heap_at _ _ _ rfl) Ivz.out (by rw [Zvz.out]; rfl) Ovz.out ?_; intro w7 hbN hgN hsN; have b7 : Below w6.heap.size w6 w7 := ((Below.refl _ w6).alloc (Nat.le_refl _) _).trans (hbN.to_below (by simp) (fun k hk q => by omega)); clear hbN hgN hsN)
  go_wp2_with fail
  refine (lbatch_bad a B _ b v l5 2 2 5 w7 (show Env B a w7 from HE.out.step (show Gr w w7 from (by repeat (first | exact Gr.refl _ | (refine Gr.step ?_ (by assumption)) | (refine Gr.alloc ?_ _) | (refine Gr.drew ?_))))) (HL.out.below (show Gr w1 w7 from (by repeat (first | exact Gr.refl _ | (refine Gr.step ?_ (by assumption)) | (refine Gr.alloc ?_ _) | (refine Gr.drew ?_))))) (by omega) (by omega) (by omega) (by omega) (by omega) (by omega) (.inr (.inr (by omega)))).mono ?_
  rintro ev w8 ⟨rfl, b8⟩
  go_wp2_with fail
  refine (lproof_bad a B _ b v l5 0 3 w8 (show Env B a w8 from HE.out.step (show Gr w w8 from (by repeat (first | exact Gr.refl _ | (refine Gr.step ?_ (by assumption)) | (refine Gr.alloc ?_ _) | (refine Gr.drew ?_))))) (HL.out.below (show Gr w1 w8 from (by repeat (first | exact Gr.refl _ | (refine Gr.step ?_ (by assumption)) | (refine Gr.alloc ?_ _) | (refine Gr.drew ?_))))) (by omega) (by omega) (by omega) (by omega) (.inr (.inl rfl))).mono ?_
  rintro ev w9 ⟨rfl, b9⟩
  go_wp2_with fail
  refine (tree_bad a B _ b v l5 2 1 w9 (show Env B a w9 from HE.out.step (show Gr w w9 from (by repeat (first | exact Gr.refl _ | (refine Gr.step ?_ (by assumption)) | (refine Gr.alloc ?_ _) | (refine Gr.drew ?_))))) (HL.out.below (show Gr w1 w9 from (by repeat (first | exact Gr.refl _ | (refine Gr.step ?_ (by assumption)) | (refine Gr.alloc ?_ _) | (refine Gr.drew ?_))))) (by omega) (by omega) (by omega) (by omega) (.inl (by omega))).mono ?_
  rw [HEZ.out]
  rintro ev w10 ⟨rfl, b10⟩
  go_upto_region 11 with (refine wpList_store_row_any rfl 29 _ _ rfl w10.heap.size vz rfl rfl 29 _ (heap_at _ _ _ rfl) Ivz.out (by rw [Zvz.out]; rfl) Ovz.out ?_; intro w11 hbN hgN hsN; have b11 : Below w10.heap.size w10 w11 := ((Below.refl _ w10).alloc (Nat.le_refl _) _).trans (hbN.to_below (by simp) (fun k hk q => by omega)); clear hbN hgN hsN)
  go_wp2_with fail
  refine (lleaf_off a B _ b v l5 w11 (show Env B a w11 from HE.out.step (show Gr w w11 from (by repeat (first | exact Gr.refl _ | (refine Gr.step ?_ (by assumption)) | (refine Gr.alloc ?_ _) | (refine Gr.drew ?_))))) (HL.out.below (show Gr w1 w11 from (by repeat (first | exact Gr.refl _ | (refine Gr.step ?_ (by assumption)) | (refine Gr.alloc ?_ _) | (refine Gr.drew ?_))))) 5 (by rw [HLN.out]; omega) (by omega)).mono ?_
  rintro ev w12 ⟨rfl, b12⟩
  go_wp2_with fail
  refine (lproof_ok a B _ b v l5 3 5 w12 (show Env B a w12 from HE.out.step (show Gr w w12 from (by repeat (first | exact Gr.refl _ | (refine Gr.step ?_ (by assumption)) | (refine Gr.alloc ?_ _) | (refine Gr.drew ?_))))) (HL.out.below (show Gr w1 w12 from (by repeat (first | exact Gr.refl _ | (refine Gr.step ?_ (by assumption)) | (refine Gr.alloc ?_ _) | (refine Gr.drew ?_))))) (by omega) (by omega) (by rw [HLN.out]; omega)).mono ?_
  rw [HPROOF.out]
  rintro ev w13 ⟨h32p, vp, rfl, ownp, b13⟩
  obtain ⟨Ap, cp, rfl, hcp⟩ := own_shape ownp
  have YP := Lib.hid (own_hin ownp h32p rfl)
  clear h32p ownp
  simp only [List.length_cons, List.length_nil, Nat.zero_add, Nat.reduceAdd] at YP hcp ⊢
  go_wp2_with fail
  refine (lbatch_ok a B _ b v l5 1 3 5 w13 (show Env B a w13 from HE.out.step (show Gr w w13 from (by repeat (first | exact Gr.refl _ | (refine Gr.step ?_ (by assumption)) | (refine Gr.alloc ?_ _) | (refine Gr.drew ?_))))) (HL.out.below (show Gr w1 w13 from (by repeat (first | exact Gr.refl _ | (refine Gr.step ?_ (by assumption)) | (refine Gr.alloc ?_ _) | (refine Gr.drew ?_))))) (by omega) (by omega) (by omega) (by rw [HLN.out]; omega)).mono ?_
  rw [HBATCH.out]
  rintro ev w14 ⟨h32q, vq, rfl, ownq, b14⟩
  obtain ⟨Aq, cq, rfl, hcq⟩ := own_shape ownq
  have YQ := Lib.hid (own_hin ownq h32q rfl)
  clear h32q ownq
  simp only [List.length_cons, List.length_nil, Nat.zero_add, Nat.reduceAdd] at YQ hcq ⊢
  unfold errV
  go_wp2_with fail
  change Calls _ _ #[errV a 4, _] _ _
  refine (is_sent a B 4 w14 (show Env B a w14 from HE.out.step (show Gr w w14 from (by repeat (first | exact Gr.refl _ | (refine Gr.step ?_ (by assumption)) | (refine Gr.alloc ?_ _) | (refine Gr.drew ?_))))).laid (by omega) (by omega)).mono ?_
  rintro ev w15 ⟨rfl, b15⟩
  go_wp2_with fail
  change Calls _ _ #[errV a 1, _] _ _
  refine (is_sent a B 1 w15 (show Env B a w15 from HE.out.step (show Gr w w15 from (by repeat (first | exact Gr.refl _ | (refine Gr.step ?_ (by assumption)) | (refine Gr.alloc ?_ _) | (refine Gr.drew ?_))))).laid (by omega) (by omega)).mono ?_
  rintro ev w16 ⟨rfl, b16⟩
  go_wp2_with fail
  change Calls _ _ #[errV a 1, _] _ _
  refine (is_sent a B 1 w16 (show Env B a w16 from HE.out.step (show Gr w w16 from (by repeat (first | exact Gr.refl _ | (refine Gr.step ?_ (by assumption)) | (refine Gr.alloc ?_ _) | (refine Gr.drew ?_))))).laid (by omega) (by omega)).mono ?_
  rintro ev w17 ⟨rfl, b17⟩
  go_wp2_with fail
  change Calls _ _ #[errV a 5, _] _ _
  refine (is_sent a B 5 w17 (show Env B a w17 from HE.out.step (show Gr w w17 from (by repeat (first | exact Gr.refl _ | (refine Gr.step ?_ (by assumption)) | (refine Gr.alloc ?_ _) | (refine Gr.drew ?_))))).laid (by omega) (by omega)).mono ?_
  rintro ev w18 ⟨rfl, b18⟩
  go_wp2_with fail
  change Calls _ _ #[errV a 5, _] _ _
  refine (is_sent a B 5 w18 (show Env B a w18 from HE.out.step (show Gr w w18 from (by repeat (first | exact Gr.refl _ | (refine Gr.step ?_ (by assumption)) | (refine Gr.alloc ?_ _) | (refine Gr.drew ?_))))).laid (by omega) (by omega)).mono ?_
  rintro ev w19 ⟨rfl, b19⟩
  go_wp2_with fail
  change Calls _ _ #[errV a 5, _] _ _
  refine (is_sent a B 5 w19 (show Env B a w19 from HE.out.step (show Gr w w19 from (by repeat (first | exact Gr.refl _ | (refine Gr.step ?_ (by assumption)) | (refine Gr.alloc ?_ _) | (refine Gr.drew ?_))))).laid (by omega) (by omega)).mono ?_
  rintro ev w20 ⟨rfl, b20⟩
  go_wp2_with fail
  change Calls _ _ #[errV a 5, _] _ _
  refine (is_sent a B 5 w20 (show Env B a w20 from HE.out.step (show Gr w w20 from (by repeat (first | exact Gr.refl _ | (refine Gr.step ?_ (by assumption)) | (refine Gr.alloc ?_ _) | (refine Gr.drew ?_))))).laid (by omega) (by omega)).mono ?_
  rintro ev w21 ⟨rfl, b21⟩
  go_wp2_with fail
  refine (HFc.out w21 (show Env B a w21 from HE.out.step (show Gr w w21 from (by repeat (first | exact Gr.refl _ | (refine Gr.step ?_ (by assumption)) | (refine Gr.alloc ?_ _) | (refine Gr.drew ?_)))))).mono ?_
  rintro ev w22 ⟨rfl, b22⟩
  go_wp2_with fail
  refine (HFd.out w22 (show Env B a w22 from HE.out.step (show Gr w w22 from (by repeat (first | exact Gr.refl _ | (refine Gr.step ?_ (by assumption)) | (refine Gr.alloc ?_ _) | (refine Gr.drew ?_)))))).mono ?_
  rintro ev w23 ⟨rfl, b23⟩
  go_wp2_with fail
  refine (HFa.out w23 (show Env B a w23 from HE.out.step (show Gr w w23 from (by repeat (first | exact Gr.refl _ | (refine Gr.step ?_ (by assumption)) | (refine Gr.alloc ?_ _) | (refine Gr.drew ?_)))))).mono ?_
  rintro ev w24 ⟨rfl, b24⟩
  go_wp2_with fail
  refine (HFb.out w24 (show Env B a w24 from HE.out.step (show Gr w w24 from (by repeat (first | exact Gr.refl _ | (refine Gr.step ?_ (by assumption)) | (refine Gr.alloc ?_ _) | (refine Gr.drew ?_)))))).mono ?_
  rintro ev w25 ⟨rfl, b25⟩
  go_wp2_with fail
  refine (HFn.out w25 (show Env B a w25 from HE.out.step (show Gr w w25 from (by repeat (first | exact Gr.refl _ | (refine Gr.step ?_ (by assumption)) | (refine Gr.alloc ?_ _) | (refine Gr.drew ?_)))))).mono ?_
  rintro ev w26 ⟨rfl, b26⟩
  go_wp2_with fail
  refine (HFe.out w26 (show Env B a w26 from HE.out.step (show Gr w w26 from (by repeat (first | exact Gr.refl _ | (refine Gr.step ?_ (by assumption)) | (refine Gr.alloc ?_ _) | (refine Gr.drew ?_)))))).mono ?_
  rintro ev w27 ⟨rfl, b27⟩
  have X4 : Hid (HIn (w27.alloc (.cells ([vc, vd, vn, ve].flatMap Array.toList).toArray 29)) (some ⟨w27.heap.size, 0, none⟩) 4 4 [hc, hd, hn, he]) := Lib.hid (hin_rows w27 [hc, hd, hn, he] [vc, vd, vn, ve] (by
    intro x hx; simp at hx
    rcases hx with rfl | rfl | rfl | rfl
    · exact HLS.out.2.2.1
    · exact HLS.out.2.2.2.1
    · exact HLS.out.2.2.2.2.2
    · exact HLS.out.2.2.2.2.1) (by rw [← Hc.out, ← Hd.out, ← Hn.out, ← He.out]; rfl) 4 rfl (by omega))
  have b28 : Below w27.heap.size w27 (w27.alloc (.cells ([vc, vd, vn, ve].flatMap Array.toList).toArray 29)) := (Below.refl _ _).alloc (Nat.le_refl _) _
  obtain ⟨w28, hw28⟩ : ∃ x, w27.alloc (.cells ([vc, vd, vn, ve].flatMap Array.toList).toArray 29) = x := ⟨_, rfl⟩
  rw [hw28] at X4 b28
  have HW28 := Lib.hid hw28
  clear hw28
  go_wp2_with (refine wpList_buildSlice_rows rfl 23 29 _ [vc, vd, vn, ve] _ 32 4 rfl (by simp only [List.map_toArray, List.map_cons, List.map_nil]; rfl) Tryd.underlying23 Tryd.sizeOf29 Tryd.zeroValue29 rfl (by
    intro x hx; simp at hx
    rcases hx with rfl | rfl | rfl | rfl
    · exact Zc.out
    · exact Zd.out
    · exact Zn.out
    · exact Ze.out) (by omega) (by omega) ?_; rw [HW28.out])
  refine (same_hashes [hc, hd, hn, he] [hc, hd, hn, he] Ap _ 4 4 cp 4 w28 (by omega) (YP.out.below (show Gr w13 w28 from (by repeat (first | exact Gr.refl _ | (refine Gr.step ?_ (by assumption)) | (refine Gr.alloc ?_ _) | (refine Gr.drew ?_))))) X4.out).mono ?_
  rw [decide_eq_true rfl]
  rintro ev w29 ⟨rfl, b29⟩
  go_wp2_with fail
  refine (HFa.out w29 (show Env B a w29 from HE.out.step (show Gr w w29 from (by repeat (first | exact Gr.refl _ | (refine Gr.step ?_ (by assumption)) | (refine Gr.alloc ?_ _) | (refine Gr.drew ?_)))))).mono ?_
  rintro ev w30 ⟨rfl, b30⟩
  go_wp2_with fail
  refine (HFd.out w30 (show Env B a w30 from HE.out.step (show Gr w w30 from (by repeat (first | exact Gr.refl _ | (refine Gr.step ?_ (by assumption)) | (refine Gr.alloc ?_ _) | (refine Gr.drew ?_)))))).mono ?_
  rintro ev w31 ⟨rfl, b31⟩
  go_wp2_with fail
  refine (HFe.out w31 (show Env B a w31 from HE.out.step (show Gr w w31 from (by repeat (first | exact Gr.refl _ | (refine Gr.step ?_ (by assumption)) | (refine Gr.alloc ?_ _) | (refine Gr.drew ?_)))))).mono ?_
  rintro ev w32 ⟨rfl, b32⟩
  have X3 : Hid (HIn (w32.alloc (.cells ([va, vd, ve].flatMap Array.toList).toArray 29)) (some ⟨w32.heap.size, 0, none⟩) 3 3 [ha, hd, he]) := Lib.hid (hin_rows w32 [ha, hd, he] [va, vd, ve] (by
    intro x hx; simp at hx
    rcases hx with rfl | rfl | rfl
    · exact HLS.out.1
    · exact HLS.out.2.2.2.1
    · exact HLS.out.2.2.2.2.1) (by rw [← Ha.out, ← Hd.out, ← He.out]; rfl) 3 rfl (by omega))
  have b33 : Below w32.heap.size w32 (w32.alloc (.cells ([va, vd, ve].flatMap Array.toList).toArray 29)) := (Below.refl _ _).alloc (Nat.le_refl _) _
  obtain ⟨w33, hw33⟩ : ∃ x, w32.alloc (.cells ([va, vd, ve].flatMap Array.toList).toArray 29) = x := ⟨_, rfl⟩
  rw [hw33] at X3 b33
  have HW33 := Lib.hid hw33
  clear hw33
  go_wp2_with (refine wpList_buildSlice_rows rfl 23 29 _ [va, vd, ve] _ 32 3 rfl (by simp only [List.map_toArray, List.map_cons, List.map_nil]; rfl) Tryd.underlying23 Tryd.sizeOf29 Tryd.zeroValue29 rfl (by
    intro x hx; simp at hx
    rcases hx with rfl | rfl | rfl
    · exact Za.out
    · exact Zd.out
    · exact Ze.out) (by omega) (by omega) ?_; rw [HW33.out])
  refine (same_hashes [ha, hd, he] [ha, hd, he] Aq _ 3 3 cq 3 w33 (by omega) (YQ.out.below (show Gr w14 w33 from (by repeat (first | exact Gr.refl _ | (refine Gr.step ?_ (by assumption)) | (refine Gr.alloc ?_ _) | (refine Gr.drew ?_))))) X3.out).mono ?_
  rw [decide_eq_true rfl]
  rintro ev w34 ⟨rfl, b34⟩
  go_wp2_with fail
  refine (lives_any a B w34 (show Env B a w34 from HE.out.step (show Gr w w34 from (by repeat (first | exact Gr.refl _ | (refine Gr.step ?_ (by assumption)) | (refine Gr.alloc ?_ _) | (refine Gr.drew ?_)))))).mono ?_
  rintro ev w35 ⟨rfl, b35⟩
  have HZ := Lib.hid (lsize_any _ b v l5 w35 (HL.out.below (show Gr w1 w35 from (by repeat (first | exact Gr.refl _ | (refine Gr.step ?_ (by assumption)) | (refine Gr.alloc ?_ _) | (refine Gr.drew ?_))))))
  have hL5 : (l5.length : Int) = 5 := rfl
  rw [hL5] at HZ
  clear hL5
  go_wp2_with (go_at_call 34; refine HZ.out.mono ?_; rintro ev w' ⟨rfl, rfl⟩)
  go_ret
  exact ⟨rfl, show Gr w _ from (by repeat (first | exact Gr.refl _ | (refine Gr.step ?_ (by assumption)) | (refine Gr.alloc ?_ _) | (refine Gr.drew ?_)))⟩
end Go.Proofs.YtmfngcnmacjbfaaDoor
