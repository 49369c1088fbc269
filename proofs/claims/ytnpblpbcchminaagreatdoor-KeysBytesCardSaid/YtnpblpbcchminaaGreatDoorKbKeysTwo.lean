import Derived.Test.YtnpblpbcchminaaGreatDoorKbKeysRows
import Derived.Test.YtnpblpbcchminaaGreatDoorKbKeysOne
/- onetime.Public, Sign, Recover. Condition: the table reads as listed. -/
namespace Go.Proofs.YtnpblpbcchminaaGreatDoor
open Go.ChangeShapes Go.WideShapes Go.ChangeAt Go.RowKit
set_option linter.unusedVariables false

set_option maxRecDepth 100000 in
set_option maxHeartbeats 8000000 in
theorem pub_any (s : List UInt8) (w : World) (hs : s.length = 32) (hK : KTab 17 w) :
    Calls Tryz.prog 45 #[hv s] w fun ev w' => ev = .returned (hv (pubB s)) ∧ Below w.heap.size w w' := by
  obtain ⟨v0, ev0, Hv0, Zv0, Iv0, Ov0⟩ := row_of s hs
  obtain ⟨vr, evr, Hvr, Zvr, Ivr, Ovr⟩ := row_of (pubB s) (endB_length _)
  obtain ⟨mk, hml, hmk⟩ := make_hashes 67 (by omega)
  have hF32 : ∀ i, (onH 15 (begB s i)).length = 32 := fun i => onH_length (begB_length s i) 15
  obtain ⟨wv, hwv⟩ : ∃ y9 : World, (((w.alloc (.cells v0 23)).alloc (.cells #[.int .u8 0, .int .u8 0, .int .u8 0, .int .u8 0, .int .u8 0, .int .u8 0, .int .u8 0, .int .u8 0, .int .u8 0, .int .u8 0, .int .u8 0, .int .u8 0, .int .u8 0, .int .u8 0, .int .u8 0, .int .u8 0, .int .u8 0, .int .u8 0, .int .u8 0, .int .u8 0, .int .u8 0, .int .u8 0, .int .u8 0, .int .u8 0, .int .u8 0, .int .u8 0, .int .u8 0, .int .u8 0, .int .u8 0, .int .u8 0, .int .u8 0, .int .u8 0] 23)).alloc (.cells mk.toArray 23)) = y9 := ⟨_, rfl⟩
  have HBv : Hid (Below w.heap.size w wv) := Lib.hid (by rw [← hwv]; exact ((((Below.refl _ _).alloc (by simp <;> omega) _).alloc (by simp <;> omega) _).alloc (by simp <;> omega) _))
  have HSV : Hid (wv.heap.size = w.heap.size + 3) := Lib.hid (by rw [← hwv]; simp)
  have RA : Hid (wv.heap[w.heap.size]? = some (.cells v0 23 (0, 0))) := Lib.hid (by rw [← hwv]; exact ((((Below.refl (w.alloc (.cells v0 23)).heap.size (w.alloc (.cells v0 23))).alloc (Nat.le_refl _) _).alloc (by simp <;> omega) _).block w.heap.size (by simp <;> omega)).trans (heap_at _ _ _ (by simp <;> omega)))
  have RB : Hid (wv.heap[(w.heap.size + 1)]? = some (.cells #[.int .u8 0, .int .u8 0, .int .u8 0, .int .u8 0, .int .u8 0, .int .u8 0, .int .u8 0, .int .u8 0, .int .u8 0, .int .u8 0, .int .u8 0, .int .u8 0, .int .u8 0, .int .u8 0, .int .u8 0, .int .u8 0, .int .u8 0, .int .u8 0, .int .u8 0, .int .u8 0, .int .u8 0, .int .u8 0, .int .u8 0, .int .u8 0, .int .u8 0, .int .u8 0, .int .u8 0, .int .u8 0, .int .u8 0, .int .u8 0, .int .u8 0, .int .u8 0] 23 (0, 0))) := Lib.hid (by rw [← hwv]; exact (((Below.refl ((w.alloc (.cells v0 23)).alloc (.cells #[.int .u8 0, .int .u8 0, .int .u8 0, .int .u8 0, .int .u8 0, .int .u8 0, .int .u8 0, .int .u8 0, .int .u8 0, .int .u8 0, .int .u8 0, .int .u8 0, .int .u8 0, .int .u8 0, .int .u8 0, .int .u8 0, .int .u8 0, .int .u8 0, .int .u8 0, .int .u8 0, .int .u8 0, .int .u8 0, .int .u8 0, .int .u8 0, .int .u8 0, .int .u8 0, .int .u8 0, .int .u8 0, .int .u8 0, .int .u8 0, .int .u8 0, .int .u8 0] 23)).heap.size ((w.alloc (.cells v0 23)).alloc (.cells #[.int .u8 0, .int .u8 0, .int .u8 0, .int .u8 0, .int .u8 0, .int .u8 0, .int .u8 0, .int .u8 0, .int .u8 0, .int .u8 0, .int .u8 0, .int .u8 0, .int .u8 0, .int .u8 0, .int .u8 0, .int .u8 0, .int .u8 0, .int .u8 0, .int .u8 0, .int .u8 0, .int .u8 0, .int .u8 0, .int .u8 0, .int .u8 0, .int .u8 0, .int .u8 0, .int .u8 0, .int .u8 0, .int .u8 0, .int .u8 0, .int .u8 0, .int .u8 0] 23))).alloc (Nat.le_refl _) _).block (w.heap.size + 1) (by simp <;> omega)).trans (heap_at _ _ _ (by simp <;> omega)))
  have RC : Hid (wv.heap[(w.heap.size + 2)]? = some (.cells mk.toArray 23 (0, 0))) := Lib.hid (by rw [← hwv]; exact heap_at _ _ _ (by simp <;> omega))
  have HWV := Lib.hid hwv
  have HKW := Lib.hid (fun (w' : World) (h : Below w.heap.size w w') => ktab_below hK h hK.lt)
  have HBG := Lib.hid (fun (w' : World) (i : Nat) (hi : i < 67) (h : Below w.heap.size w w') => begin_any s i w' hs (by omega) (HKW.out w' h))
  have HON := Lib.hid (fun (w' : World) (i : Nat) (h : Below w.heap.size w w') => on_any (begB s i) 15 w' (begB_length s i) (by omega) (HKW.out w' h))
  have HEN := Lib.hid (fun (w' : World) (h : Below w.heap.size w w') (hL : HIn w' (some ⟨w.heap.size + 1 + 1, 0, none⟩) 67 67 ((List.range 67).map (fun i => onH 15 (begB s i)))) => end_any _ 67 67 _ w' hL (by omega) (HKW.out w' h))
  have HF := Lib.hid hF32
  have HC0 := Lib.hid (FillC.new (fun i => onH 15 (begB s i)) hml)
  have EVR := Lib.hid (show hv (endB ((List.range 67).map (fun i => onH 15 (begB s i)))) = .agg vr from evr)
  have EV0 := Lib.hid ev0
  have hmk2 : ∀ w, (Instr.makeSlice 24 (.int .i64 67) (.int .i64 67)).run Tryz.prog w = .ok (.slice (some ⟨w.heap.size, 0, none⟩) 67 67) (w.alloc (.cells mk.toArray 23)) := hmk
  rw [ev0, evr]
  clear hK hs ev0 evr hwv hF32 hml hmk
  go_enter Tryz.func45, Tryz.ntmps45
  go_upto_region 2 with fail
  rw [HWV.out]
  clear hmk2
  go_wp2_with fail
  go_loopw [8] (fun k wr => ∃ (i : Nat) (cs : List Value), i ≤ 67 ∧ k = .int .i64 i ∧ Hid (FillC cs 67 (fun i => onH 15 (begB s i)) i) ∧ Hid (wr.heap[w.heap.size + 1 + 1]? = some (.cells cs.toArray 23 (0, 0))) ∧ Hid (But (· = w.heap.size + 1 + 1) wv wr)) (fun k _ => 67 - (intOf k).toNat)
  case atStart => exact ⟨0, mk, Nat.zero_le _, rfl, HC0, RC, Lib.hid (But.refl _ _)⟩
  case round =>
    obtain ⟨i, cs, hi, rfl, HC, HR, HB⟩ := hrel
    have HBW : Hid (Below w.heap.size w wr) := Lib.hid (HBv.out.trans (HB.out.to_below HBv.out.size (fun k hk q => by omega)))
    have hsr := HB.out.size
    have hsv := HSV.out
    by_cases hlt : i < 67
    · obtain ⟨vb, evb, Hvb, Zvb, Ivb, Ovb⟩ := row_of (begB s i) (begB_length _ _)
      obtain ⟨vn, evn, Hvn, Zvn, Ivn, Ovn⟩ := row_of (onH 15 (begB s i)) (HF.out i)
      have HLN : Hid (vn.toList = bytesV ((fun i => onH 15 (begB s i)) i)) := Lib.hid (by rw [← Hvn.out])
      have HB1 : Hid (Calls Tryz.prog 136 #[.agg v0, .int .i64 i] wr fun ev w' => ev = .returned (.agg vb) ∧ Below wr.heap.size wr w') := Lib.hid (by
        have := HBG.out wr i hlt HBW.out
        rw [EV0.out, evb] at this; exact this)
      have HO1 : Hid (∀ w', Below w.heap.size w w' → Calls Tryz.prog 121 #[.agg vb, .int .i64 15] w' fun ev w2 => ev = .returned (.agg vn) ∧ Below w'.heap.size w' w2) := Lib.hid (fun w' h => by
        have := HON.out w' i h
        rw [evb, evn] at this; exact this)
      have RAr : Hid (wr.heap[w.heap.size]? = some (.cells v0 23 (0, 0))) := Lib.hid ((HB.out.same _ (by omega) (by omega)).trans RA.out)
      have i0 : (0 : Int) ≤ i := by omega
      have i1 : (i : Int) < 67 := by omega
      clear evb evn
      go_wp2_with (refine wpList_load_row rfl 23 _ rfl w.heap.size rfl 23 v0 (0, 0) _ RAr.out Tryz.underlying23 rfl Iv0.out ?_)
      refine HB1.out.mono ?_
      rintro ev w1 ⟨rfl, b1⟩
      have B1 := Lib.hid b1
      clear b1
      go_wp2_with fail
      refine (HO1.out w1 (HBW.out.trans (B1.out.mono HBW.out.size))).mono ?_
      rintro ev w2 ⟨rfl, b2⟩
      have B2 := Lib.hid (B1.out.trans (b2.mono B1.out.size))
      clear b2
      have R2 := Lib.hid ((B2.out.block _ (by omega)).trans HR.out)
      go_upto_region 6 with (refine wpList_store_mid rfl 23 _ _ rfl (w.heap.size + 1 + 1) (i * 32) vn rfl rfl (there_row R2.out (by rw [Zvn.out, HC.out.1]; omega)) Ivn.out Ovn.out ?_)
      obtain ⟨w3, hw3⟩ : ∃ x, w2.setCells (w.heap.size + 1 + 1) (i * 32) vn.toList = x := ⟨_, rfl⟩
      obtain ⟨K3, R3, f3⟩ := st_mid (HB.out.below B2.out) hw3 (fun _ => rfl) R2.out
      rw [hw3]
      rw [HLN.out] at R3
      have K3 := Lib.hid K3
      have R3 := Lib.hid R3
      clear hw3 f3
      go_wp2_with fail
      go_roundw
      case rel => exact ⟨i + 1, _, by omega, by go_num, Lib.hid (HC.out.set hlt HF.out), R3, K3⟩
      case measure => simp [intOf]; omega
    · obtain rfl : i = 67 := by omega
      have HL := Lib.hid (HC.out.hin HF.out HR.out (by omega))
      have RBr : Hid (wr.heap[w.heap.size + 1]? = some (.cells #[.int .u8 0, .int .u8 0, .int .u8 0, .int .u8 0, .int .u8 0, .int .u8 0, .int .u8 0, .int .u8 0, .int .u8 0, .int .u8 0, .int .u8 0, .int .u8 0, .int .u8 0, .int .u8 0, .int .u8 0, .int .u8 0, .int .u8 0, .int .u8 0, .int .u8 0, .int .u8 0, .int .u8 0, .int .u8 0, .int .u8 0, .int .u8 0, .int .u8 0, .int .u8 0, .int .u8 0, .int .u8 0, .int .u8 0, .int .u8 0, .int .u8 0, .int .u8 0] 23 (0, 0))) := Lib.hid ((HB.out.same _ (by omega) (by omega)).trans RB.out)
      go_wp2_with fail
      refine (HEN.out wr HBW.out HL.out).mono ?_
      rw [EVR.out]
      rintro ev w1 ⟨rfl, b1⟩
      have HG := Lib.hid ((b1.block _ (by omega)).trans RBr.out)
      have HF1 := Lib.hid (HBW.out.trans (b1.mono HBW.out.size))
      clear b1
      go_wp2_with (refine wpList_store_row rfl 23 _ _ rfl (w.heap.size + 1) vr rfl rfl 23 _ HG.out Ivr.out (by rw [Zvr.out]; rfl) Ovr.out ?_)
      refine bodyPost_ret (v := .agg vr) (results_cell_row rfl _ _ (w.heap.size + 1) 23 vr (0, 0) _ rfl (setRow_heap _ _ _ _ _ _ HG.out) Tryz.underlying23 rfl Ivr.out) rfl ⟨rfl, below_setRow HF1.out _ _ (by omega)⟩

set_option maxRecDepth 100000 in
set_option maxHeartbeats 8000000 in
theorem sign_own (s m : List UInt8) (w : World) (hs : s.length = 32) (hm : m.length = 32) (hK : KTab 17 w) :
    Calls Tryz.prog 49 #[hv s, hv m] w fun ev w' => ∃ G, w.heap.size ≤ G ∧ ev = .returned (.slice (some ⟨G, 0, none⟩) 67 67) ∧ HIn w' (some ⟨G, 0, none⟩) 67 67 (sigB s m) ∧ (∃ ys, w'.ownsRow w.heap.size 23 32 (.slice (some ⟨G, 0, none⟩) 67 67) 67 ys) ∧ Below w.heap.size w w' := by
  obtain ⟨v0, ev0, Hv0, Zv0, Iv0, Ov0⟩ := row_of s hs
  obtain ⟨v1, ev1, Hv1, Zv1, Iv1, Ov1⟩ := row_of m hm
  obtain ⟨mk, hml, hmk⟩ := make_hashes 67 (by omega)
  have hmk2 : ∀ w, (Instr.makeSlice 24 (.int .i64 67) (.int .i64 67)).run Tryz.prog w = .ok (.slice (some ⟨w.heap.size, 0, none⟩) 67 67) (w.alloc (.cells mk.toArray 23)) := hmk
  have hd67 := digB_length hm
  obtain ⟨dv, hdv⟩ : ∃ y, (((digB m).map Int.ofNat).map (Value.int .i64)).toArray = y := ⟨_, rfl⟩
  have Zdv : Hid (dv.size = 67) := Lib.hid (by rw [← hdv]; simp [hd67])
  have Idv : Hid ((Tryz.prog.info? 132).map (·.size) = some dv.size) := Lib.hid (by rw [Zdv.out]; kernel_rfl)
  have Odv : Hid (dv.all (·.oneCell') = true) := Lib.hid (by rw [← hdv]; simp [Value.oneCell'])
  have HDC : Hid (∀ (w' : World) (g i : Nat), i < 67 → w'.heap[g]? = some (.cells dv 132 (0, 0)) → w'.cell? ⟨g, i, none⟩ = some (.int .i64 ((digB m).getD i 0 : Nat))) := Lib.hid (fun w' g i hi hg => by
    rw [cell_of_row w' g i dv 132 (0, 0) hg, ← hdv, List.getElem?_toArray, List.getElem?_map, List.getElem?_map, List.getD_eq_getElem?_getD, List.getElem?_eq_getElem (by omega)]; rfl)
  have HD15 : Hid (∀ i, i < 67 → (digB m).getD i 0 ≤ 15) := Lib.hid (fun i hi => by
    rw [List.getD_eq_getElem?_getD, List.getElem?_eq_getElem (by omega)]
    exact digB_le hm _ (List.getElem_mem _))
  have hF32 : ∀ i, ((fun i => onH ((digB m).getD i 0) (begB s i)) i).length = 32 := fun i => onH_length (begB_length s i) _
  obtain ⟨wv, hwv⟩ : ∃ y9 : World, ((w.alloc (.cells v0 23)).alloc (.cells v1 23)) = y9 := ⟨_, rfl⟩
  have HBv : Hid (Below w.heap.size w wv) := Lib.hid (by rw [← hwv]; exact (((Below.refl _ _).alloc (by simp <;> omega) _).alloc (by simp <;> omega) _))
  have HSV : Hid (wv.heap.size = w.heap.size + 2) := Lib.hid (by rw [← hwv]; simp)
  have RA : Hid (wv.heap[w.heap.size]? = some (.cells v0 23 (0, 0))) := Lib.hid (by rw [← hwv]; exact (((Below.refl (w.alloc (.cells v0 23)).heap.size (w.alloc (.cells v0 23))).alloc (Nat.le_refl _) _).block w.heap.size (by simp <;> omega)).trans (heap_at _ _ _ (by simp <;> omega)))
  have RB : Hid (wv.heap[(w.heap.size + 1)]? = some (.cells v1 23 (0, 0))) := Lib.hid (by rw [← hwv]; exact heap_at _ _ _ (by simp <;> omega))
  have HWV := Lib.hid hwv
  have HKW := Lib.hid (fun (w' : World) (h : Below w.heap.size w w') => ktab_below hK h hK.lt)
  have HBG := Lib.hid (fun (w' : World) (i : Nat) (hi : i < 67) (h : Below w.heap.size w w') => begin_any s i w' hs (by omega) (HKW.out w' h))
  have HON := Lib.hid (fun (w' : World) (i n : Nat) (hn : n ≤ 15) (h : Below w.heap.size w w') => on_any (begB s i) n w' (begB_length s i) (by omega) (HKW.out w' h))
  have HRD : Hid (Calls Tryz.prog 120 #[.agg v1] wv fun ev w' => ev = .returned (.agg dv) ∧ Below wv.heap.size wv w') := Lib.hid (by
    have := read_any m wv hm
    rw [hdv, ev1] at this; exact this)
  have HF := Lib.hid hF32
  have HC0 := Lib.hid (FillC.new (fun i => onH ((digB m).getD i 0) (begB s i)) hml)
  have EV0 := Lib.hid ev0
  rw [ev0, ev1]
  clear hK hs hm ev0 ev1 hwv hF32 hml hmk hdv hd67
  go_enter Tryz.func49, Tryz.ntmps49
  go_upto_region 1 with fail
  rw [HWV.out]
  go_wp2_with (refine wpList_load_row rfl 23 _ rfl (w.heap.size + 1) rfl 23 v1 (0, 0) _ RB.out Tryz.underlying23 rfl Iv1.out ?_)
  refine HRD.out.mono ?_
  rintro ev w1 ⟨rfl, b1⟩
  have B1 := Lib.hid b1
  clear b1
  go_upto_region 2 with (refine wpList_store_row_any rfl 132 _ _ rfl w1.heap.size dv rfl rfl 132 _ (heap_at _ _ _ rfl) Idv.out (by rw [Zdv.out, zero67]; rfl) Odv.out ?_; intro w2 hbN hgN hsN; have B2 : Hid (Below w1.heap.size w1 w2) := Lib.hid (((Below.refl _ w1).alloc (Nat.le_refl _) _).trans (hbN.to_below (by simp) (fun k hk q => by omega))); have RD2 := Lib.hid hgN; have S2 : Hid (w2.heap.size = w1.heap.size + 1) := Lib.hid (hsN.trans (by simp)); clear hbN hgN hsN)
  go_upto_region 3 with fail
  obtain ⟨w3, hw3⟩ : ∃ x, w2.alloc (.cells mk.toArray 23) = x := ⟨_, rfl⟩
  obtain ⟨G, hG⟩ : ∃ x, w2.heap.size = x := ⟨_, rfl⟩
  obtain ⟨D5, hD5⟩ : ∃ x, w1.heap.size = x := ⟨_, rfl⟩
  have B3 : Hid (Below G w2 w3) := Lib.hid (by rw [← hw3]; exact (Below.refl _ _).alloc (by omega) _)
  have RG3 : Hid (w3.heap[G]? = some (.cells mk.toArray 23 (0, 0))) := Lib.hid (by rw [← hw3, ← hG]; exact heap_at _ _ _ rfl)
  have RD3 : Hid (w3.heap[D5]? = some (.cells dv 132 (0, 0))) := Lib.hid (by rw [← hD5]; exact (B3.out.block _ (by have := S2.out; omega)).trans RD2.out)
  have S3 : Hid (G = D5 + 1 ∧ w3.heap.size = G + 1 ∧ wv.heap.size ≤ D5) := Lib.hid ⟨by have := S2.out; omega, by rw [← hw3]; simp [hG], by have := B1.out.size; omega⟩
  have BW3 : Hid (Below wv.heap.size wv w3) := Lib.hid ((B1.out.trans (B2.out.mono B1.out.size)).trans (B3.out.mono (by have := S3.out; omega)))
  rw [hw3, hG, hD5]
  clear hmk2 hw3 hG hD5
  go_wp2_with fail
  go_loopw [13] (fun k wr => ∃ (i : Nat) (cs : List Value), i ≤ 67 ∧ k = .int .i64 i ∧ Hid (FillC cs 67 (fun i => onH ((digB m).getD i 0) (begB s i)) i) ∧ Hid (wr.heap[G]? = some (.cells cs.toArray 23 (0, 0))) ∧ Hid (But (· = G) w3 wr)) (fun k _ => 67 - (intOf k).toNat)
  case atStart => exact ⟨0, mk, Nat.zero_le _, rfl, HC0, RG3, Lib.hid (But.refl _ _)⟩
  case round =>
    obtain ⟨i, cs, hi, rfl, HC, HR, HB⟩ := hrel
    have HL3 : Hid (w.heap.size + 2 ≤ D5 ∧ D5 + 1 = G ∧ G < w3.heap.size ∧ w3.heap.size ≤ wr.heap.size) := Lib.hid ⟨by have := S3.out; have := HSV.out; omega, by have := S3.out; omega, by have := S3.out; omega, HB.out.size⟩
    have HBW : Hid (Below w.heap.size w wr) := Lib.hid (HBv.out.trans ((BW3.out.mono HBv.out.size).trans (HB.out.to_below (by have := HL3.out; omega) (fun k hk q => by have := HL3.out; omega))))
    by_cases hlt : i < 67
    · obtain ⟨d, hd⟩ : ∃ d, (digB m).getD i 0 = d := ⟨_, rfl⟩
      obtain ⟨vb, evb, Hvb, Zvb, Ivb, Ovb⟩ := row_of (begB s i) (begB_length _ _)
      obtain ⟨vn, evn, Hvn, Zvn, Ivn, Ovn⟩ := row_of ((fun i => onH ((digB m).getD i 0) (begB s i)) i) (HF.out i)
      have HLN : Hid (vn.toList = bytesV ((fun i => onH ((digB m).getD i 0) (begB s i)) i)) := Lib.hid (by rw [← Hvn.out])
      have HB1 : Hid (∀ w', Below w.heap.size w w' → Calls Tryz.prog 136 #[.agg v0, .int .i64 i] w' fun ev w2 => ev = .returned (.agg vb) ∧ Below w'.heap.size w' w2) := Lib.hid (fun w' h => by
        have := HBG.out w' i hlt h
        rw [EV0.out, evb] at this; exact this)
      have HO1 : Hid (∀ w', Below w.heap.size w w' → Calls Tryz.prog 121 #[.agg vb, .int .i64 d] w' fun ev w2 => ev = .returned (.agg vn) ∧ Below w'.heap.size w' w2) := Lib.hid (fun w' h => by
        have := HON.out w' i d (by rw [← hd]; exact HD15.out i hlt) h
        rw [← hd, evb, show hv (onH ((digB m).getD i 0) (begB s i)) = .agg vn from evn, hd] at this; exact this)
      have RAr : Hid (wr.heap[w.heap.size]? = some (.cells v0 23 (0, 0))) := Lib.hid ((HB.out.same _ (by have := HL3.out; omega) (by have := HL3.out; omega)).trans ((BW3.out.block _ (by have := HSV.out; omega)).trans RA.out))
      have RDr : Hid (wr.heap[D5]? = some (.cells dv 132 (0, 0))) := Lib.hid ((HB.out.same _ (by have := HL3.out; omega) (by have := HL3.out; omega)).trans RD3.out)
      have KD : Hid (∀ w', But (· = G) wr w' → w'.cell? ⟨D5, i, none⟩ = some (.int .i64 d)) := Lib.hid (fun w' h => by
        rw [← hd]
        exact HDC.out w' D5 i hlt ((h.same _ (by have := HL3.out; omega) (by have := HL3.out; omega)).trans RDr.out))
      have i0 : (0 : Int) ≤ i := by omega
      have i1 : (i : Int) < 67 := by omega
      clear evb evn hd
      go_upto_region 6 with fail
      refine wp_region_held_drew (S := But (· = G) wr) (by kernel_rfl) (But.refl _ _).drew (fun hHeld => ?_)
      refine tk (i := 0) (v := ?v1) rfl ?y1 ?r1
      case y1 => (intro w hSw; (try dsimp only at hSw); go_simp; (try with_reducible rfl))
      try simp only [pu]
      refine tk (i := 1) (v := ?v2) rfl ?y2 ?r2
      case y2 => (intro w hSw; (try dsimp only at hSw); go_simp; (try with_reducible rfl))
      try simp only [pu]
      refine tw (i := 2) rfl (yieldsIf_load_row (by rfl) 23 _ (by rfl) w.heap.size (by rfl) 23 v0 (0, 0) _ (fun w h => (h.same _ (by have := HL3.out; omega) (by have := HL3.out; omega)).trans RAr.out) Tryz.underlying23 (by rfl) Iv0.out) ?_
      try simp only [pu]
      refine tk (i := 3) (v := ?v4) rfl ?y4 ?r4
      case y4 => (intro w hSw; (try dsimp only at hSw); go_simp; (try with_reducible rfl))
      try simp only [pu]
      refine tk (i := 5) (v := ?v5) rfl ?y5 ?r5
      case y5 => (intro w hSw; (try dsimp only at hSw); go_simp; (try with_reducible rfl))
      try simp only [pu]
      refine tk (i := 6) (v := ?v6) rfl ?y6 ?r6
      case y6 => (intro w hSw; (try dsimp only at hSw); go_simp; (try with_reducible rfl))
      try simp only [pu]
      refine tk (i := 7) (v := ?v7) rfl ?y7 ?r7
      case y7 => (intro w hSw; (try dsimp only at hSw); have z0 := KD.out w hSw; go_simp; (try with_reducible rfl))
      try simp only [pu]
      refine wpAnyH_ready (rs := [4]) (by kernel_rfl) (by simp) ?_
      refine AllReadyH.cons (i := 4) rfl (fun K2 hK2 => ?_) AllReadyH.nil
      go_simp
      go_at_call 136
      refine (HB1.out wr.drew (HBW.out.trans (But.to_below ((But.refl (· = G) wr).drew) HBW.out.size (fun k hk q => by have := HL3.out; omega)))).mono ?_
      rintro ev w701 ⟨rfl, bw701⟩
      try go_wp2_with fail
      obtain ⟨Kw701, fw701⟩ := st_call ((But.refl (· = G) wr).drew) bw701
      have Kw701 := Lib.hid Kw701
      have Tw701_0 := Lib.hid (fw701 _ _ (show wr.drew.heap[G]? = _ from HR.out))
      clear bw701 fw701
      refine hK2.out _ _ Kw701.out (fun hHeld2 => ?_)
      clear hK2 K2
      try simp only [pu]
      refine wpAnyH_ready (rs := [8]) (by kernel_rfl) (by simp) ?_
      refine AllReadyH.cons (i := 8) rfl (fun K2 hK2 => ?_) AllReadyH.nil
      go_simp
      go_at_call 121
      refine (HO1.out w701 (HBW.out.trans (But.to_below Kw701.out HBW.out.size (fun k hk q => by have := HL3.out; omega)))).mono ?_
      rintro ev w702 ⟨rfl, bw702⟩
      try go_wp2_with fail
      obtain ⟨Kw702, fw702⟩ := st_call Kw701.out bw702
      have Kw702 := Lib.hid Kw702
      have Tw702_0 := Lib.hid (fw702 _ _ Tw701_0.out)
      clear bw702 fw702
      refine hK2.out _ _ Kw702.out (fun hHeld2 => ?_)
      clear hK2 K2
      try simp only [pu]
      refine tk (i := 9) (v := ?v8) rfl ?y8 ?r8
      case y8 => (intro w hSw; (try dsimp only at hSw); go_simp; (try with_reducible rfl))
      try simp only [pu]
      refine wpAnyH_ready (rs := [10]) (by kernel_rfl) (by simp) ?_
      refine AllReadyH.cons (i := 10) rfl (fun K2 hK2 => ?_) AllReadyH.nil
      rw [if_pos (by rfl)]
      refine wp_store_mid 23 _ _ rfl G (i * 32) vn rfl rfl (there_row Tw702_0.out (by rw [Zvn.out]; rw [HC.out.1]; omega)) Ivn.out Ovn.out ?_
      obtain ⟨w703, hw703⟩ : ∃ x, w702.setCells G (i * 32) vn.toList = x := ⟨_, rfl⟩
      obtain ⟨Kw703, Tw703_0, fw703⟩ := st_mid Kw702.out hw703 (fun _ => rfl) Tw702_0.out
      have Kw703 := Lib.hid Kw703
      have Tw703_0 := Lib.hid Tw703_0
      clear fw703
      rw [hw703]
      clear hw703
      refine hK2.out _ _ Kw703.out (fun hHeld2 => ?_)
      clear hK2 K2
      try simp only [pu]
      refine wpAnyH_done (by kernel_rfl) ?_ _
      have KE : Hid (But (· = G) wr w703) := Lib.hid Kw703.out
      have TE := Lib.hid Tw703_0.out
      rw [HLN.out] at TE
      go_wp2
      go_roundw
      case rel => exact ⟨i + 1, _, by omega, by go_num, Lib.hid (HC.out.set hlt HF.out), TE, Lib.hid (HB.out.step KE.out (fun _ _ q => q))⟩
      case measure => simp [intOf]; omega
    · obtain rfl : i = 67 := by omega
      have HL := Lib.hid (HC.out.hin HF.out HR.out (by omega))
      go_wp2_with fail
      go_ret
      exact ⟨G, by have := HL3.out; omega, rfl, HL.out, ⟨cs, HC.out.1, .inr ⟨G, 67, cs.toArray, rfl, by have := HL3.out; omega, HR.out, Nat.le_refl _, by unfold maxLen; omega, by simp [HC.out.1], List.take_of_length_le (Nat.le_of_eq HC.out.1)⟩⟩, HBW.out⟩
set_option maxRecDepth 100000 in
set_option maxHeartbeats 8000000 in
theorem rec_any (m : List UInt8) (A : Option Addr) (c : Nat) (L : List (List UInt8)) (w : World) (hm : m.length = 32) (hL : HIn w A 67 c L) (hK : KTab 17 w) :
    Calls Tryz.prog 34 #[hv m, .slice A 67 c] w fun ev w' => ev = .returned (.tuple #[hv (recB m L), .nilIface]) ∧ Below w.heap.size w w' := by
  obtain ⟨v0, ev0, Hv0, Zv0, Iv0, Ov0⟩ := row_of m hm
  obtain ⟨vr, evr, Hvr, Zvr, Ivr, Ovr⟩ := row_of (recB m L) (endB_length _)
  obtain ⟨mk, hml, hmk⟩ := make_hashes 67 (by omega)
  have hmk2 : ∀ w, (Instr.makeSlice 24 (.int .i64 67) (.int .i64 67)).run Tryz.prog w = .ok (.slice (some ⟨w.heap.size, 0, none⟩) 67 67) (w.alloc (.cells mk.toArray 23)) := hmk
  have hd67 := digB_length hm
  obtain ⟨dv, hdv⟩ : ∃ y, (((digB m).map Int.ofNat).map (Value.int .i64)).toArray = y := ⟨_, rfl⟩
  have Zdv : Hid (dv.size = 67) := Lib.hid (by rw [← hdv]; simp [hd67])
  have Idv : Hid ((Tryz.prog.info? 132).map (·.size) = some dv.size) := Lib.hid (by rw [Zdv.out]; kernel_rfl)
  have Odv : Hid (dv.all (·.oneCell') = true) := Lib.hid (by rw [← hdv]; simp [Value.oneCell'])
  have HDC : Hid (∀ (w' : World) (g i : Nat), i < 67 → w'.heap[g]? = some (.cells dv 132 (0, 0)) → w'.cell? ⟨g, i, none⟩ = some (.int .i64 ((digB m).getD i 0 : Nat))) := Lib.hid (fun w' g i hi hg => by
    rw [cell_of_row w' g i dv 132 (0, 0) hg, ← hdv, List.getElem?_toArray, List.getElem?_map, List.getElem?_map, List.getD_eq_getElem?_getD, List.getElem?_eq_getElem (by omega)]; rfl)
  have HD15 : Hid (∀ i, i < 67 → (digB m).getD i 0 ≤ 15) := Lib.hid (fun i hi => by
    rw [List.getD_eq_getElem?_getD, List.getElem?_eq_getElem (by omega)]
    exact digB_le hm _ (List.getElem_mem _))
  have hF32 : ∀ i, ((fun i => onH (15 - (digB m).getD i 0) (L.getD i [])) i).length = 32 := fun i => by
    by_cases h : i < 67
    · exact onH_length (by rw [List.getD_eq_getElem?_getD, List.getElem?_eq_getElem (by rw [hL.2.1]; exact h)]; exact hL.1 _ (List.getElem_mem _)) _
    · show (onH (15 - (digB m).getD i 0) (L.getD i [])).length = 32
      rw [List.getD_eq_getElem?_getD, List.getElem?_eq_none (by omega)]
      rw [show 15 - (none : Option Nat).getD 0 = 14 + 1 from rfl, onH_snoc]
      exact shaB_length _
  obtain ⟨wv, hwv⟩ : ∃ y9 : World, ((w.alloc (.cells v0 23)).alloc (.cells #[.int .u8 0, .int .u8 0, .int .u8 0, .int .u8 0, .int .u8 0, .int .u8 0, .int .u8 0, .int .u8 0, .int .u8 0, .int .u8 0, .int .u8 0, .int .u8 0, .int .u8 0, .int .u8 0, .int .u8 0, .int .u8 0, .int .u8 0, .int .u8 0, .int .u8 0, .int .u8 0, .int .u8 0, .int .u8 0, .int .u8 0, .int .u8 0, .int .u8 0, .int .u8 0, .int .u8 0, .int .u8 0, .int .u8 0, .int .u8 0, .int .u8 0, .int .u8 0] 23)) = y9 := ⟨_, rfl⟩
  have HBv : Hid (Below w.heap.size w wv) := Lib.hid (by rw [← hwv]; exact (((Below.refl _ _).alloc (by simp <;> omega) _).alloc (by simp <;> omega) _))
  have HSV : Hid (wv.heap.size = w.heap.size + 2) := Lib.hid (by rw [← hwv]; simp)
  have RA : Hid (wv.heap[w.heap.size]? = some (.cells v0 23 (0, 0))) := Lib.hid (by rw [← hwv]; exact (((Below.refl (w.alloc (.cells v0 23)).heap.size (w.alloc (.cells v0 23))).alloc (Nat.le_refl _) _).block w.heap.size (by simp <;> omega)).trans (heap_at _ _ _ (by simp <;> omega)))
  have RB : Hid (wv.heap[(w.heap.size + 1)]? = some (.cells #[.int .u8 0, .int .u8 0, .int .u8 0, .int .u8 0, .int .u8 0, .int .u8 0, .int .u8 0, .int .u8 0, .int .u8 0, .int .u8 0, .int .u8 0, .int .u8 0, .int .u8 0, .int .u8 0, .int .u8 0, .int .u8 0, .int .u8 0, .int .u8 0, .int .u8 0, .int .u8 0, .int .u8 0, .int .u8 0, .int .u8 0, .int .u8 0, .int .u8 0, .int .u8 0, .int .u8 0, .int .u8 0, .int .u8 0, .int .u8 0, .int .u8 0, .int .u8 0] 23 (0, 0))) := Lib.hid (by rw [← hwv]; exact heap_at _ _ _ (by simp <;> omega))
  have HWV := Lib.hid hwv
  have HKW := Lib.hid (fun (w' : World) (h : Below w.heap.size w w') => ktab_below hK h hK.lt)
  have HON := Lib.hid (fun (w' : World) (p : List UInt8) (hp : p.length = 32) (n : Nat) (hn : n ≤ 15) (h : Below w.heap.size w w') => on_any p n w' hp (by omega) (HKW.out w' h))
  have HEN := Lib.hid (fun (w' : World) (G : Nat) (h : Below w.heap.size w w') (hL : HIn w' (some ⟨G, 0, none⟩) 67 67 ((List.range 67).map (fun i => onH (15 - (digB m).getD i 0) (L.getD i [])))) => end_any _ 67 67 _ w' hL (by omega) (HKW.out w' h))
  have HRD : Hid (Calls Tryz.prog 120 #[.agg v0] wv fun ev w' => ev = .returned (.agg dv) ∧ Below wv.heap.size wv w') := Lib.hid (by
    have := read_any m wv hm
    rw [hdv, ev0] at this; exact this)
  have HF := Lib.hid hF32
  have HC0 := Lib.hid (FillC.new (fun i => onH (15 - (digB m).getD i 0) (L.getD i [])) hml)
  have HLL := Lib.hid hL
  have EVR := Lib.hid (show hv (endB ((List.range 67).map (fun i => onH (15 - (digB m).getD i 0) (L.getD i [])))) = .agg vr from evr)
  rw [ev0, evr]
  clear hK hL hm ev0 evr hwv hF32 hml hmk hdv hd67
  go_enter Tryz.func34, Tryz.ntmps34
  go_upto_region 1 with fail
  rw [HWV.out]
  go_wp2_with (refine wpList_load_row rfl 23 _ rfl w.heap.size rfl 23 v0 (0, 0) _ RA.out Tryz.underlying23 rfl Iv0.out ?_)
  refine HRD.out.mono ?_
  rintro ev w1 ⟨rfl, b1⟩
  have B1 := Lib.hid b1
  clear b1
  go_upto_region 4 with (refine wpList_store_row_any rfl 132 _ _ rfl w1.heap.size dv rfl rfl 132 _ (heap_at _ _ _ rfl) Idv.out (by rw [Zdv.out, zero67]; rfl) Odv.out ?_; intro w2 hbN hgN hsN; have B2 : Hid (Below w1.heap.size w1 w2) := Lib.hid (((Below.refl _ w1).alloc (Nat.le_refl _) _).trans (hbN.to_below (by simp) (fun k hk q => by omega))); have RD2 := Lib.hid hgN; have S2 : Hid (w2.heap.size = w1.heap.size + 1) := Lib.hid (hsN.trans (by simp)); clear hbN hgN hsN)
  go_upto_region 5 with fail
  obtain ⟨w3, hw3⟩ : ∃ x, w2.alloc (.cells mk.toArray 23) = x := ⟨_, rfl⟩
  obtain ⟨G, hG⟩ : ∃ x, w2.heap.size = x := ⟨_, rfl⟩
  obtain ⟨D5, hD5⟩ : ∃ x, w1.heap.size = x := ⟨_, rfl⟩
  have B3 : Hid (Below G w2 w3) := Lib.hid (by rw [← hw3]; exact (Below.refl _ _).alloc (by omega) _)
  have RG3 : Hid (w3.heap[G]? = some (.cells mk.toArray 23 (0, 0))) := Lib.hid (by rw [← hw3, ← hG]; exact heap_at _ _ _ rfl)
  have RD3 : Hid (w3.heap[D5]? = some (.cells dv 132 (0, 0))) := Lib.hid (by rw [← hD5]; exact (B3.out.block _ (by have := S2.out; omega)).trans RD2.out)
  have S3 : Hid (G = D5 + 1 ∧ w3.heap.size = G + 1 ∧ wv.heap.size ≤ D5) := Lib.hid ⟨by have := S2.out; omega, by rw [← hw3]; simp [hG], by have := B1.out.size; omega⟩
  have BW3 : Hid (Below wv.heap.size wv w3) := Lib.hid ((B1.out.trans (B2.out.mono B1.out.size)).trans (B3.out.mono (by have := S3.out; omega)))
  rw [hw3, hG, hD5]
  clear hmk2 hw3 hG hD5
  go_wp2_with fail
  go_loopw [19] (fun k wr => ∃ (i : Nat) (cs : List Value), i ≤ 67 ∧ k = .int .i64 i ∧ Hid (FillC cs 67 (fun i => onH (15 - (digB m).getD i 0) (L.getD i [])) i) ∧ Hid (wr.heap[G]? = some (.cells cs.toArray 23 (0, 0))) ∧ Hid (But (· = G) w3 wr)) (fun k _ => 67 - (intOf k).toNat)
  case atStart => exact ⟨0, mk, Nat.zero_le _, rfl, HC0, RG3, Lib.hid (But.refl _ _)⟩
  case round =>
    obtain ⟨i, cs, hi, rfl, HC, HR, HB⟩ := hrel
    have HL3 : Hid (w.heap.size + 2 ≤ D5 ∧ D5 + 1 = G ∧ G < w3.heap.size ∧ w3.heap.size ≤ wr.heap.size) := Lib.hid ⟨by have := S3.out; have := HSV.out; omega, by have := S3.out; omega, by have := S3.out; omega, HB.out.size⟩
    have HBW : Hid (Below w.heap.size w wr) := Lib.hid (HBv.out.trans ((BW3.out.mono HBv.out.size).trans (HB.out.to_below (by have := HL3.out; omega) (fun k hk q => by have := HL3.out; omega))))
    by_cases hlt : i < 67
    · obtain ⟨d, hd⟩ : ∃ d, (digB m).getD i 0 = d := ⟨_, rfl⟩
      have hd15 := HD15.out i hlt
      rw [hd] at hd15
      obtain ⟨p, hp⟩ : ∃ p, L[i]? = some p := ⟨_, List.getElem?_eq_getElem (by have := HLL.out.2.1; omega)⟩
      have hpd : L.getD i [] = p := by rw [List.getD_eq_getElem?_getD, hp]; rfl
      obtain ⟨g, o, rfl, gl, rp, pl⟩ := HLL.out.row hp
      obtain ⟨vp, evp, Hvp, Zvp, Ivp, Ovp⟩ := row_of p pl
      obtain ⟨lvp, hlvp⟩ : ∃ q, bytesV p = q := ⟨_, rfl⟩
      have Elvp : Hid (lvp.toArray = vp) := Lib.hid (by rw [← hlvp]; exact Hvp.out)
      have Ilvp : Hid ((Tryz.prog.info? 23).map (·.size) = some lvp.length) := Lib.hid (by rw [← hlvp, bytesV_length, pl]; kernel_rfl)
      have KP : Hid (∀ w', But (· = G) wr w' → w'.rangeAt g (o + i * 32) lvp) := Lib.hid (fun w' h => by
        rw [← hlvp]
        exact rangeAt_below (HBW.out.trans (But.to_below h HBW.out.size (fun k hk q => by have := HL3.out; omega))) rp gl)
      obtain ⟨vn, evn, Hvn, Zvn, Ivn, Ovn⟩ := row_of ((fun i => onH (15 - (digB m).getD i 0) (L.getD i [])) i) (HF.out i)
      have HLN : Hid (vn.toList = bytesV ((fun i => onH (15 - (digB m).getD i 0) (L.getD i [])) i)) := Lib.hid (by rw [← Hvn.out])
      have HO1 : Hid (∀ w', Below w.heap.size w w' → Calls Tryz.prog 121 #[.agg lvp.toArray, .int .i64 ((15 - d : Nat) : Int)] w' fun ev w2 => ev = .returned (.agg vn) ∧ Below w'.heap.size w' w2) := Lib.hid (fun w' h => by
        have := HON.out w' p pl (15 - d) (by omega) h
        rw [Elvp.out, ← evp, show Value.agg vn = hv (onH (15 - d) p) by rw [← evn, ← hd, ← hpd]]; exact this)
      have RDr : Hid (wr.heap[D5]? = some (.cells dv 132 (0, 0))) := Lib.hid ((HB.out.same _ (by have := HL3.out; omega) (by have := HL3.out; omega)).trans RD3.out)
      have KD : Hid (∀ w', But (· = G) wr w' → w'.cell? ⟨D5, i, none⟩ = some (.int .i64 d)) := Lib.hid (fun w' h => by
        rw [← hd]
        exact HDC.out w' D5 i hlt ((h.same _ (by have := HL3.out; omega) (by have := HL3.out; omega)).trans RDr.out))
      have i0 : (0 : Int) ≤ i := by omega
      have i1 : (i : Int) < 67 := by omega
      have hw15 : IntKind.i64.wrap (15 - (d : Int)) = ((15 - d : Nat) : Int) := by rw [IntWalk.i64_in _ (by omega)]; omega
      clear evp evn hd hlvp hp hpd rp gl pl
      go_upto_region 8 with fail
      refine wp_region_held_drew (S := But (· = G) wr) (by kernel_rfl) (But.refl _ _).drew (fun hHeld => ?_)
      refine tk (i := 0) (v := ?v9) rfl ?y9 ?r9
      case y9 => (intro w hSw; (try dsimp only at hSw); go_simp; (try with_reducible rfl))
      try simp only [pu]
      refine tk (i := 1) (v := ?v10) rfl ?y10 ?r10
      case y10 => (intro w hSw; (try dsimp only at hSw); go_simp; (try with_reducible rfl))
      try simp only [pu]
      refine tk (i := 2) (v := ?v11) rfl ?y11 ?r11
      case y11 => (intro w hSw; (try dsimp only at hSw); go_simp; (try with_reducible rfl))
      try simp only [pu]
      refine tk (i := 3) (v := ?v12) rfl ?y12 ?r12
      case y12 => (intro w hSw; (try dsimp only at hSw); go_simp; (try with_reducible rfl))
      try simp only [pu]
      refine tk (i := 4) (v := ?v13) rfl ?y13 ?r13
      case y13 => (intro w hSw; (try dsimp only at hSw); go_simp; (try with_reducible rfl))
      try simp only [pu]
      refine tw (i := 5) rfl (yieldsIf_load_mid (by rfl) 23 _ (by rfl) g (o + i * 32) (by rfl) lvp _ (fun w h => KP.out w h) Tryz.underlying23 (by rfl) Ilvp.out) ?_
      try simp only [pu]
      refine tk (i := 6) (v := ?v15) rfl ?y15 ?r15
      case y15 => (intro w hSw; (try dsimp only at hSw); go_simp; (try with_reducible rfl))
      try simp only [pu]
      refine tk (i := 7) (v := ?v16) rfl ?y16 ?r16
      case y16 => (intro w hSw; (try dsimp only at hSw); go_simp; (try with_reducible rfl))
      try simp only [pu]
      refine tk (i := 8) (v := ?v17) rfl ?y17 ?r17
      case y17 => (intro w hSw; (try dsimp only at hSw); have z0 := KD.out w hSw; go_simp; (try with_reducible rfl))
      try simp only [pu]
      refine tk (i := 9) (v := ?v18) rfl ?y18 ?r18
      case y18 => (intro w hSw; (try dsimp only at hSw); go_simp; (try with_reducible rfl))
      try simp only [pu]
      refine wpAnyH_ready (rs := [10]) (by kernel_rfl) (by simp) ?_
      refine AllReadyH.cons (i := 10) rfl (fun K2 hK2 => ?_) AllReadyH.nil
      go_simp
      go_at_call 121
      refine (HO1.out wr.drew (HBW.out.trans (But.to_below ((But.refl (· = G) wr).drew) HBW.out.size (fun k hk q => by have := HL3.out; omega)))).mono ?_
      rintro ev w704 ⟨rfl, bw704⟩
      try go_wp2_with fail
      obtain ⟨Kw704, fw704⟩ := st_call ((But.refl (· = G) wr).drew) bw704
      have Kw704 := Lib.hid Kw704
      have Tw704_0 := Lib.hid (fw704 _ _ (show wr.drew.heap[G]? = _ from HR.out))
      clear bw704 fw704
      refine hK2.out _ _ Kw704.out (fun hHeld2 => ?_)
      clear hK2 K2
      try simp only [pu]
      refine tk (i := 11) (v := ?v19) rfl ?y19 ?r19
      case y19 => (intro w hSw; (try dsimp only at hSw); go_simp; (try with_reducible rfl))
      try simp only [pu]
      refine wpAnyH_ready (rs := [12]) (by kernel_rfl) (by simp) ?_
      refine AllReadyH.cons (i := 12) rfl (fun K2 hK2 => ?_) AllReadyH.nil
      rw [if_pos (by rfl)]
      refine wp_store_mid 23 _ _ rfl G (i * 32) vn rfl rfl (there_row Tw704_0.out (by rw [Zvn.out]; rw [HC.out.1]; omega)) Ivn.out Ovn.out ?_
      obtain ⟨w705, hw705⟩ : ∃ x, w704.setCells G (i * 32) vn.toList = x := ⟨_, rfl⟩
      obtain ⟨Kw705, Tw705_0, fw705⟩ := st_mid Kw704.out hw705 (fun _ => rfl) Tw704_0.out
      have Kw705 := Lib.hid Kw705
      have Tw705_0 := Lib.hid Tw705_0
      clear fw705
      rw [hw705]
      clear hw705
      refine hK2.out _ _ Kw705.out (fun hHeld2 => ?_)
      clear hK2 K2
      try simp only [pu]
      refine wpAnyH_done (by kernel_rfl) ?_ _
      have KE : Hid (But (· = G) wr w705) := Lib.hid Kw705.out
      have TE := Lib.hid Tw705_0.out
      rw [HLN.out] at TE
      go_wp2
      go_roundw
      case rel => exact ⟨i + 1, _, by omega, by go_num, Lib.hid (HC.out.set hlt HF.out), TE, Lib.hid (HB.out.step KE.out (fun _ _ q => q))⟩
      case measure => simp [intOf]; omega
    · obtain rfl : i = 67 := by omega
      have HL := Lib.hid (HC.out.hin HF.out HR.out (by omega))
      have RBr : Hid (wr.heap[w.heap.size + 1]? = some (.cells #[.int .u8 0, .int .u8 0, .int .u8 0, .int .u8 0, .int .u8 0, .int .u8 0, .int .u8 0, .int .u8 0, .int .u8 0, .int .u8 0, .int .u8 0, .int .u8 0, .int .u8 0, .int .u8 0, .int .u8 0, .int .u8 0, .int .u8 0, .int .u8 0, .int .u8 0, .int .u8 0, .int .u8 0, .int .u8 0, .int .u8 0, .int .u8 0, .int .u8 0, .int .u8 0, .int .u8 0, .int .u8 0, .int .u8 0, .int .u8 0, .int .u8 0, .int .u8 0] 23 (0, 0))) := Lib.hid ((HB.out.same _ (by have := HL3.out; omega) (by have := HL3.out; omega)).trans ((BW3.out.block _ (by have := HSV.out; omega)).trans RB.out))
      go_wp2_with fail
      refine (HEN.out wr G HBW.out HL.out).mono ?_
      rw [EVR.out]
      rintro ev w4 ⟨rfl, b1⟩
      have HG := Lib.hid ((b1.block _ (by have := HL3.out; omega)).trans RBr.out)
      have HF1 := Lib.hid (HBW.out.trans (b1.mono HBW.out.size))
      clear b1
      go_wp2_with (refine wpList_store_row rfl 23 _ _ rfl (w.heap.size + 1) vr rfl rfl 23 _ HG.out Ivr.out (by rw [Zvr.out]; rfl) Ovr.out ?_)
      refine bodyPost_ret (v := .tuple #[.agg vr, .nilIface]) (results_row_tmp rfl _ _ (w.heap.size + 1) 23 vr (0, 0) _ rfl (setRow_heap _ _ _ _ _ _ HG.out) Tryz.underlying23 rfl Ivr.out _ rfl) rfl ⟨rfl, below_setRow HF1.out _ _ (by omega)⟩

end Go.Proofs.YtnpblpbcchminaaGreatDoor
