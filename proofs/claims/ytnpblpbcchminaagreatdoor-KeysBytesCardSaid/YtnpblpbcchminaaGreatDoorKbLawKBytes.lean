import Derived.Test.YtnpblpbcchminaaGreatDoorKbKBytesAid
/- cartularylaw23.KeysBytes. Condition: the table reads as listed. -/
namespace Go.Proofs.YtnpblpbcchminaaGreatDoor
open Go.ChangeShapes Go.WideShapes Go.ChangeAt Go.RowKit
set_option linter.unusedVariables false

set_option maxRecDepth 100000 in
set_option maxHeartbeats 8000000 in
theorem kbytes_any (a : Nat → Addr) (x : Int) (m n : Nat) (A A2 : Option Addr) (c c2 : Nat) (C P : List (List UInt8)) (b : ByteArray) (w : World) (hE : Env w.heap.size a w) (hC : HIn w A m c C) (hP : HIn w A2 n c2 P) (hm9 : m ≤ 9000000000000000000) (hn9 : n ≤ 9000000000000000000) (hb9 : b.size ≤ 9000000000000000000) :
    Calls Tryz.prog 5 #[.agg #[.int .i64 x, .slice A m c, .slice A2 n c2], .string b] w fun e w' => e = .returned (.bool true) ∧ Below w.heap.size w w' := by
  obtain ⟨sv, hsv9⟩ : ∃ y : Array Value, #[.int .i64 x, .slice A m c, .slice A2 n c2] = y := ⟨_, rfl⟩
  have Zsv : Hid (sv.size = 3) := Lib.hid (by rw [← hsv9]; rfl)
  have Isv : Hid ((Tryz.prog.info? 26).map (·.size) = some sv.size) := Lib.hid (by rw [Zsv.out]; kernel_rfl)
  have Osv : Hid (sv.all (·.oneCell') = true) := Lib.hid (by rw [← hsv9]; simp [Value.oneCell'])
  have Hsv9 := Lib.hid hsv9
  obtain ⟨wv, hwv⟩ : ∃ y9 : World, (w.alloc (.cells sv 26)) = y9 := ⟨_, rfl⟩
  have HBv : Hid (Below w.heap.size w wv) := Lib.hid (by rw [← hwv]; exact ((Below.refl _ _).alloc (by simp <;> omega) _))
  have HSV : Hid (wv.heap.size = w.heap.size + 1) := Lib.hid (by rw [← hwv]; simp)
  have RS : Hid (wv.heap[w.heap.size]? = some (.cells sv 26 (0, 0))) := Lib.hid (by rw [← hwv]; exact heap_at _ _ _ (by simp <;> omega))
  have HWV := Lib.hid hwv
  have hsvv := HSV.out
  have RS0 := RS.out
  rw [← hsv9] at RS0
  have z1 : wv.cell? ⟨w.heap.size, 1, none⟩ = some (.slice A m c) := (cell_of_row wv _ 1 _ 26 (0, 0) RS0).trans rfl
  have z2 : wv.cell? ⟨w.heap.size, 2, none⟩ = some (.slice A2 n c2) := (cell_of_row wv _ 2 _ 26 (0, 0) RS0).trans rfl
  have HE := Lib.hid hE
  have HC0 := Lib.hid hC
  have HP0 := Lib.hid hP
  have hby := beyond3 m n b.size wv hm9 hn9 hb9
  rw [hsvv] at hby
  have HBY := Lib.hid hby
  clear hby
  have HLV : Hid (∀ w', Below w.heap.size w w' → Calls Tryz.prog 12 #[] w' fun ev w2 => ev = .returned (.bool true) ∧ Below w'.heap.size w' w2) := Lib.hid (fun w' hb => lives23_any a w.heap.size w' (HE.out.step hb))
  obtain ⟨ev2, hev2⟩ : ∃ y, errK a (dK b) = y := ⟨_, rfl⟩
  obtain ⟨fv2, hfv29⟩ : ∃ y : Array Value, #[.int .i64 (dK b), .int .i64 (if dK b = 0 then 0 else -1)] = y := ⟨_, rfl⟩
  have Zfv2 : Hid (fv2.size = 2) := Lib.hid (by rw [← hfv29]; rfl)
  have Ifv2 : Hid ((Tryz.prog.info? 34).map (·.size) = some fv2.size) := Lib.hid (by rw [Zfv2.out]; kernel_rfl)
  have Ofv2 : Hid (fv2.all (·.oneCell') = true) := Lib.hid (by rw [← hfv29]; simp [Value.oneCell'])
  have Hfv29 := Lib.hid hfv29
  have hfk2 : faultV (dK b) = .agg fv2 := by unfold faultV; rw [hfv29]
  have HDC : Hid (∀ w', Below w.heap.size w w' → Calls Tryz.prog 28 #[.string b] w' fun ev w2 => (∃ A1 c1 A2 c2 ys1 ys2, ev = .returned (.tuple #[.agg #[.int .i64 (dX b), .slice A1 (dM b) c1, .slice A2 (dN b) c2], ev2]) ∧ HIn w2 A1 (dM b) c1 (dC b) ∧ HIn w2 A2 (dN b) c2 (dP b) ∧
      w2.ownsRow w'.heap.size 23 32 (.slice A1 (dM b) c1) (dM b) ys1 ∧ w2.ownsRow w'.heap.size 23 32 (.slice A2 (dN b) c2) (dN b) ys2 ∧ ((Value.slice A1 (dM b) c1).ownBlock = none ∨ (Value.slice A1 (dM b) c1).ownBlock ≠ (Value.slice A2 (dN b) c2).ownBlock)) ∧ Below w'.heap.size w' w2) := Lib.hid (fun w' hb => by
    have := dec_uni a w.heap.size b w' (HE.out.step hb) (by omega)
    rw [hev2] at this; exact this)
  have HRD : Hid (∀ w', Below w.heap.size w w' → Calls Tryz.prog 29 #[.string b] w' fun ev w2 => (∃ A1 c1 A2 c2, ev = .returned (.tuple #[.agg #[.int .i64 (dX b), .slice A1 (dM b) c1, .slice A2 (dN b) c2], .agg fv2]) ∧ HIn w2 A1 (dM b) c1 (dC b) ∧ HIn w2 A2 (dN b) c2 (dP b)) ∧ Below w'.heap.size w' w2) := Lib.hid (fun w' hb => by
    have := rdec_uni b w' (by omega)
    rw [hfk2] at this; exact this)
  have HS2 : Hid (∀ w', Below w.heap.size w w' → Calls Tryz.prog 8 #[ev2, .agg fv2] w' fun ev w2 => ev = .returned (.bool true) ∧ Below w'.heap.size w' w2) := Lib.hid (fun w' hb => by
    have := same_fault a w.heap.size (dK b) w' (HE.out.step hb).laid (by unfold dK; split <;> omega)
    rw [hev2, hfk2] at this; exact this)
  rw [hsv9]
  clear hwv hsv9 hE hC hP RS0 hev2 hfk2 hfv29
  go_enter Tryz.func5, Tryz.ntmps5
  go_upto_region 1 with fail
  rw [HWV.out]
  go_wp2_with fail
  refine HBY.out.mono ?_
  rintro ev w0 ⟨rfl, rfl⟩
  obtain ⟨w1, hw1⟩ : ∃ y, wv.alloc (.cells #[.int .i64 (m : Nat), .int .i64 (n : Nat), .int .i64 (b.size : Nat)] 3) = y := ⟨_, rfl⟩
  have B1 : Hid (Below w.heap.size w w1) := Lib.hid (by rw [← hw1]; exact HBv.out.alloc HBv.out.size _)
  have Rs1 : Hid (w1.heap[w.heap.size]? = some (.cells sv 26 (0, 0))) := Lib.hid (by rw [← hw1]; exact (((Below.refl wv.heap.size wv).alloc (Nat.le_refl _) _).block _ (by omega)).trans RS.out)
  rw [hw1]
  clear hw1 z1 z2
  by_cases hg : 1048576 < m + n + b.size
  · rw [show decide (1048576 < m + n + b.size) = true from decide_eq_true hg]
    go_wp2_with fail
    go_ret
    exact ⟨rfl, B1.out⟩
  · rw [show decide (1048576 < m + n + b.size) = false from decide_eq_false hg]
    have hmm : m ≤ 1048576 := by omega
    have hnn : n ≤ 1048576 := by omega
    clear hg hm9 hn9 hb9
    have HC_1 := Lib.hid (HC0.out.below B1.out)
    have HP_1 := Lib.hid (HP0.out.below B1.out)
    have HTS : Hid (Calls Tryz.prog 7 #[.agg sv] w1 fun ev w' => (∃ G1 G2, ev = .returned (.agg #[.int .i64 x, .slice (some ⟨G1, 0, none⟩) m (m + 1), .slice (some ⟨G2, 0, none⟩) n (n + 1)]) ∧ Twin w' G1 C ∧ Twin w' G2 P) ∧ Below w1.heap.size w1 w') := Lib.hid (by
      have := twin_signed x m n A A2 c c2 C P w1 HC_1.out HP_1.out hmm hnn
      rw [Hsv9.out] at this
      exact this.mono (fun ev w' ⟨G1, G2, h1, h2, h3, h4⟩ => ⟨⟨G1, G2, h1, h2, h3⟩, h4⟩))
    go_wp2_with (first | (refine wpList_load_row_g rfl 26 _ rfl w.heap.size rfl 26 sv (0, 0) _ Rs1.out Tryz.underlying26 rfl Isv.out ?_))
    refine (HTS.out).mono ?_
    rintro ev w2 ⟨⟨G1, G2, rfl, ht1, ht2⟩, b⟩
    have B2 := Lib.hid (B1.out.trans (b.mono B1.out.size))
    have Rs2 := Lib.hid ((b.block _ (Array.getElem?_eq_some_iff.1 Rs1.out).1).trans Rs1.out)
    have HC_2 := Lib.hid (HC_1.out.below b)
    have HP_2 := Lib.hid (HP_1.out.below b)
    clear b
    have HT1_2 := Lib.hid ht1
    have HT2_2 := Lib.hid ht2
    obtain ⟨svi, hsvi9⟩ : ∃ y : Array Value, #[.int .i64 x, .slice (some ⟨G1, 0, none⟩) m (m + 1), .slice (some ⟨G2, 0, none⟩) n (n + 1)] = y := ⟨_, rfl⟩
    have Zsvi : Hid (svi.size = 3) := Lib.hid (by rw [← hsvi9]; rfl)
    have Isvi : Hid ((Tryz.prog.info? 26).map (·.size) = some svi.size) := Lib.hid (by rw [Zsvi.out]; kernel_rfl)
    have Osvi : Hid (svi.all (·.oneCell') = true) := Lib.hid (by rw [← hsvi9]; simp [Value.oneCell'])
    have Hsvi9 := Lib.hid hsvi9
    rw [hsvi9]
    clear hsvi9 ht1 ht2
    go_upto_region 4 with (refine wpList_store_row_any rfl 26 _ _ rfl w2.heap.size svi rfl rfl 26 _ (heap_at _ _ _ rfl) Isvi.out (by rw [Zsvi.out]; rfl) Osvi.out ?_; intro w3 hbN hgN hsN; have BA : Hid (Below w2.heap.size w2 w3) := Lib.hid (((Below.refl _ w2).alloc (Nat.le_refl _) _).trans (hbN.to_below (by simp) (fun k hk q => by omega))); have RA := Lib.hid hgN; clear hbN hgN hsN)
    obtain ⟨Gi, hGi⟩ : ∃ y, w2.heap.size = y := ⟨_, rfl⟩
    have HGi : Hid (w.heap.size ≤ Gi ∧ Gi < w3.heap.size) := Lib.hid ⟨by rw [← hGi]; exact B2.out.size, by rw [← hGi]; exact (Array.getElem?_eq_some_iff.1 RA.out).1⟩
    have B3 := Lib.hid (B2.out.trans (BA.out.mono B2.out.size))
    have Rs3 := Lib.hid ((BA.out.block _ (Array.getElem?_eq_some_iff.1 Rs2.out).1).trans Rs2.out)
    have HC_3 := Lib.hid (HC_2.out.below BA.out)
    have HP_3 := Lib.hid (HP_2.out.below BA.out)
    have HT1_3 := Lib.hid (HT1_2.out.below BA.out)
    have HT2_3 := Lib.hid (HT2_2.out.below BA.out)
    have Ri3 : Hid (w3.heap[Gi]? = some (.cells svi 26 (0, 0))) := Lib.hid (by rw [← hGi]; exact RA.out)
    rw [hGi]
    clear hGi BA RA
    obtain ⟨p0, ke, hk16, hke9, hkr9⟩ := enc_both a w.heap.size x m n A A2 (some ⟨G1, 0, none⟩) (some ⟨G2, 0, none⟩) c c2 (m + 1) (n + 1) C P w3 (HE.out.step B3.out) HC_3.out HP_3.out (HT1_3.out.hin HC_3.out.2.1 hmm) (HT2_3.out.hin HP_3.out.2.1 hnn)
    obtain ⟨ev1, hev1⟩ : ∃ y, errK a ke = y := ⟨_, rfl⟩
    obtain ⟨fv1, hfv19⟩ : ∃ y : Array Value, #[.int .i64 ke, .int .i64 (if ke = 0 then 0 else -1)] = y := ⟨_, rfl⟩
    have Zfv1 : Hid (fv1.size = 2) := Lib.hid (by rw [← hfv19]; rfl)
    have Ifv1 : Hid ((Tryz.prog.info? 34).map (·.size) = some fv1.size) := Lib.hid (by rw [Zfv1.out]; kernel_rfl)
    have Ofv1 : Hid (fv1.all (·.oneCell') = true) := Lib.hid (by rw [← hfv19]; simp [Value.oneCell'])
    have Hfv19 := Lib.hid hfv19
    have hfk : faultV ke = .agg fv1 := by unfold faultV; rw [hfv19]
    rw [Hsvi9.out, hev1] at hke9
    rw [Hsv9.out, hfk] at hkr9
    have HKE := Lib.hid hke9
    have HKR := Lib.hid hkr9
    have HS1 : Hid (∀ w', Below w.heap.size w w' → Calls Tryz.prog 8 #[ev1, .agg fv1] w' fun ev w2 => ev = .returned (.bool true) ∧ Below w'.heap.size w' w2) := Lib.hid (fun w' hb => by
      have := same_fault a w.heap.size ke w' (HE.out.step hb).laid hk16
      rw [hev1, hfk] at this; exact this)
    have SE_3 : Hid (Below w3.heap.size w3 w3) := Lib.hid (Below.refl _ _)
    clear hke9 hkr9 hev1 hk16 hfk hfv19
    go_wp2_with (first | (refine wpList_load_row_g rfl 26 _ rfl Gi rfl 26 svi (0, 0) _ Ri3.out Tryz.underlying26 rfl Isvi.out ?_))
    refine (HKE.out w3 SE_3.out).mono ?_
    rintro ev w4 ⟨rfl, b⟩
    have B4 := Lib.hid (B3.out.trans (b.mono B3.out.size))
    have Rs4 := Lib.hid ((b.block _ (Array.getElem?_eq_some_iff.1 Rs3.out).1).trans Rs3.out)
    have Ri4 := Lib.hid ((b.block _ (Array.getElem?_eq_some_iff.1 Ri3.out).1).trans Ri3.out)
    have HC_4 := Lib.hid (HC_3.out.below b)
    have HP_4 := Lib.hid (HP_3.out.below b)
    have HT1_4 := Lib.hid (HT1_3.out.below b)
    have HT2_4 := Lib.hid (HT2_3.out.below b)
    have SE_4 := Lib.hid (SE_3.out.trans (b.mono SE_3.out.size))
    clear b
    go_wp2_with (first | (refine wpList_load_row_g rfl 26 _ rfl w.heap.size rfl 26 sv (0, 0) _ Rs4.out Tryz.underlying26 rfl Isv.out ?_))
    refine (HKR.out w4 SE_4.out).mono ?_
    rintro ev w5 ⟨rfl, b⟩
    have B5 := Lib.hid (B4.out.trans (b.mono B4.out.size))
    have Rs5 := Lib.hid ((b.block _ (Array.getElem?_eq_some_iff.1 Rs4.out).1).trans Rs4.out)
    have Ri5 := Lib.hid ((b.block _ (Array.getElem?_eq_some_iff.1 Ri4.out).1).trans Ri4.out)
    have HC_5 := Lib.hid (HC_4.out.below b)
    have HP_5 := Lib.hid (HP_4.out.below b)
    have HT1_5 := Lib.hid (HT1_4.out.below b)
    have HT2_5 := Lib.hid (HT2_4.out.below b)
    have SE_5 := Lib.hid (SE_4.out.trans (b.mono SE_4.out.size))
    clear b
    go_upto_region 6 with (refine wpList_store_row_any rfl 34 _ _ rfl w5.heap.size fv1 rfl rfl 34 _ (heap_at _ _ _ rfl) Ifv1.out (by rw [Zfv1.out]; rfl) Ofv1.out ?_; intro w6 hbN hgN hsN; have BA : Hid (Below w5.heap.size w5 w6) := Lib.hid (((Below.refl _ w5).alloc (Nat.le_refl _) _).trans (hbN.to_below (by simp) (fun k hk q => by omega))); have RA := Lib.hid hgN; clear hbN hgN hsN)
    obtain ⟨Gf, hGf⟩ : ∃ y, w5.heap.size = y := ⟨_, rfl⟩
    have HGf : Hid (w.heap.size ≤ Gf ∧ Gf < w6.heap.size) := Lib.hid ⟨by rw [← hGf]; exact B5.out.size, by rw [← hGf]; exact (Array.getElem?_eq_some_iff.1 RA.out).1⟩
    have B6 := Lib.hid (B5.out.trans (BA.out.mono B5.out.size))
    have Rs6 := Lib.hid ((BA.out.block _ (Array.getElem?_eq_some_iff.1 Rs5.out).1).trans Rs5.out)
    have Ri6 := Lib.hid ((BA.out.block _ (Array.getElem?_eq_some_iff.1 Ri5.out).1).trans Ri5.out)
    have HC_6 := Lib.hid (HC_5.out.below BA.out)
    have HP_6 := Lib.hid (HP_5.out.below BA.out)
    have HT1_6 := Lib.hid (HT1_5.out.below BA.out)
    have HT2_6 := Lib.hid (HT2_5.out.below BA.out)
    have SE_6 := Lib.hid (SE_5.out.trans (BA.out.mono SE_5.out.size))
    have Rf6 : Hid (w6.heap[Gf]? = some (.cells fv1 34 (0, 0))) := Lib.hid (by rw [← hGf]; exact RA.out)
    rw [hGf]
    clear hGf BA RA
    go_wp2_with fail
    refine (HDC.out w6 B6.out).mono ?_
    rintro ev w7 ⟨⟨A1x, c1x, A2x, c2x, y1x, y2x, rfl, hx1, hx2, ox1, ox2, dx⟩, b⟩
    have B7 := Lib.hid (B6.out.trans (b.mono B6.out.size))
    have Rs7 := Lib.hid ((b.block _ (Array.getElem?_eq_some_iff.1 Rs6.out).1).trans Rs6.out)
    have Ri7 := Lib.hid ((b.block _ (Array.getElem?_eq_some_iff.1 Ri6.out).1).trans Ri6.out)
    have Rf7 := Lib.hid ((b.block _ (Array.getElem?_eq_some_iff.1 Rf6.out).1).trans Rf6.out)
    have HC_7 := Lib.hid (HC_6.out.below b)
    have HP_7 := Lib.hid (HP_6.out.below b)
    have HT1_7 := Lib.hid (HT1_6.out.below b)
    have HT2_7 := Lib.hid (HT2_6.out.below b)
    have SE_7 := Lib.hid (SE_6.out.trans (b.mono SE_6.out.size))
    clear b
    have H1x_7 := Lib.hid hx1
    have H2x_7 := Lib.hid hx2
    have O1x_7 := Lib.hid (own_mono ox1 B6.out.size)
    have O2x_7 := Lib.hid (own_mono ox2 B6.out.size)
    have DDx := Lib.hid dx
    clear hx1 hx2 ox1 ox2 dx
    obtain ⟨svx, hsvx9⟩ : ∃ y : Array Value, #[.int .i64 (dX b), .slice A1x (dM b) c1x, .slice A2x (dN b) c2x] = y := ⟨_, rfl⟩
    have Zsvx : Hid (svx.size = 3) := Lib.hid (by rw [← hsvx9]; rfl)
    have Isvx : Hid ((Tryz.prog.info? 26).map (·.size) = some svx.size) := Lib.hid (by rw [Zsvx.out]; kernel_rfl)
    have Osvx : Hid (svx.all (·.oneCell') = true) := Lib.hid (by rw [← hsvx9]; simp [Value.oneCell'])
    have Hsvx9 := Lib.hid hsvx9
    rw [hsvx9]
    clear hsvx9
    go_upto_region 7 with (refine wpList_store_row_any rfl 26 _ _ rfl w7.heap.size svx rfl rfl 26 _ (heap_at _ _ _ rfl) Isvx.out (by rw [Zsvx.out]; rfl) Osvx.out ?_; intro w8 hbN hgN hsN; have BA : Hid (Below w7.heap.size w7 w8) := Lib.hid (((Below.refl _ w7).alloc (Nat.le_refl _) _).trans (hbN.to_below (by simp) (fun k hk q => by omega))); have RA := Lib.hid hgN; clear hbN hgN hsN)
    obtain ⟨Gx, hGx⟩ : ∃ y, w7.heap.size = y := ⟨_, rfl⟩
    have HGx : Hid (w.heap.size ≤ Gx ∧ Gx < w8.heap.size) := Lib.hid ⟨by rw [← hGx]; exact B7.out.size, by rw [← hGx]; exact (Array.getElem?_eq_some_iff.1 RA.out).1⟩
    have B8 := Lib.hid (B7.out.trans (BA.out.mono B7.out.size))
    have Rs8 := Lib.hid ((BA.out.block _ (Array.getElem?_eq_some_iff.1 Rs7.out).1).trans Rs7.out)
    have Ri8 := Lib.hid ((BA.out.block _ (Array.getElem?_eq_some_iff.1 Ri7.out).1).trans Ri7.out)
    have Rf8 := Lib.hid ((BA.out.block _ (Array.getElem?_eq_some_iff.1 Rf7.out).1).trans Rf7.out)
    have HC_8 := Lib.hid (HC_7.out.below BA.out)
    have HP_8 := Lib.hid (HP_7.out.below BA.out)
    have HT1_8 := Lib.hid (HT1_7.out.below BA.out)
    have HT2_8 := Lib.hid (HT2_7.out.below BA.out)
    have SE_8 := Lib.hid (SE_7.out.trans (BA.out.mono SE_7.out.size))
    have H1x_8 := Lib.hid (H1x_7.out.below BA.out)
    have H2x_8 := Lib.hid (H2x_7.out.below BA.out)
    have O1x_8 := Lib.hid (own_below O1x_7.out BA.out (Nat.le_refl _))
    have O2x_8 := Lib.hid (own_below O2x_7.out BA.out (Nat.le_refl _))
    have Rx8 : Hid (w8.heap[Gx]? = some (.cells svx 26 (0, 0))) := Lib.hid (by rw [← hGx]; exact RA.out)
    rw [hGx]
    clear hGx BA RA
    go_wp2_with fail
    refine (HDC.out w8 B8.out).mono ?_
    rintro ev w9 ⟨⟨A1y, c1y, A2y, c2y, y1y, y2y, rfl, hx1, hx2, ox1, ox2, dx⟩, b⟩
    have B9 := Lib.hid (B8.out.trans (b.mono B8.out.size))
    have Rs9 := Lib.hid ((b.block _ (Array.getElem?_eq_some_iff.1 Rs8.out).1).trans Rs8.out)
    have Ri9 := Lib.hid ((b.block _ (Array.getElem?_eq_some_iff.1 Ri8.out).1).trans Ri8.out)
    have Rf9 := Lib.hid ((b.block _ (Array.getElem?_eq_some_iff.1 Rf8.out).1).trans Rf8.out)
    have Rx9 := Lib.hid ((b.block _ (Array.getElem?_eq_some_iff.1 Rx8.out).1).trans Rx8.out)
    have HC_9 := Lib.hid (HC_8.out.below b)
    have HP_9 := Lib.hid (HP_8.out.below b)
    have HT1_9 := Lib.hid (HT1_8.out.below b)
    have HT2_9 := Lib.hid (HT2_8.out.below b)
    have SE_9 := Lib.hid (SE_8.out.trans (b.mono SE_8.out.size))
    have H1x_9 := Lib.hid (H1x_8.out.below b)
    have H2x_9 := Lib.hid (H2x_8.out.below b)
    have O1x_9 := Lib.hid (own_below O1x_8.out b (Nat.le_refl _))
    have O2x_9 := Lib.hid (own_below O2x_8.out b (Nat.le_refl _))
    clear b
    have D11 := Lib.hid (own_apart O1x_8.out ox1)
    have D12 := Lib.hid (own_apart O1x_8.out ox2)
    have D21 := Lib.hid (own_apart O2x_8.out ox1)
    have D22 := Lib.hid (own_apart O2x_8.out ox2)
    have H1y_9 := Lib.hid hx1
    have H2y_9 := Lib.hid hx2
    have O1y_9 := Lib.hid (own_mono ox1 B8.out.size)
    have O2y_9 := Lib.hid (own_mono ox2 B8.out.size)
    have DDy := Lib.hid dx
    clear hx1 hx2 ox1 ox2 dx
    obtain ⟨svy, hsvy9⟩ : ∃ y : Array Value, #[.int .i64 (dX b), .slice A1y (dM b) c1y, .slice A2y (dN b) c2y] = y := ⟨_, rfl⟩
    have Zsvy : Hid (svy.size = 3) := Lib.hid (by rw [← hsvy9]; rfl)
    have Isvy : Hid ((Tryz.prog.info? 26).map (·.size) = some svy.size) := Lib.hid (by rw [Zsvy.out]; kernel_rfl)
    have Osvy : Hid (svy.all (·.oneCell') = true) := Lib.hid (by rw [← hsvy9]; simp [Value.oneCell'])
    have Hsvy9 := Lib.hid hsvy9
    rw [hsvy9]
    clear hsvy9
    go_upto_region 8 with (refine wpList_store_row_any rfl 26 _ _ rfl w9.heap.size svy rfl rfl 26 _ (heap_at _ _ _ rfl) Isvy.out (by rw [Zsvy.out]; rfl) Osvy.out ?_; intro w10 hbN hgN hsN; have BA : Hid (Below w9.heap.size w9 w10) := Lib.hid (((Below.refl _ w9).alloc (Nat.le_refl _) _).trans (hbN.to_below (by simp) (fun k hk q => by omega))); have RA := Lib.hid hgN; clear hbN hgN hsN)
    obtain ⟨Gy, hGy⟩ : ∃ y, w9.heap.size = y := ⟨_, rfl⟩
    have HGy : Hid (w.heap.size ≤ Gy ∧ Gy < w10.heap.size) := Lib.hid ⟨by rw [← hGy]; exact B9.out.size, by rw [← hGy]; exact (Array.getElem?_eq_some_iff.1 RA.out).1⟩
    have B10 := Lib.hid (B9.out.trans (BA.out.mono B9.out.size))
    have Rs10 := Lib.hid ((BA.out.block _ (Array.getElem?_eq_some_iff.1 Rs9.out).1).trans Rs9.out)
    have Ri10 := Lib.hid ((BA.out.block _ (Array.getElem?_eq_some_iff.1 Ri9.out).1).trans Ri9.out)
    have Rf10 := Lib.hid ((BA.out.block _ (Array.getElem?_eq_some_iff.1 Rf9.out).1).trans Rf9.out)
    have Rx10 := Lib.hid ((BA.out.block _ (Array.getElem?_eq_some_iff.1 Rx9.out).1).trans Rx9.out)
    have HC_10 := Lib.hid (HC_9.out.below BA.out)
    have HP_10 := Lib.hid (HP_9.out.below BA.out)
    have HT1_10 := Lib.hid (HT1_9.out.below BA.out)
    have HT2_10 := Lib.hid (HT2_9.out.below BA.out)
    have SE_10 := Lib.hid (SE_9.out.trans (BA.out.mono SE_9.out.size))
    have H1x_10 := Lib.hid (H1x_9.out.below BA.out)
    have H2x_10 := Lib.hid (H2x_9.out.below BA.out)
    have O1x_10 := Lib.hid (own_below O1x_9.out BA.out (Nat.le_refl _))
    have O2x_10 := Lib.hid (own_below O2x_9.out BA.out (Nat.le_refl _))
    have H1y_10 := Lib.hid (H1y_9.out.below BA.out)
    have H2y_10 := Lib.hid (H2y_9.out.below BA.out)
    have O1y_10 := Lib.hid (own_below O1y_9.out BA.out (Nat.le_refl _))
    have O2y_10 := Lib.hid (own_below O2y_9.out BA.out (Nat.le_refl _))
    have Ry10 : Hid (w10.heap[Gy]? = some (.cells svy 26 (0, 0))) := Lib.hid (by rw [← hGy]; exact RA.out)
    rw [hGy]
    clear hGy BA RA
    go_wp2_with fail
    refine (HRD.out w10 B10.out).mono ?_
    rintro ev w11 ⟨⟨A1z, c1z, A2z, c2z, rfl, hx1, hx2⟩, b⟩
    have B11 := Lib.hid (B10.out.trans (b.mono B10.out.size))
    have Rs11 := Lib.hid ((b.block _ (Array.getElem?_eq_some_iff.1 Rs10.out).1).trans Rs10.out)
    have Ri11 := Lib.hid ((b.block _ (Array.getElem?_eq_some_iff.1 Ri10.out).1).trans Ri10.out)
    have Rf11 := Lib.hid ((b.block _ (Array.getElem?_eq_some_iff.1 Rf10.out).1).trans Rf10.out)
    have Rx11 := Lib.hid ((b.block _ (Array.getElem?_eq_some_iff.1 Rx10.out).1).trans Rx10.out)
    have Ry11 := Lib.hid ((b.block _ (Array.getElem?_eq_some_iff.1 Ry10.out).1).trans Ry10.out)
    have HC_11 := Lib.hid (HC_10.out.below b)
    have HP_11 := Lib.hid (HP_10.out.below b)
    have HT1_11 := Lib.hid (HT1_10.out.below b)
    have HT2_11 := Lib.hid (HT2_10.out.below b)
    have SE_11 := Lib.hid (SE_10.out.trans (b.mono SE_10.out.size))
    have H1x_11 := Lib.hid (H1x_10.out.below b)
    have H2x_11 := Lib.hid (H2x_10.out.below b)
    have O1x_11 := Lib.hid (own_below O1x_10.out b (Nat.le_refl _))
    have O2x_11 := Lib.hid (own_below O2x_10.out b (Nat.le_refl _))
    have H1y_11 := Lib.hid (H1y_10.out.below b)
    have H2y_11 := Lib.hid (H2y_10.out.below b)
    have O1y_11 := Lib.hid (own_below O1y_10.out b (Nat.le_refl _))
    have O2y_11 := Lib.hid (own_below O2y_10.out b (Nat.le_refl _))
    clear b
    have H1z_11 := Lib.hid hx1
    have H2z_11 := Lib.hid hx2
    clear hx1 hx2
    obtain ⟨svz, hsvz9⟩ : ∃ y : Array Value, #[.int .i64 (dX b), .slice A1z (dM b) c1z, .slice A2z (dN b) c2z] = y := ⟨_, rfl⟩
    have Zsvz : Hid (svz.size = 3) := Lib.hid (by rw [← hsvz9]; rfl)
    have Isvz : Hid ((Tryz.prog.info? 26).map (·.size) = some svz.size) := Lib.hid (by rw [Zsvz.out]; kernel_rfl)
    have Osvz : Hid (svz.all (·.oneCell') = true) := Lib.hid (by rw [← hsvz9]; simp [Value.oneCell'])
    have Hsvz9 := Lib.hid hsvz9
    rw [hsvz9]
    clear hsvz9
    go_upto_region 9 with (first | (refine wpList_store_row_any rfl 26 _ _ rfl w11.heap.size svz rfl rfl 26 _ (heap_two rfl) Isvz.out (by rw [Zsvz.out]; rfl) Osvz.out ?_; intro wN hbN hgN hsN; have CA := Lib.hid hbN; have RA := Lib.hid hgN; have SA := Lib.hid hsN; have RA2 := Lib.hid ((hbN.same (w11.heap.size + 1) (by simp) (by omega)).trans (heap_two' rfl)); clear hbN hgN hsN) | (refine wpList_store_row_any rfl 34 _ _ rfl (w11.heap.size + 1) fv2 rfl rfl 34 _ RA2.out Ifv2.out (by rw [Zfv2.out]; rfl) Ofv2.out ?_; intro w12 hbN hgN hsN; have CB := Lib.hid hbN; have RB := Lib.hid hgN; have SB := Lib.hid hsN; clear hbN hgN hsN))
    have BA : Hid (Below w11.heap.size w11 w12) := Lib.hid ((((Below.refl _ w11).alloc (Nat.le_refl _) _).alloc (by simp) _).trans ((CA.out.to_below (by simp <;> omega) (fun k hk q => by omega)).trans (CB.out.to_below (by rw [SA.out]; simp <;> omega) (fun k hk q => by omega))))
    have RA3 := Lib.hid ((CB.out.same w11.heap.size (Array.getElem?_eq_some_iff.1 RA.out).1 (by omega)).trans RA.out)
    obtain ⟨Gz, hGz⟩ : ∃ y, w11.heap.size = y := ⟨_, rfl⟩
    have B12 := Lib.hid (B11.out.trans (BA.out.mono B11.out.size))
    have Rs12 := Lib.hid ((BA.out.block _ (Array.getElem?_eq_some_iff.1 Rs11.out).1).trans Rs11.out)
    have Ri12 := Lib.hid ((BA.out.block _ (Array.getElem?_eq_some_iff.1 Ri11.out).1).trans Ri11.out)
    have Rf12 := Lib.hid ((BA.out.block _ (Array.getElem?_eq_some_iff.1 Rf11.out).1).trans Rf11.out)
    have Rx12 := Lib.hid ((BA.out.block _ (Array.getElem?_eq_some_iff.1 Rx11.out).1).trans Rx11.out)
    have Ry12 := Lib.hid ((BA.out.block _ (Array.getElem?_eq_some_iff.1 Ry11.out).1).trans Ry11.out)
    have HC_12 := Lib.hid (HC_11.out.below BA.out)
    have HP_12 := Lib.hid (HP_11.out.below BA.out)
    have HT1_12 := Lib.hid (HT1_11.out.below BA.out)
    have HT2_12 := Lib.hid (HT2_11.out.below BA.out)
    have SE_12 := Lib.hid (SE_11.out.trans (BA.out.mono SE_11.out.size))
    have H1x_12 := Lib.hid (H1x_11.out.below BA.out)
    have H2x_12 := Lib.hid (H2x_11.out.below BA.out)
    have O1x_12 := Lib.hid (own_below O1x_11.out BA.out (Nat.le_refl _))
    have O2x_12 := Lib.hid (own_below O2x_11.out BA.out (Nat.le_refl _))
    have H1y_12 := Lib.hid (H1y_11.out.below BA.out)
    have H2y_12 := Lib.hid (H2y_11.out.below BA.out)
    have O1y_12 := Lib.hid (own_below O1y_11.out BA.out (Nat.le_refl _))
    have O2y_12 := Lib.hid (own_below O2y_11.out BA.out (Nat.le_refl _))
    have H1z_12 := Lib.hid (H1z_11.out.below BA.out)
    have H2z_12 := Lib.hid (H2z_11.out.below BA.out)
    have Rz12 : Hid (w12.heap[Gz]? = some (.cells svz 26 (0, 0))) := Lib.hid (by rw [← hGz]; exact RA3.out)
    have Rh12 : Hid (w12.heap[Gz + 1]? = some (.cells fv2 34 (0, 0))) := Lib.hid (by rw [← hGz]; exact RB.out)
    rw [hGz]
    clear hGz BA RA RA2 RA3 RB CA CB SA SB
    have HL9 : Hid (∀ w', Below w12.heap.size w12 w' → Calls Tryz.prog 11 #[.agg svi, .agg sv] w' fun ev w2 => ev = .returned (.bool true) ∧ Below w'.heap.size w' w2) := Lib.hid (fun w' hb => by
      have := left_signed x m n A A2 c c2 G1 G2 C P w' (HC_12.out.below hb) (HP_12.out.below hb) (HT1_12.out.below hb) (HT2_12.out.below hb) hmm hnn
      rw [Hsvi9.out, Hsv9.out] at this; exact this)
    have HSx : Hid (∀ w', Below w12.heap.size w12 w' → Calls Tryz.prog 22 #[.agg svx, .agg svz] w' fun ev w2 => ev = .returned (.bool true) ∧ Below w'.heap.size w' w2) := Lib.hid (fun w' hb => by
      have := same_yes (dX b) (dM b) (dN b) A1x A2x A1z A2z c1x c2x c1z c2z (dC b) (dP b) w' (by have := dM_le b; omega) (by have := dN_le b; omega) (H1x_12.out.below hb) (H2x_12.out.below hb) (H1z_12.out.below hb) (H2z_12.out.below hb)
      rw [Hsvx9.out, Hsvz9.out] at this; exact this)
    have HSy : Hid (∀ w', Below w12.heap.size w12 w' → Calls Tryz.prog 22 #[.agg svy, .agg svz] w' fun ev w2 => ev = .returned (.bool true) ∧ Below w'.heap.size w' w2) := Lib.hid (fun w' hb => by
      have := same_yes (dX b) (dM b) (dN b) A1y A2y A1z A2z c1y c2y c1z c2z (dC b) (dP b) w' (by have := dM_le b; omega) (by have := dN_le b; omega) (H1y_12.out.below hb) (H2y_12.out.below hb) (H1z_12.out.below hb) (H2z_12.out.below hb)
      rw [Hsvy9.out, Hsvz9.out] at this; exact this)
    have SF_12 : Hid (Below w12.heap.size w12 w12) := Lib.hid (Below.refl _ _)
    go_wp2_with (first | (refine wpList_load_row_g rfl 34 _ rfl Gf rfl 34 fv1 (0, 0) _ Rf12.out Tryz.underlying34 rfl Ifv1.out ?_))
    refine (HS1.out w12 B12.out).mono ?_
    rintro ev w13 ⟨rfl, b⟩
    have B13 := Lib.hid (B12.out.trans (b.mono B12.out.size))
    have Rs13 := Lib.hid ((b.block _ (Array.getElem?_eq_some_iff.1 Rs12.out).1).trans Rs12.out)
    have Ri13 := Lib.hid ((b.block _ (Array.getElem?_eq_some_iff.1 Ri12.out).1).trans Ri12.out)
    have Rf13 := Lib.hid ((b.block _ (Array.getElem?_eq_some_iff.1 Rf12.out).1).trans Rf12.out)
    have Rx13 := Lib.hid ((b.block _ (Array.getElem?_eq_some_iff.1 Rx12.out).1).trans Rx12.out)
    have Ry13 := Lib.hid ((b.block _ (Array.getElem?_eq_some_iff.1 Ry12.out).1).trans Ry12.out)
    have Rz13 := Lib.hid ((b.block _ (Array.getElem?_eq_some_iff.1 Rz12.out).1).trans Rz12.out)
    have Rh13 := Lib.hid ((b.block _ (Array.getElem?_eq_some_iff.1 Rh12.out).1).trans Rh12.out)
    have HC_13 := Lib.hid (HC_12.out.below b)
    have HP_13 := Lib.hid (HP_12.out.below b)
    have HT1_13 := Lib.hid (HT1_12.out.below b)
    have HT2_13 := Lib.hid (HT2_12.out.below b)
    have SE_13 := Lib.hid (SE_12.out.trans (b.mono SE_12.out.size))
    have H1x_13 := Lib.hid (H1x_12.out.below b)
    have H2x_13 := Lib.hid (H2x_12.out.below b)
    have O1x_13 := Lib.hid (own_below O1x_12.out b (Nat.le_refl _))
    have O2x_13 := Lib.hid (own_below O2x_12.out b (Nat.le_refl _))
    have H1y_13 := Lib.hid (H1y_12.out.below b)
    have H2y_13 := Lib.hid (H2y_12.out.below b)
    have O1y_13 := Lib.hid (own_below O1y_12.out b (Nat.le_refl _))
    have O2y_13 := Lib.hid (own_below O2y_12.out b (Nat.le_refl _))
    have H1z_13 := Lib.hid (H1z_12.out.below b)
    have H2z_13 := Lib.hid (H2z_12.out.below b)
    have SF_13 := Lib.hid (SF_12.out.trans (b.mono SF_12.out.size))
    clear b
    go_wp2_with (first | (refine wpList_load_row_g rfl 26 _ rfl Gi rfl 26 svi (0, 0) _ Ri13.out Tryz.underlying26 rfl Isvi.out ?_) | (refine wpList_load_row_g rfl 26 _ rfl w.heap.size rfl 26 sv (0, 0) _ Rs13.out Tryz.underlying26 rfl Isv.out ?_))
    refine (HL9.out w13 SF_13.out).mono ?_
    rintro ev w14 ⟨rfl, b⟩
    have B14 := Lib.hid (B13.out.trans (b.mono B13.out.size))
    have Rs14 := Lib.hid ((b.block _ (Array.getElem?_eq_some_iff.1 Rs13.out).1).trans Rs13.out)
    have Ri14 := Lib.hid ((b.block _ (Array.getElem?_eq_some_iff.1 Ri13.out).1).trans Ri13.out)
    have Rf14 := Lib.hid ((b.block _ (Array.getElem?_eq_some_iff.1 Rf13.out).1).trans Rf13.out)
    have Rx14 := Lib.hid ((b.block _ (Array.getElem?_eq_some_iff.1 Rx13.out).1).trans Rx13.out)
    have Ry14 := Lib.hid ((b.block _ (Array.getElem?_eq_some_iff.1 Ry13.out).1).trans Ry13.out)
    have Rz14 := Lib.hid ((b.block _ (Array.getElem?_eq_some_iff.1 Rz13.out).1).trans Rz13.out)
    have Rh14 := Lib.hid ((b.block _ (Array.getElem?_eq_some_iff.1 Rh13.out).1).trans Rh13.out)
    have HC_14 := Lib.hid (HC_13.out.below b)
    have HP_14 := Lib.hid (HP_13.out.below b)
    have HT1_14 := Lib.hid (HT1_13.out.below b)
    have HT2_14 := Lib.hid (HT2_13.out.below b)
    have SE_14 := Lib.hid (SE_13.out.trans (b.mono SE_13.out.size))
    have H1x_14 := Lib.hid (H1x_13.out.below b)
    have H2x_14 := Lib.hid (H2x_13.out.below b)
    have O1x_14 := Lib.hid (own_below O1x_13.out b (Nat.le_refl _))
    have O2x_14 := Lib.hid (own_below O2x_13.out b (Nat.le_refl _))
    have H1y_14 := Lib.hid (H1y_13.out.below b)
    have H2y_14 := Lib.hid (H2y_13.out.below b)
    have O1y_14 := Lib.hid (own_below O1y_13.out b (Nat.le_refl _))
    have O2y_14 := Lib.hid (own_below O2y_13.out b (Nat.le_refl _))
    have H1z_14 := Lib.hid (H1z_13.out.below b)
    have H2z_14 := Lib.hid (H2z_13.out.below b)
    have SF_14 := Lib.hid (SF_13.out.trans (b.mono SF_13.out.size))
    clear b
    go_wp2_with (first | (refine wpList_load_row_g rfl 26 _ rfl Gx rfl 26 svx (0, 0) _ Rx14.out Tryz.underlying26 rfl Isvx.out ?_) | (refine wpList_load_row_g rfl 26 _ rfl Gz rfl 26 svz (0, 0) _ Rz14.out Tryz.underlying26 rfl Isvz.out ?_))
    refine (HSx.out w14 SF_14.out).mono ?_
    rintro ev w15 ⟨rfl, b⟩
    have B15 := Lib.hid (B14.out.trans (b.mono B14.out.size))
    have Rs15 := Lib.hid ((b.block _ (Array.getElem?_eq_some_iff.1 Rs14.out).1).trans Rs14.out)
    have Ri15 := Lib.hid ((b.block _ (Array.getElem?_eq_some_iff.1 Ri14.out).1).trans Ri14.out)
    have Rf15 := Lib.hid ((b.block _ (Array.getElem?_eq_some_iff.1 Rf14.out).1).trans Rf14.out)
    have Rx15 := Lib.hid ((b.block _ (Array.getElem?_eq_some_iff.1 Rx14.out).1).trans Rx14.out)
    have Ry15 := Lib.hid ((b.block _ (Array.getElem?_eq_some_iff.1 Ry14.out).1).trans Ry14.out)
    have Rz15 := Lib.hid ((b.block _ (Array.getElem?_eq_some_iff.1 Rz14.out).1).trans Rz14.out)
    have Rh15 := Lib.hid ((b.block _ (Array.getElem?_eq_some_iff.1 Rh14.out).1).trans Rh14.out)
    have HC_15 := Lib.hid (HC_14.out.below b)
    have HP_15 := Lib.hid (HP_14.out.below b)
    have HT1_15 := Lib.hid (HT1_14.out.below b)
    have HT2_15 := Lib.hid (HT2_14.out.below b)
    have SE_15 := Lib.hid (SE_14.out.trans (b.mono SE_14.out.size))
    have H1x_15 := Lib.hid (H1x_14.out.below b)
    have H2x_15 := Lib.hid (H2x_14.out.below b)
    have O1x_15 := Lib.hid (own_below O1x_14.out b (Nat.le_refl _))
    have O2x_15 := Lib.hid (own_below O2x_14.out b (Nat.le_refl _))
    have H1y_15 := Lib.hid (H1y_14.out.below b)
    have H2y_15 := Lib.hid (H2y_14.out.below b)
    have O1y_15 := Lib.hid (own_below O1y_14.out b (Nat.le_refl _))
    have O2y_15 := Lib.hid (own_below O2y_14.out b (Nat.le_refl _))
    have H1z_15 := Lib.hid (H1z_14.out.below b)
    have H2z_15 := Lib.hid (H2z_14.out.below b)
    have SF_15 := Lib.hid (SF_14.out.trans (b.mono SF_14.out.size))
    clear b
    go_wp2_with (first | (refine wpList_load_row_g rfl 26 _ rfl Gy rfl 26 svy (0, 0) _ Ry15.out Tryz.underlying26 rfl Isvy.out ?_) | (refine wpList_load_row_g rfl 26 _ rfl Gz rfl 26 svz (0, 0) _ Rz15.out Tryz.underlying26 rfl Isvz.out ?_))
    refine (HSy.out w15 SF_15.out).mono ?_
    rintro ev w16 ⟨rfl, b⟩
    have B16 := Lib.hid (B15.out.trans (b.mono B15.out.size))
    have Rs16 := Lib.hid ((b.block _ (Array.getElem?_eq_some_iff.1 Rs15.out).1).trans Rs15.out)
    have Ri16 := Lib.hid ((b.block _ (Array.getElem?_eq_some_iff.1 Ri15.out).1).trans Ri15.out)
    have Rf16 := Lib.hid ((b.block _ (Array.getElem?_eq_some_iff.1 Rf15.out).1).trans Rf15.out)
    have Rx16 := Lib.hid ((b.block _ (Array.getElem?_eq_some_iff.1 Rx15.out).1).trans Rx15.out)
    have Ry16 := Lib.hid ((b.block _ (Array.getElem?_eq_some_iff.1 Ry15.out).1).trans Ry15.out)
    have Rz16 := Lib.hid ((b.block _ (Array.getElem?_eq_some_iff.1 Rz15.out).1).trans Rz15.out)
    have Rh16 := Lib.hid ((b.block _ (Array.getElem?_eq_some_iff.1 Rh15.out).1).trans Rh15.out)
    have HC_16 := Lib.hid (HC_15.out.below b)
    have HP_16 := Lib.hid (HP_15.out.below b)
    have HT1_16 := Lib.hid (HT1_15.out.below b)
    have HT2_16 := Lib.hid (HT2_15.out.below b)
    have SE_16 := Lib.hid (SE_15.out.trans (b.mono SE_15.out.size))
    have H1x_16 := Lib.hid (H1x_15.out.below b)
    have H2x_16 := Lib.hid (H2x_15.out.below b)
    have O1x_16 := Lib.hid (own_below O1x_15.out b (Nat.le_refl _))
    have O2x_16 := Lib.hid (own_below O2x_15.out b (Nat.le_refl _))
    have H1y_16 := Lib.hid (H1y_15.out.below b)
    have H2y_16 := Lib.hid (H2y_15.out.below b)
    have O1y_16 := Lib.hid (own_below O1y_15.out b (Nat.le_refl _))
    have O2y_16 := Lib.hid (own_below O2y_15.out b (Nat.le_refl _))
    have H1z_16 := Lib.hid (H1z_15.out.below b)
    have H2z_16 := Lib.hid (H2z_15.out.below b)
    have SF_16 := Lib.hid (SF_15.out.trans (b.mono SF_15.out.size))
    clear b
    go_wp2_with (first | (refine wpList_load_row_g rfl 34 _ rfl (Gz + 1) rfl 34 fv2 (0, 0) _ Rh16.out Tryz.underlying34 rfl Ifv2.out ?_))
    refine (HS2.out w16 B16.out).mono ?_
    rintro ev w17 ⟨rfl, b⟩
    have B17 := Lib.hid (B16.out.trans (b.mono B16.out.size))
    have Rs17 := Lib.hid ((b.block _ (Array.getElem?_eq_some_iff.1 Rs16.out).1).trans Rs16.out)
    have Ri17 := Lib.hid ((b.block _ (Array.getElem?_eq_some_iff.1 Ri16.out).1).trans Ri16.out)
    have Rf17 := Lib.hid ((b.block _ (Array.getElem?_eq_some_iff.1 Rf16.out).1).trans Rf16.out)
    have Rx17 := Lib.hid ((b.block _ (Array.getElem?_eq_some_iff.1 Rx16.out).1).trans Rx16.out)
    have Ry17 := Lib.hid ((b.block _ (Array.getElem?_eq_some_iff.1 Ry16.out).1).trans Ry16.out)
    have Rz17 := Lib.hid ((b.block _ (Array.getElem?_eq_some_iff.1 Rz16.out).1).trans Rz16.out)
    have Rh17 := Lib.hid ((b.block _ (Array.getElem?_eq_some_iff.1 Rh16.out).1).trans Rh16.out)
    have HC_17 := Lib.hid (HC_16.out.below b)
    have HP_17 := Lib.hid (HP_16.out.below b)
    have HT1_17 := Lib.hid (HT1_16.out.below b)
    have HT2_17 := Lib.hid (HT2_16.out.below b)
    have SE_17 := Lib.hid (SE_16.out.trans (b.mono SE_16.out.size))
    have H1x_17 := Lib.hid (H1x_16.out.below b)
    have H2x_17 := Lib.hid (H2x_16.out.below b)
    have O1x_17 := Lib.hid (own_below O1x_16.out b (Nat.le_refl _))
    have O2x_17 := Lib.hid (own_below O2x_16.out b (Nat.le_refl _))
    have H1y_17 := Lib.hid (H1y_16.out.below b)
    have H2y_17 := Lib.hid (H2y_16.out.below b)
    have O1y_17 := Lib.hid (own_below O1y_16.out b (Nat.le_refl _))
    have O2y_17 := Lib.hid (own_below O2y_16.out b (Nat.le_refl _))
    have H1z_17 := Lib.hid (H1z_16.out.below b)
    have H2z_17 := Lib.hid (H2z_16.out.below b)
    have SF_17 := Lib.hid (SF_16.out.trans (b.mono SF_16.out.size))
    clear b
    go_upto_region 12 with fail
    obtain ⟨w18, hw⟩ : ∃ y : World, w17.alloc (.cells #[.int .i64 0, .slice none 0 0, .slice none 0 0, .slice none 0 0, .slice none 0 0, .slice none 0 0, .slice none 0 0, .slice none 0 0, .slice none 0 0, .slice none 0 0, .slice none 0 0, .slice none 0 0, .slice none 0 0, .slice none 0 0, .slice none 0 0, .slice none 0 0, .slice none 0 0] 69) = y := ⟨_, rfl⟩
    obtain ⟨KB, hKB⟩ : ∃ y, w17.heap.size = y := ⟨_, rfl⟩
    have BA : Hid (Below w17.heap.size w17 w18) := Lib.hid (by rw [← hw]; exact (Below.refl _ _).alloc (Nat.le_refl _) _)
    have HBK : Hid (BAt w.heap.size KB [] (.slice none 0 0) w18) := Lib.hid (by
      have := (BAt.new w17).lower B17.out.size
      rw [hw, hKB] at this; exact this)
    have B18 := Lib.hid (B17.out.trans (BA.out.mono B17.out.size))
    have N1x : Hid ((Value.slice A1x (dM b) c1x).ownBlock ≠ some KB) := Lib.hid (own_ne_at O1x_17.out (by omega))
    have N1y : Hid ((Value.slice A1y (dM b) c1y).ownBlock ≠ some KB) := Lib.hid (own_ne_at O1y_17.out (by omega))
    have N2x : Hid ((Value.slice A2x (dN b) c2x).ownBlock ≠ some KB) := Lib.hid (own_ne_at O2x_17.out (by omega))
    have N2y : Hid ((Value.slice A2y (dN b) c2y).ownBlock ≠ some KB) := Lib.hid (own_ne_at O2y_17.out (by omega))
    have GY : Hid (Gy < KB ∧ KB < w18.heap.size) := Lib.hid ⟨by rw [← hKB]; exact (Array.getElem?_eq_some_iff.1 Ry17.out).1, HBK.out.bk.2⟩
    have Rs18 := Lib.hid ((BA.out.block _ (Array.getElem?_eq_some_iff.1 Rs17.out).1).trans Rs17.out)
    have Ri18 := Lib.hid ((BA.out.block _ (Array.getElem?_eq_some_iff.1 Ri17.out).1).trans Ri17.out)
    have Rf18 := Lib.hid ((BA.out.block _ (Array.getElem?_eq_some_iff.1 Rf17.out).1).trans Rf17.out)
    have Rx18 := Lib.hid ((BA.out.block _ (Array.getElem?_eq_some_iff.1 Rx17.out).1).trans Rx17.out)
    have Ry18 := Lib.hid ((BA.out.block _ (Array.getElem?_eq_some_iff.1 Ry17.out).1).trans Ry17.out)
    have Rz18 := Lib.hid ((BA.out.block _ (Array.getElem?_eq_some_iff.1 Rz17.out).1).trans Rz17.out)
    have Rh18 := Lib.hid ((BA.out.block _ (Array.getElem?_eq_some_iff.1 Rh17.out).1).trans Rh17.out)
    have HC_18 := Lib.hid (HC_17.out.below BA.out)
    have HP_18 := Lib.hid (HP_17.out.below BA.out)
    have HT1_18 := Lib.hid (HT1_17.out.below BA.out)
    have HT2_18 := Lib.hid (HT2_17.out.below BA.out)
    have SE_18 := Lib.hid (SE_17.out.trans (BA.out.mono SE_17.out.size))
    have H1x_18 := Lib.hid (H1x_17.out.below BA.out)
    have H2x_18 := Lib.hid (H2x_17.out.below BA.out)
    have O1x_18 := Lib.hid (own_below O1x_17.out BA.out (Nat.le_refl _))
    have O2x_18 := Lib.hid (own_below O2x_17.out BA.out (Nat.le_refl _))
    have H1y_18 := Lib.hid (H1y_17.out.below BA.out)
    have H2y_18 := Lib.hid (H2y_17.out.below BA.out)
    have O1y_18 := Lib.hid (own_below O1y_17.out BA.out (Nat.le_refl _))
    have O2y_18 := Lib.hid (own_below O2y_17.out BA.out (Nat.le_refl _))
    have H1z_18 := Lib.hid (H1z_17.out.below BA.out)
    have H2z_18 := Lib.hid (H2z_17.out.below BA.out)
    have SF_18 := Lib.hid (SF_17.out.trans (BA.out.mono SF_17.out.size))
    rw [hw, hKB]
    clear hw hKB BA
    have HG1 : Hid (Calls Tryz.prog 21 #[.pointer (some ⟨KB, 0, none⟩), .agg svx] w18 fun ev w' => ev = .returned (.tuple #[]) ∧ ∃ rv', BAt w.heap.size KB [⟨.slice A1x (dM b) c1x, dM b, 1⟩, ⟨.slice A2x (dN b) c2x, dN b, 2⟩] rv' w' ∧ Keeps w.heap.size KB w18 w' (.slice none 0 0) rv' ∧ Below w.heap.size w18 w') := Lib.hid (by
      have := book_signed w.heap.size KB [] (.slice none 0 0) (dX b) (dM b) (dN b) A1x A2x c1x c2x y1x y2x w18 HBK.out (by simp) O1x_18.out O2x_18.out (by have := dM_le b; omega) (by have := dN_le b; omega) N1x.out N2x.out (none_or _) (none_or _) DDx.out (fun t h ht => by simp at ht) (fun t h ht => by simp at ht)
      rw [Hsvx9.out] at this; exact this)
    go_wp2_with (first | (refine wpList_load_row_g rfl 26 _ rfl Gx rfl 26 svx (0, 0) _ Rx18.out Tryz.underlying26 rfl Isvx.out ?_))
    refine HG1.out.mono ?_
    rintro ev w19 ⟨rfl, rv1, hb1, kp1, bl1⟩
    have HBK1 := Lib.hid hb1
    have B19 := Lib.hid (B18.out.trans bl1)
    have Ry19 := Lib.hid ((kp1.2.2 Gy (Nat.lt_trans GY.out.1 GY.out.2) (Nat.ne_of_lt GY.out.1) (fun q => by cases q)).1.trans Ry18.out)
    obtain ⟨oa, ra⟩ := kp1.2.1 _ _ _ _ _ O1y_18.out N1y.out (none_or _)
    obtain ⟨ob, rb⟩ := kp1.2.1 _ _ _ _ _ O2y_18.out N2y.out (none_or _)
    have HG2 : Hid (Calls Tryz.prog 21 #[.pointer (some ⟨KB, 0, none⟩), .agg svy] w19 fun ev w' => ev = .returned (.tuple #[]) ∧ ∃ H rv', BAt w.heap.size KB H rv' w' ∧ H.length = 4 ∧ Below w.heap.size w19 w') := Lib.hid (by
      have := book_signed w.heap.size KB _ rv1 (dX b) (dM b) (dN b) A1y A2y c1y c2y y1y y2y w19 HBK1.out (by simp) oa ob (by have := dM_le b; omega) (by have := dN_le b; omega) N1y.out N2y.out ra rb DDy.out (fun t h ht => by
        match t, ht with
        | 0, ht => simp at ht; subst ht; exact D11.out
        | 1, ht => simp at ht; subst ht; exact D21.out
        | t + 2, ht => simp at ht) (fun t h ht => by
        match t, ht with
        | 0, ht => simp at ht; subst ht; exact D12.out
        | 1, ht => simp at ht; subst ht; exact D22.out
        | t + 2, ht => simp at ht)
      rw [Hsvy9.out] at this
      exact this.mono (fun ev w' q => ⟨q.1, _, q.2.choose, q.2.choose_spec.1, by simp, q.2.choose_spec.2.2⟩))
    clear hb1 kp1 bl1 oa ra ob rb
    go_wp2_with (first | (refine wpList_load_row_g rfl 26 _ rfl Gy rfl 26 svy (0, 0) _ Ry19.out Tryz.underlying26 rfl Isvy.out ?_))
    refine HG2.out.mono ?_
    rintro ev w20 ⟨rfl, H9, rv2, hb2, hl4, bl2⟩
    have HAP := Lib.hid (bat_apart w.heap.size KB H9 rv2 w20 hb2 (by omega) (by omega))
    have B20 := Lib.hid (B19.out.trans bl2)
    clear hb2 bl2 hl4
    go_wp2_with fail
    refine HAP.out.mono ?_
    rintro ev w21 ⟨rfl, b⟩
    have B21 := Lib.hid (B20.out.trans b)
    clear b
    go_wp2_with fail
    refine (HLV.out w21 B21.out).mono ?_
    rintro ev w22 ⟨rfl, b⟩
    have B22 := Lib.hid (B21.out.trans (b.mono B21.out.size))
    clear b
    go_wp2_with fail
    go_ret
    exact ⟨rfl, B22.out⟩
end Go.Proofs.YtnpblpbcchminaaGreatDoor
