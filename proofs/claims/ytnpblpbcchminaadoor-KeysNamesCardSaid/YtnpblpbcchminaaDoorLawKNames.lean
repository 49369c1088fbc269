/- cartularylaw23.KeysNames. Condition: the table reads as listed. -/
import Derived.Test.YtnpblpbcchminaaDoorKeysVer2
import Derived.Test.YtnpblpbcchminaaDoorKeysEvalD
namespace Go.Proofs.YtnpblpbcchminaaDoor
open Go.ChangeShapes Go.WideShapes Go.ChangeAt Go.RowKit
set_option linter.unusedVariables false
set_option maxRecDepth 100000 in
set_option maxHeartbeats 8000000 in
theorem knames_any (a : Nat → Addr) (w : World) (hE : Env w.heap.size a w) :
    Calls Tryd.prog 5 #[] w fun e w' => e = .returned (.bool true) ∧ Below w.heap.size w w' := by
  have HE := Lib.hid hE
  obtain ⟨L, hL⟩ : ∃ L, leavesK zeroH 1 = L := ⟨_, rfl⟩
  have HNEW : Hid (Calls Tryd.prog 7 #[.agg #[.int .u8 0, .int .u8 0, .int .u8 0, .int .u8 0, .int .u8 0, .int .u8 0, .int .u8 0, .int .u8 0, .int .u8 0, .int .u8 0, .int .u8 0, .int .u8 0, .int .u8 0, .int .u8 0, .int .u8 0, .int .u8 0, .int .u8 0, .int .u8 0, .int .u8 0, .int .u8 0, .int .u8 0, .int .u8 0, .int .u8 0, .int .u8 0, .int .u8 0, .int .u8 0, .int .u8 0, .int .u8 0, .int .u8 0, .int .u8 0, .int .u8 0, .int .u8 0], .int .i64 1] w fun ev w' => ∃ b v0 ls, w.heap.size ≤ b ∧ ev = .returned (.tuple #[.pointer (some ⟨b, 0, none⟩), .nilIface]) ∧ KAt w' b zeroH (rowB L) 1 0 v0 ls ∧ Below w.heap.size w w') := Lib.hid (by
    have := new_ok zeroH 1 w zeroH_length (by omega) hE.tab
    rw [zeroH_v, hL] at this; exact this)
  have HLL : Hid (L.length = 2 ^ 1) := Lib.hid (by rw [← hL]; exact leavesK_length _ _)
  have HLK : Hid (L = [leaf0L, leaf1L]) := Lib.hid (by rw [← hL]; exact leaves_eq)
  have HPR : Hid ((rowB L 1)[0]? = some rootL) := Lib.hid (by rw [rootK_at HLL.out, HLK.out, root_eq])
  have HSY : Hid (Says nodeH 0 (2 ^ 1 - 1) (kleafB (recB (msgB 0 (bOf ⟨#[97]⟩)) (sigB (ownB zeroH 0) (msgB 0 [97])))) [leaf1L] rootL) := Lib.hid (by
    have := says_key zeroH 1 0 [97] (by decide)
    rw [hL, HLK.out, path_eq, root_eq] at this
    exact this)
  obtain ⟨vp, evp, Hvp, Zvp, Ivp, Ovp⟩ := row_of rootL root_32
  have EVP := Lib.hid evp
  clear hE hL
  go_enter Tryd.func5, Tryd.ntmps5
  go_wp2_with fail
  refine HNEW.out.mono ?_
  rintro ev w1 ⟨b, v0, ls, hb, rfl, hK1, b1⟩
  have HK1 := Lib.hid hK1
  have B1 := Lib.hid b1
  have HBB := Lib.hid hb
  have hkb : b ≠ 17 := by have := HE.out.tab.lt; omega
  have HKB := Lib.hid hkb
  have HPU1 : Hid (Calls Tryd.prog 8 #[.pointer (some ⟨b, 0, none⟩)] w1 fun ev w' => ev = .returned (.agg vp) ∧ Below w1.heap.size w1 w') := Lib.hid (by
    have := kpub_any b zeroH (rowB L) 1 0 v0 ls w1 hK1 (by omega) rootL HPR.out
    rw [evp] at this; exact this)
  clear hK1 b1 hb hkb evp
  go_wp2_with fail
  refine HPU1.out.mono ?_
  rintro ev w2 ⟨rfl, b2⟩
  have B2 := Lib.hid (B1.out.trans (b2.mono B1.out.size))
  have HK2 := Lib.hid (HK1.out.below b2)
  clear b2
  go_upto_region 5 with (refine wpList_store_row_any rfl 23 _ _ rfl w2.heap.size vp rfl rfl 23 _ (heap_at _ _ _ rfl) Ivp.out (by rw [Zvp.out]; rfl) Ovp.out ?_; intro w3 hbN hgN hsN; have B3 : Hid (Below w2.heap.size w2 w3) := Lib.hid (((Below.refl _ w2).alloc (Nat.le_refl _) _).trans (hbN.to_below (by simp) (fun k hk q => by omega))); have R3 := Lib.hid hgN; clear hbN hgN hsN)
  obtain ⟨G3, hG3⟩ : ∃ y, w2.heap.size = y := ⟨_, rfl⟩
  have HG3 : Hid (b < G3) := Lib.hid (by rw [← hG3]; exact HK2.out.lt)
  have HK3 := Lib.hid (HK2.out.below B3.out)
  have BF3 := Lib.hid (B2.out.trans (B3.out.mono B2.out.size))
  have HSG : Hid (Calls Tryd.prog 9 #[.pointer (some ⟨b, 0, none⟩), .string ⟨#[97]⟩] w3 fun ev w' => ∃ G0 A c, ev = .returned (.tuple #[.agg #[.int .i64 0, .slice (some ⟨G0, 0, none⟩) 67 67, .slice A 1 c], .nilIface]) ∧ HIn w' (some ⟨G0, 0, none⟩) 67 67 (sigB (ownB zeroH 0) (msgB 0 [97])) ∧ HIn w' A 1 c [leaf1L] ∧ KAt w' b zeroH (rowB L) 1 1 v0 ls ∧ But (· = b) w3 w') := Lib.hid (by
    have q := ksign_ok b zeroH L 1 0 v0 ls ⟨#[97]⟩ w3 HK3.out (by omega) HLL.out (by decide) zeroH_length (Nat.le_of_lt (by decide)) (HE.out.step BF3.out).tab HKB.out
    rw [show pathK L 1 0 = [leaf1L] by rw [HLK.out]; exact path_eq] at q
    exact q)
  rw [hG3] at R3 ⊢
  clear hG3
  go_wp2_with fail
  refine HSG.out.mono ?_
  rintro ev w4 ⟨G0, A, c, rfl, hC, hP, hK4, hB4⟩
  obtain ⟨sv, hsv9⟩ : ∃ y : Array Value, #[.int .i64 0, .slice (some ⟨G0, 0, none⟩) 67 67, .slice A 1 c] = y := ⟨_, rfl⟩
  have Zsv : Hid (sv.size = 3) := Lib.hid (by rw [← hsv9]; rfl)
  have Isv : Hid ((Tryd.prog.info? 35).map (·.size) = some sv.size) := Lib.hid (by rw [Zsv.out]; kernel_rfl)
  have Osv : Hid (sv.all (·.oneCell') = true) := Lib.hid (by rw [← hsv9]; simp [Value.oneCell'])
  have Hsv9 := Lib.hid hsv9
  obtain ⟨t2, ht29⟩ : ∃ y : Array Value, #[.int .i64 2, .slice (some ⟨G0, 0, none⟩) 67 67, .slice A 1 c] = y := ⟨_, rfl⟩
  have Zt2 : Hid (t2.size = 3) := Lib.hid (by rw [← ht29]; rfl)
  have It2 : Hid ((Tryd.prog.info? 35).map (·.size) = some t2.size) := Lib.hid (by rw [Zt2.out]; kernel_rfl)
  have Ot2 : Hid (t2.all (·.oneCell') = true) := Lib.hid (by rw [← ht29]; simp [Value.oneCell'])
  have Ht29 := Lib.hid ht29
  obtain ⟨t64, ht649⟩ : ∃ y : Array Value, #[.int .i64 64, .slice (some ⟨G0, 0, none⟩) 67 67, .slice A 1 c] = y := ⟨_, rfl⟩
  have Zt64 : Hid (t64.size = 3) := Lib.hid (by rw [← ht649]; rfl)
  have It64 : Hid ((Tryd.prog.info? 35).map (·.size) = some t64.size) := Lib.hid (by rw [Zt64.out]; kernel_rfl)
  have Ot64 : Hid (t64.all (·.oneCell') = true) := Lib.hid (by rw [← ht649]; simp [Value.oneCell'])
  have Ht649 := Lib.hid ht649
  obtain ⟨t66, ht669⟩ : ∃ y : Array Value, #[.int .i64 0, .slice (some ⟨G0, 0, none⟩) 66 67, .slice A 1 c] = y := ⟨_, rfl⟩
  have Zt66 : Hid (t66.size = 3) := Lib.hid (by rw [← ht669]; rfl)
  have It66 : Hid ((Tryd.prog.info? 35).map (·.size) = some t66.size) := Lib.hid (by rw [Zt66.out]; kernel_rfl)
  have Ot66 : Hid (t66.all (·.oneCell') = true) := Lib.hid (by rw [← ht669]; simp [Value.oneCell'])
  have Ht669 := Lib.hid ht669
  have B4 : Hid (Below w.heap.size w w4) := Lib.hid (BF3.out.trans (hB4.to_below BF3.out.size (fun k hk q => by have := HBB.out; omega)))
  have RP4 := Lib.hid ((hB4.same _ (Array.getElem?_eq_some_iff.1 R3.out).1 (by have := HG3.out; omega)).trans R3.out)
  have HC0 := Lib.hid hC
  have HP0 := Lib.hid hP
  rw [hsv9]
  clear hsv9 ht29 ht649 ht669 hC hP hK4 hB4
  go_upto_region 6 with (refine wpList_store_row_any rfl 35 _ _ rfl w4.heap.size sv rfl rfl 35 _ (heap_at _ _ _ rfl) Isv.out (by rw [Zsv.out]; rfl) Osv.out ?_; intro ws hbN hgN hsN; have B5 : Hid (Below w4.heap.size w4 ws) := Lib.hid (((Below.refl _ w4).alloc (Nat.le_refl _) _).trans (hbN.to_below (by simp) (fun k hk q => by omega))); have R5 := Lib.hid hgN; clear hbN hgN hsN)
  obtain ⟨G4, hG4⟩ : ∃ y, w4.heap.size = y := ⟨_, rfl⟩
  have BS := Lib.hid (B4.out.trans (B5.out.mono B4.out.size))
  have Rp20 := Lib.hid ((B5.out.block _ (Array.getElem?_eq_some_iff.1 RP4.out).1).trans RP4.out)
  have HCC := Lib.hid (HC0.out.below B5.out)
  have HPP := Lib.hid (HP0.out.below B5.out)
  have Rs20 : Hid (ws.heap[G4]? = some (.cells sv 35 (0, 0))) := Lib.hid (by rw [← hG4]; exact R5.out)
  rw [hG4]
  clear hG4 R5
  have HKW := Lib.hid (fun (w' : World) (hb : Below ws.heap.size ws w') => HE.out.step (BS.out.trans (hb.mono BS.out.size)))
  have evp := EVP.out
  have HNN : Hid (∀ w', Below ws.heap.size ws w' → Calls Tryd.prog 7 #[.agg #[.int .u8 0, .int .u8 0, .int .u8 0, .int .u8 0, .int .u8 0, .int .u8 0, .int .u8 0, .int .u8 0, .int .u8 0, .int .u8 0, .int .u8 0, .int .u8 0, .int .u8 0, .int .u8 0, .int .u8 0, .int .u8 0, .int .u8 0, .int .u8 0, .int .u8 0, .int .u8 0, .int .u8 0, .int .u8 0, .int .u8 0, .int .u8 0, .int .u8 0, .int .u8 0, .int .u8 0, .int .u8 0, .int .u8 0, .int .u8 0, .int .u8 0, .int .u8 0], .int .i64 (-1)] w' fun ev w2 => ev = .returned (.tuple #[.pointer none, errV a 2]) ∧ Below w'.heap.size w' w2) := Lib.hid (fun w' hb => by
    have q := new_neg a w.heap.size zeroH w' (HKW.out w' hb) zeroH_length
    rw [zeroH_v] at q; exact q)
  have HNB : Hid (∀ w', Below ws.heap.size ws w' → Calls Tryd.prog 7 #[.agg #[.int .u8 0, .int .u8 0, .int .u8 0, .int .u8 0, .int .u8 0, .int .u8 0, .int .u8 0, .int .u8 0, .int .u8 0, .int .u8 0, .int .u8 0, .int .u8 0, .int .u8 0, .int .u8 0, .int .u8 0, .int .u8 0, .int .u8 0, .int .u8 0, .int .u8 0, .int .u8 0, .int .u8 0, .int .u8 0, .int .u8 0, .int .u8 0, .int .u8 0, .int .u8 0, .int .u8 0, .int .u8 0, .int .u8 0, .int .u8 0, .int .u8 0, .int .u8 0], .int .i64 7] w' fun ev w2 => ev = .returned (.tuple #[.pointer none, errV a 2]) ∧ Below w'.heap.size w' w2) := Lib.hid (fun w' hb => by
    have q := new_big a w.heap.size zeroH w' (HKW.out w' hb) zeroH_length
    rw [zeroH_v] at q; exact q)
  have HC : Hid (∀ w', Below ws.heap.size ws w' → Calls Tryd.prog 13 #[.agg vp, .int .i64 1, .string ⟨#[98]⟩, .agg sv] w' fun ev w2 => ev = .returned (errV a 12) ∧ Below w'.heap.size w' w2) := Lib.hid (fun w' hb => by
    have q := kver_wrong a w.heap.size rootL 1 0 ⟨#[98]⟩ (some ⟨G0, 0, none⟩) A 67 c (sigB (ownB zeroH 0) (msgB 0 [97])) [leaf1L] w' (HKW.out w' hb) root_32 (by omega) (by decide) (Nat.le_of_lt (by decide)) (HCC.out.below hb) (HPP.out.below hb) _ (nodeH_length _ _) rootr_ne (says_two _ _)
    rw [evp, show (#[.int .i64 ((0 : Nat) : Int), .slice (some ⟨G0, 0, none⟩) 67 67, .slice A 1 c] : Array Value) = sv from Hsv9.out] at q
    exact q)
  have HD : Hid (∀ w', Below ws.heap.size ws w' → Calls Tryd.prog 13 #[.agg #[.int .u8 0, .int .u8 0, .int .u8 0, .int .u8 0, .int .u8 0, .int .u8 0, .int .u8 0, .int .u8 0, .int .u8 0, .int .u8 0, .int .u8 0, .int .u8 0, .int .u8 0, .int .u8 0, .int .u8 0, .int .u8 0, .int .u8 0, .int .u8 0, .int .u8 0, .int .u8 0, .int .u8 0, .int .u8 0, .int .u8 0, .int .u8 0, .int .u8 0, .int .u8 0, .int .u8 0, .int .u8 0, .int .u8 0, .int .u8 0, .int .u8 0, .int .u8 0], .int .i64 1, .string ⟨#[97]⟩, .agg sv] w' fun ev w2 => ev = .returned (errV a 12) ∧ Below w'.heap.size w' w2) := Lib.hid (fun w' hb => by
    have q := kver_wrong a w.heap.size zeroH 1 0 ⟨#[97]⟩ (some ⟨G0, 0, none⟩) A 67 c (sigB (ownB zeroH 0) (msgB 0 [97])) [leaf1L] w' (HKW.out w' hb) zeroH_length (by omega) (by decide) (Nat.le_of_lt (by decide)) (HCC.out.below hb) (HPP.out.below hb) rootL root_32 root_nz HSY.out
    rw [zeroH_v, show (#[.int .i64 ((0 : Nat) : Int), .slice (some ⟨G0, 0, none⟩) 67 67, .slice A 1 c] : Array Value) = sv from Hsv9.out] at q
    exact q)
  have HF : Hid (∀ w', Below ws.heap.size ws w' → Calls Tryd.prog 13 #[.agg vp, .int .i64 2, .string ⟨#[97]⟩, .agg sv] w' fun ev w2 => ev = .returned (errV a 2) ∧ Below w'.heap.size w' w2) := Lib.hid (fun w' hb => by
    have q := kver_len a w.heap.size rootL 2 0 67 1 ⟨#[97]⟩ (some ⟨G0, 0, none⟩) A 67 c w' (HKW.out w' hb) root_32 (by omega) ⟨by omega, by omega, rfl, by omega⟩ (by decide) (by omega)
    rw [evp, Hsv9.out] at q
    exact q)
  have HG : Hid (∀ w', Below ws.heap.size ws w' → Calls Tryd.prog 13 #[.agg vp, .int .i64 (-1), .string ⟨#[97]⟩, .agg sv] w' fun ev w2 => ev = .returned (errV a 2) ∧ Below w'.heap.size w' w2) := Lib.hid (fun w' hb => by
    have q := kver_neg a w.heap.size rootL (-1) 0 67 1 ⟨#[97]⟩ (some ⟨G0, 0, none⟩) A 67 c w' (HKW.out w' hb) root_32 (by omega)
    rw [evp, Hsv9.out] at q
    exact q)
  have HH : Hid (∀ w', Below ws.heap.size ws w' → Calls Tryd.prog 13 #[.agg vp, .int .i64 1, .string ⟨#[97]⟩, .agg t2] w' fun ev w2 => ev = .returned (errV a 2) ∧ Below w'.heap.size w' w2) := Lib.hid (fun w' hb => by
    have q := kver_idx a w.heap.size rootL 1 2 67 1 ⟨#[97]⟩ (some ⟨G0, 0, none⟩) A 67 c w' (HKW.out w' hb) root_32 (by omega) ⟨by omega, by omega, rfl, by omega⟩ (by decide)
    rw [evp, Ht29.out] at q
    exact q)
  have HJ : Hid (∀ w', Below ws.heap.size ws w' → Calls Tryd.prog 13 #[.agg vp, .int .i64 1, .string ⟨#[97]⟩, .agg t66] w' fun ev w2 => ev = .returned (errV a 2) ∧ Below w'.heap.size w' w2) := Lib.hid (fun w' hb => by
    have q := kver_may a w.heap.size rootL 1 0 66 1 ⟨#[97]⟩ (some ⟨G0, 0, none⟩) A 67 c w' (HKW.out w' hb) root_32 (by omega) (by omega)
    rw [evp, Ht669.out] at q
    exact q)
  have HI : Hid (∀ w', Below ws.heap.size ws w' → Calls Tryd.prog 16 #[.agg t64] w' fun ev w2 => ev = .returned (.tuple #[.string ⟨#[]⟩, errV a 2]) ∧ Below w'.heap.size w' w2) := Lib.hid (fun w' hb => by
    have q := enc_bad a w.heap.size 64 67 1 (some ⟨G0, 0, none⟩) A 67 c w' (HKW.out w' hb) (by omega)
    rw [Ht649.out] at q
    exact q)
  have HM : Hid (∀ w', Below ws.heap.size ws w' → Calls Tryd.prog 16 #[.agg t66] w' fun ev w2 => ev = .returned (.tuple #[.string ⟨#[]⟩, errV a 2]) ∧ Below w'.heap.size w' w2) := Lib.hid (fun w' hb => by
    have q := enc_bad a w.heap.size 0 66 1 (some ⟨G0, 0, none⟩) A 67 c w' (HKW.out w' hb) (by omega)
    rw [Ht669.out] at q
    exact q)
  obtain ⟨W0, hW0⟩ : ∃ y : ByteArray, ⟨(encB 0 (sigB (ownB zeroH 0) (msgB 0 [97])) 1 [leaf1L]).toArray⟩ = y := ⟨_, rfl⟩
  have hWb : bOf W0 = encB 0 (sigB (ownB zeroH 0) (msgB 0 [97])) 1 [leaf1L] := by rw [← hW0]; simp [bOf]
  have hWz : W0.size = 2178 := by
    have h2 := flat_eq HCC.out.1
    have h3 := flat_eq HPP.out.1
    rw [HCC.out.2.1] at h2
    rw [HPP.out.2.1] at h3
    rw [← bOf_length, hWb]
    simp only [encB, List.length_append, List.length_cons, List.length_nil, h2, h3]
  have HO : Hid (∀ w', Below ws.heap.size ws w' → Calls Tryd.prog 16 #[.agg sv] w' fun ev w2 => ev = .returned (.tuple #[.string W0, .nilIface]) ∧ Below w'.heap.size w' w2) := Lib.hid (fun w' hb => by
    have q := enc_ok 0 1 (some ⟨G0, 0, none⟩) A 67 c (sigB (ownB zeroH 0) (msgB 0 [97])) [leaf1L] w' (by omega) (by omega) (HCC.out.below hb) (HPP.out.below hb)
    rw [hW0, show (#[.int .i64 ((0 : Nat) : Int), .slice (some ⟨G0, 0, none⟩) 67 67, .slice A 1 c] : Array Value) = sv from Hsv9.out] at q
    exact q)
  have HN : Hid (∀ w', Below ws.heap.size ws w' → Calls Tryd.prog 17 #[.string ⟨#[]⟩] w' fun ev w2 => ev = .returned (.tuple #[.agg #[.int .i64 0, .slice none 0 0, .slice none 0 0], errV a 3]) ∧ Below w'.heap.size w' w2) := Lib.hid (fun w' hb => (dec_any a w.heap.size ⟨#[]⟩ w' (HKW.out w' hb) (Nat.le_of_lt (by decide))).mono (fun ev w2 q => ⟨by
    rcases q.1 with ⟨h, -⟩ | ⟨-, h⟩
    · exact absurd h dec_nil
    · exact h, q.2⟩))
  obtain ⟨W1, hW1⟩ : ∃ y : ByteArray, W0 ++ ⟨#[0]⟩ = y := ⟨_, rfl⟩
  have hW1b : bOf W1 = encB 0 (sigB (ownB zeroH 0) (msgB 0 [97])) 1 [leaf1L] ++ [0] := by rw [← hW1, ← hWb]; simp [bOf]
  have hW1z : W1.size ≤ 9223372036854775807 := by rw [← hW1, ByteArray.size_append, hWz]; show 2178 + 1 ≤ _; omega
  have HQ : Hid (∀ w', Below ws.heap.size ws w' → Calls Tryd.prog 17 #[.string W1] w' fun ev w2 => ev = .returned (.tuple #[.agg #[.int .i64 0, .slice none 0 0, .slice none 0 0], errV a 3]) ∧ Below w'.heap.size w' w2) := Lib.hid (fun w' hb => (dec_any a w.heap.size W1 w' (HKW.out w' hb) hW1z).mono (fun ev w2 q => ⟨by
    rcases q.1 with ⟨h, -⟩ | ⟨-, h⟩
    · exact absurd h (dec_more 0 (by omega) (by omega) HCC.out.1 HCC.out.2.1 HPP.out.1 HPP.out.2.1 hW1b)
    · exact h, q.2⟩))
  obtain ⟨W2, hW2⟩ : ∃ y : ByteArray, ⟨#[64]⟩ ++ W0.extract 1 2178 = y := ⟨_, rfl⟩
  have hW2b : ∃ r, bOf W2 = 64 :: r := ⟨bOf (W0.extract 1 2178), by rw [← hW2]; simp [bOf]⟩
  have hW2z : W2.size ≤ 9223372036854775807 := by
    rw [← hW2, ByteArray.size_append, ByteArray.size_extract, hWz]; show 1 + _ ≤ _; omega
  have HV : Hid (∀ w', Below ws.heap.size ws w' → Calls Tryd.prog 17 #[.string W2] w' fun ev w2 => ev = .returned (.tuple #[.agg #[.int .i64 0, .slice none 0 0, .slice none 0 0], errV a 3]) ∧ Below w'.heap.size w' w2) := Lib.hid (fun w' hb => (dec_any a w.heap.size W2 w' (HKW.out w' hb) hW2z).mono (fun ev w2 q => ⟨by
    rcases q.1 with ⟨h, -⟩ | ⟨-, h⟩
    · exact absurd h (by obtain ⟨r, hr⟩ := hW2b; exact dec_64 hr)
    · exact h, q.2⟩))
  have HR : Hid (∀ w', Below ws.heap.size ws w' → Calls Tryd.prog 9 #[.pointer none, .string ⟨#[]⟩] w' fun ev w2 => ev = .returned (.tuple #[.agg #[.int .i64 0, .slice none 0 0, .slice none 0 0], errV a 1]) ∧ Below w'.heap.size w' w2) := Lib.hid (fun w' hb => sign_nil a w.heap.size ⟨#[]⟩ w' (HKW.out w' hb))
  have HI2 : Hid (∀ w', Below ws.heap.size ws w' → Calls Tryd.prog 10 #[errV a 2, .int .i64 2] w' fun ev w2 => ev = .returned (.bool true) ∧ Below w'.heap.size w' w2) := Lib.hid (fun w' hb => is_sent a w.heap.size 2 w' (HKW.out w' hb).laid (by omega) (by omega))
  have HI12 : Hid (∀ w', Below ws.heap.size ws w' → Calls Tryd.prog 10 #[errV a 12, .int .i64 12] w' fun ev w2 => ev = .returned (.bool true) ∧ Below w'.heap.size w' w2) := Lib.hid (fun w' hb => is_sent a w.heap.size 12 w' (HKW.out w' hb).laid (by omega) (by omega))
  have HI3 : Hid (∀ w', Below ws.heap.size ws w' → Calls Tryd.prog 10 #[errV a 3, .int .i64 3] w' fun ev w2 => ev = .returned (.bool true) ∧ Below w'.heap.size w' w2) := Lib.hid (fun w' hb => is_sent a w.heap.size 3 w' (HKW.out w' hb).laid (by omega) (by omega))
  have HI1 : Hid (∀ w', Below ws.heap.size ws w' → Calls Tryd.prog 10 #[errV a 1, .int .i64 1] w' fun ev w2 => ev = .returned (.bool true) ∧ Below w'.heap.size w' w2) := Lib.hid (fun w' hb => is_sent a w.heap.size 1 w' (HKW.out w' hb).laid (by omega) (by omega))
  have HPN : Hid (∀ w', Below ws.heap.size ws w' → Calls Tryd.prog 8 #[.pointer none] w' fun ev w2 => ev = .returned (.agg #[.int .u8 0, .int .u8 0, .int .u8 0, .int .u8 0, .int .u8 0, .int .u8 0, .int .u8 0, .int .u8 0, .int .u8 0, .int .u8 0, .int .u8 0, .int .u8 0, .int .u8 0, .int .u8 0, .int .u8 0, .int .u8 0, .int .u8 0, .int .u8 0, .int .u8 0, .int .u8 0, .int .u8 0, .int .u8 0, .int .u8 0, .int .u8 0, .int .u8 0, .int .u8 0, .int .u8 0, .int .u8 0, .int .u8 0, .int .u8 0, .int .u8 0, .int .u8 0]) ∧ Below w'.heap.size w' w2) := Lib.hid (fun w' hb => by
    have q := pub_nil w'
    rw [zeroH_v] at q; exact q)
  have HLN : Hid (∀ w', Below ws.heap.size ws w' → Calls Tryd.prog 12 #[.pointer none] w' fun ev w2 => ev = .returned (.int .i64 0) ∧ Below w'.heap.size w' w2) := Lib.hid (fun w' hb => left_nil w')
  have HLV : Hid (∀ w', Below ws.heap.size ws w' → Calls Tryd.prog 14 #[] w' fun ev w2 => ev = .returned (.bool true) ∧ Below w'.heap.size w' w2) := Lib.hid (fun w' hb => lives23_any a w.heap.size w' (HKW.out w' hb))
  have hq9 : ∀ w, (Op.equalIn 10000 23 (.agg #[.int .u8 0, .int .u8 0, .int .u8 0, .int .u8 0, .int .u8 0, .int .u8 0, .int .u8 0, .int .u8 0, .int .u8 0, .int .u8 0, .int .u8 0, .int .u8 0, .int .u8 0, .int .u8 0, .int .u8 0, .int .u8 0, .int .u8 0, .int .u8 0, .int .u8 0, .int .u8 0, .int .u8 0, .int .u8 0, .int .u8 0, .int .u8 0, .int .u8 0, .int .u8 0, .int .u8 0, .int .u8 0, .int .u8 0, .int .u8 0, .int .u8 0, .int .u8 0]) (.agg #[.int .u8 0, .int .u8 0, .int .u8 0, .int .u8 0, .int .u8 0, .int .u8 0, .int .u8 0, .int .u8 0, .int .u8 0, .int .u8 0, .int .u8 0, .int .u8 0, .int .u8 0, .int .u8 0, .int .u8 0, .int .u8 0, .int .u8 0, .int .u8 0, .int .u8 0, .int .u8 0, .int .u8 0, .int .u8 0, .int .u8 0, .int .u8 0, .int .u8 0, .int .u8 0, .int .u8 0, .int .u8 0, .int .u8 0, .int .u8 0, .int .u8 0, .int .u8 0])).run Tryd.prog w = .ok true w := fun w => by
    rw [eq_hash zeroH zeroH zeroH_length zeroH_length #[.int .u8 0, .int .u8 0, .int .u8 0, .int .u8 0, .int .u8 0, .int .u8 0, .int .u8 0, .int .u8 0, .int .u8 0, .int .u8 0, .int .u8 0, .int .u8 0, .int .u8 0, .int .u8 0, .int .u8 0, .int .u8 0, .int .u8 0, .int .u8 0, .int .u8 0, .int .u8 0, .int .u8 0, .int .u8 0, .int .u8 0, .int .u8 0, .int .u8 0, .int .u8 0, .int .u8 0, .int .u8 0, .int .u8 0, .int .u8 0, .int .u8 0, .int .u8 0] #[.int .u8 0, .int .u8 0, .int .u8 0, .int .u8 0, .int .u8 0, .int .u8 0, .int .u8 0, .int .u8 0, .int .u8 0, .int .u8 0, .int .u8 0, .int .u8 0, .int .u8 0, .int .u8 0, .int .u8 0, .int .u8 0, .int .u8 0, .int .u8 0, .int .u8 0, .int .u8 0, .int .u8 0, .int .u8 0, .int .u8 0, .int .u8 0, .int .u8 0, .int .u8 0, .int .u8 0, .int .u8 0, .int .u8 0, .int .u8 0, .int .u8 0, .int .u8 0] zeroH_v zeroH_v w]; simp
  have y2 : ws.cell? ⟨G4, 2, none⟩ = some (.slice A 1 c) := by
    have R1 := Rs20.out
    rw [← Hsv9.out] at R1
    exact (cell_of_row ws G4 2 _ 35 (0, 0) R1).trans rfl
  have B20 : Hid (Below ws.heap.size ws ws) := Lib.hid (Below.refl _ _)
  have x1 : ((W0.size : Int) == 0) = false := by rw [hWz]; rfl
  have x2 : ((W0.size : Int) == 2178) = true := by rw [hWz]; rfl
  have x3 : W0.size = 2178 := hWz
  clear evp hW0 hWb hWz hW1b hW1z hW2b hW2z
  go_wp2_with fail
  refine (HNN.out ws B20.out).mono ?_
  rintro ev w21 ⟨rfl, b⟩
  have B21 := Lib.hid (B20.out.trans (b.mono B20.out.size))
  have Rp21 := Lib.hid ((b.block _ (Array.getElem?_eq_some_iff.1 Rp20.out).1).trans Rp20.out)
  have Rs21 := Lib.hid ((b.block _ (Array.getElem?_eq_some_iff.1 Rs20.out).1).trans Rs20.out)
  clear b
  go_wp2_with fail
  refine (HNB.out w21 B21.out).mono ?_
  rintro ev w22 ⟨rfl, b⟩
  have B22 := Lib.hid (B21.out.trans (b.mono B21.out.size))
  have Rp22 := Lib.hid ((b.block _ (Array.getElem?_eq_some_iff.1 Rp21.out).1).trans Rp21.out)
  have Rs22 := Lib.hid ((b.block _ (Array.getElem?_eq_some_iff.1 Rs21.out).1).trans Rs21.out)
  clear b
  go_wp2_with (first | (refine wpList_load_row rfl 23 _ rfl G3 rfl 23 vp (0, 0) _ Rp22.out Tryd.underlying23 rfl Ivp.out ?_) | (refine wpList_load_row rfl 35 _ rfl G4 rfl 35 sv (0, 0) _ Rs22.out Tryd.underlying35 rfl Isv.out ?_))
  refine (HC.out w22 B22.out).mono ?_
  rintro ev w23 ⟨rfl, b⟩
  have B23 := Lib.hid (B22.out.trans (b.mono B22.out.size))
  have Rp23 := Lib.hid ((b.block _ (Array.getElem?_eq_some_iff.1 Rp22.out).1).trans Rp22.out)
  have Rs23 := Lib.hid ((b.block _ (Array.getElem?_eq_some_iff.1 Rs22.out).1).trans Rs22.out)
  clear b
  go_wp2_with (first | (refine wpList_load_row rfl 35 _ rfl G4 rfl 35 sv (0, 0) _ Rs23.out Tryd.underlying35 rfl Isv.out ?_))
  refine (HD.out w23 B23.out).mono ?_
  rintro ev w24 ⟨rfl, b⟩
  have B24 := Lib.hid (B23.out.trans (b.mono B23.out.size))
  have Rp24 := Lib.hid ((b.block _ (Array.getElem?_eq_some_iff.1 Rp23.out).1).trans Rp23.out)
  have Rs24 := Lib.hid ((b.block _ (Array.getElem?_eq_some_iff.1 Rs23.out).1).trans Rs23.out)
  clear b
  go_wp2_with (first | (refine wpList_load_row rfl 23 _ rfl G3 rfl 23 vp (0, 0) _ Rp24.out Tryd.underlying23 rfl Ivp.out ?_) | (refine wpList_load_row rfl 35 _ rfl G4 rfl 35 sv (0, 0) _ Rs24.out Tryd.underlying35 rfl Isv.out ?_))
  refine (HF.out w24 B24.out).mono ?_
  rintro ev w25 ⟨rfl, b⟩
  have B25 := Lib.hid (B24.out.trans (b.mono B24.out.size))
  have Rp25 := Lib.hid ((b.block _ (Array.getElem?_eq_some_iff.1 Rp24.out).1).trans Rp24.out)
  have Rs25 := Lib.hid ((b.block _ (Array.getElem?_eq_some_iff.1 Rs24.out).1).trans Rs24.out)
  clear b
  go_wp2_with (first | (refine wpList_load_row rfl 23 _ rfl G3 rfl 23 vp (0, 0) _ Rp25.out Tryd.underlying23 rfl Ivp.out ?_) | (refine wpList_load_row rfl 35 _ rfl G4 rfl 35 sv (0, 0) _ Rs25.out Tryd.underlying35 rfl Isv.out ?_))
  refine (HG.out w25 B25.out).mono ?_
  rintro ev w26 ⟨rfl, b⟩
  have B26 := Lib.hid (B25.out.trans (b.mono B25.out.size))
  have Rp26 := Lib.hid ((b.block _ (Array.getElem?_eq_some_iff.1 Rp25.out).1).trans Rp25.out)
  have Rs26 := Lib.hid ((b.block _ (Array.getElem?_eq_some_iff.1 Rs25.out).1).trans Rs25.out)
  clear b
  go_upto_region 15 with (first | (refine wpList_load_row rfl 35 _ rfl G4 rfl 35 sv (0, 0) _ Rs26.out Tryd.underlying35 rfl Isv.out ?_) | (refine wpList_store_row_any rfl 35 _ _ rfl w26.heap.size sv rfl rfl 35 _ (heap_at _ _ _ rfl) Isv.out (by rw [Zsv.out]; rfl) Osv.out ?_; intro w27 hbN hgN hsN; have BA : Hid (Below w26.heap.size w26 w27) := Lib.hid (((Below.refl _ w26).alloc (Nat.le_refl _) _).trans (hbN.to_below (by simp) (fun k hk q => by omega))); have RT := Lib.hid hgN; clear hbN hgN hsN))
  obtain ⟨GT, hGT⟩ : ∃ y, w26.heap.size = y := ⟨_, rfl⟩
  have HGT : Hid (ws.heap.size ≤ GT ∧ G3 < ws.heap.size ∧ G4 < ws.heap.size) := Lib.hid ⟨by rw [← hGT]; exact B26.out.size, (Array.getElem?_eq_some_iff.1 Rp20.out).1, (Array.getElem?_eq_some_iff.1 Rs20.out).1⟩
  have B27 := Lib.hid (B26.out.trans (BA.out.mono B26.out.size))
  have Rp27 := Lib.hid ((BA.out.block _ (Array.getElem?_eq_some_iff.1 Rp26.out).1).trans Rp26.out)
  have Rs27 := Lib.hid ((BA.out.block _ (Array.getElem?_eq_some_iff.1 Rs26.out).1).trans Rs26.out)
  have Rt27 : Hid (w27.heap[GT]? = some (.cells sv 35 (0, 0))) := Lib.hid (by rw [← hGT]; exact RT.out)
  rw [hGT]
  clear hGT BA RT
  have R0 := Rt27.out
  rw [← Hsv9.out] at R0
  have zc := cell_of_row w27 GT 0 _ 35 (0, 0) R0
  have zc2 : w27.cell? ⟨GT, 0, none⟩ = some (.int .i64 0) := zc.trans rfl
  have zf := frozen_of_row w27 GT 0 _ 35 R0
  go_upto_region 16 with fail
  obtain ⟨w28, hw⟩ : ∃ y : World, w27.setCell ⟨GT, 0, none⟩ (.int .i64 2) = y := ⟨_, rfl⟩
  have BA : Hid (But (· = GT) w27 w28) := Lib.hid (by rw [← hw]; exact (But.refl _ _).setCell _ _ _ (fun _ => rfl))
  have Rt28 : Hid (w28.heap[GT]? = some (.cells t2 35 (0, 0))) := Lib.hid (by rw [← hw, ← Ht29.out]; exact heap_setCell_same w27 GT 0 _ 35 _ R0)
  have B28 : Hid (Below ws.heap.size ws w28) := Lib.hid (B27.out.trans (BA.out.to_below B27.out.size (fun k hk q => by have := HGT.out; omega)))
  have Rp28 := Lib.hid ((BA.out.same _ (Array.getElem?_eq_some_iff.1 Rp27.out).1 (by have := HGT.out; omega)).trans Rp27.out)
  have Rs28 := Lib.hid ((BA.out.same _ (Array.getElem?_eq_some_iff.1 Rs27.out).1 (by have := HGT.out; omega)).trans Rs27.out)
  rw [hw]
  clear hw BA R0 zc zc2 zf
  go_wp2_with (first | (refine wpList_load_row rfl 23 _ rfl G3 rfl 23 vp (0, 0) _ Rp28.out Tryd.underlying23 rfl Ivp.out ?_) | (refine wpList_load_row rfl 35 _ rfl GT rfl 35 t2 (0, 0) _ Rt28.out Tryd.underlying35 rfl It2.out ?_))
  refine (HH.out w28 B28.out).mono ?_
  rintro ev w29 ⟨rfl, b⟩
  have B29 := Lib.hid (B28.out.trans (b.mono B28.out.size))
  have Rp29 := Lib.hid ((b.block _ (Array.getElem?_eq_some_iff.1 Rp28.out).1).trans Rp28.out)
  have Rs29 := Lib.hid ((b.block _ (Array.getElem?_eq_some_iff.1 Rs28.out).1).trans Rs28.out)
  have Rt29 := Lib.hid ((b.block _ (Array.getElem?_eq_some_iff.1 Rt28.out).1).trans Rt28.out)
  clear b
  have R0 := Rt29.out
  rw [← Ht29.out] at R0
  have zc := cell_of_row w29 GT 0 _ 35 (0, 0) R0
  have zc2 : w29.cell? ⟨GT, 0, none⟩ = some (.int .i64 2) := zc.trans rfl
  have zf := frozen_of_row w29 GT 0 _ 35 R0
  go_upto_region 18 with fail
  obtain ⟨w30, hw⟩ : ∃ y : World, w29.setCell ⟨GT, 0, none⟩ (.int .i64 64) = y := ⟨_, rfl⟩
  have BA : Hid (But (· = GT) w29 w30) := Lib.hid (by rw [← hw]; exact (But.refl _ _).setCell _ _ _ (fun _ => rfl))
  have Rt30 : Hid (w30.heap[GT]? = some (.cells t64 35 (0, 0))) := Lib.hid (by rw [← hw, ← Ht649.out]; exact heap_setCell_same w29 GT 0 _ 35 _ R0)
  have B30 : Hid (Below ws.heap.size ws w30) := Lib.hid (B29.out.trans (BA.out.to_below B29.out.size (fun k hk q => by have := HGT.out; omega)))
  have Rp30 := Lib.hid ((BA.out.same _ (Array.getElem?_eq_some_iff.1 Rp29.out).1 (by have := HGT.out; omega)).trans Rp29.out)
  have Rs30 := Lib.hid ((BA.out.same _ (Array.getElem?_eq_some_iff.1 Rs29.out).1 (by have := HGT.out; omega)).trans Rs29.out)
  rw [hw]
  clear hw BA R0 zc zc2 zf
  go_wp2_with (first | (refine wpList_load_row rfl 35 _ rfl GT rfl 35 t64 (0, 0) _ Rt30.out Tryd.underlying35 rfl It64.out ?_))
  refine (HI.out w30 B30.out).mono ?_
  rintro ev w31 ⟨rfl, b⟩
  have B31 := Lib.hid (B30.out.trans (b.mono B30.out.size))
  have Rp31 := Lib.hid ((b.block _ (Array.getElem?_eq_some_iff.1 Rp30.out).1).trans Rp30.out)
  have Rs31 := Lib.hid ((b.block _ (Array.getElem?_eq_some_iff.1 Rs30.out).1).trans Rs30.out)
  have Rt31 := Lib.hid ((b.block _ (Array.getElem?_eq_some_iff.1 Rt30.out).1).trans Rt30.out)
  clear b
  go_upto_region 20 with (first | (refine wpList_load_row rfl 35 _ rfl G4 rfl 35 sv (0, 0) _ Rs31.out Tryd.underlying35 rfl Isv.out ?_) | (refine wpList_store_row_any rfl 35 _ _ rfl GT sv rfl rfl 35 _ Rt31.out Isv.out (by rw [Zsv.out, Zt64.out]) Osv.out ?_; intro w32 hbN hgN hsN; have BA : Hid (But (· = GT) w31 w32) := Lib.hid hbN; have Rt32 := Lib.hid hgN; clear hbN hgN hsN))
  have B32 : Hid (Below ws.heap.size ws w32) := Lib.hid (B31.out.trans (BA.out.to_below B31.out.size (fun k hk q => by have := HGT.out; omega)))
  have Rp32 := Lib.hid ((BA.out.same _ (Array.getElem?_eq_some_iff.1 Rp31.out).1 (by have := HGT.out; omega)).trans Rp31.out)
  have Rs32 := Lib.hid ((BA.out.same _ (Array.getElem?_eq_some_iff.1 Rs31.out).1 (by have := HGT.out; omega)).trans Rs31.out)
  clear BA
  have R0 := Rt32.out
  rw [← Hsv9.out] at R0
  have zc := cell_of_row w32 GT 1 _ 35 (0, 0) R0
  have zc2 : w32.cell? ⟨GT, 1, none⟩ = some (.slice (some ⟨G0, 0, none⟩) 67 67) := zc.trans rfl
  have zf := frozen_of_row w32 GT 1 _ 35 R0
  have zs : w32.cell? ⟨G4, 1, none⟩ = some (.slice (some ⟨G0, 0, none⟩) 67 67) := by
    have R1 := Rs32.out
    rw [← Hsv9.out] at R1
    exact (cell_of_row w32 G4 1 _ 35 (0, 0) R1).trans rfl
  go_upto_region 21 with fail
  obtain ⟨w33, hw⟩ : ∃ y : World, w32.setCell ⟨GT, 1, none⟩ (.slice (some ⟨G0, 0, none⟩) 66 67) = y := ⟨_, rfl⟩
  have BA : Hid (But (· = GT) w32 w33) := Lib.hid (by rw [← hw]; exact (But.refl _ _).setCell _ _ _ (fun _ => rfl))
  have Rt33 : Hid (w33.heap[GT]? = some (.cells t66 35 (0, 0))) := Lib.hid (by rw [← hw, ← Ht669.out]; exact heap_setCell_same w32 GT 1 _ 35 _ R0)
  have B33 : Hid (Below ws.heap.size ws w33) := Lib.hid (B32.out.trans (BA.out.to_below B32.out.size (fun k hk q => by have := HGT.out; omega)))
  have Rp33 := Lib.hid ((BA.out.same _ (Array.getElem?_eq_some_iff.1 Rp32.out).1 (by have := HGT.out; omega)).trans Rp32.out)
  have Rs33 := Lib.hid ((BA.out.same _ (Array.getElem?_eq_some_iff.1 Rs32.out).1 (by have := HGT.out; omega)).trans Rs32.out)
  rw [hw]
  clear hw BA R0 zc zc2 zf
  clear zs
  go_wp2_with (first | (refine wpList_load_row rfl 23 _ rfl G3 rfl 23 vp (0, 0) _ Rp33.out Tryd.underlying23 rfl Ivp.out ?_) | (refine wpList_load_row rfl 35 _ rfl GT rfl 35 t66 (0, 0) _ Rt33.out Tryd.underlying35 rfl It66.out ?_))
  refine (HJ.out w33 B33.out).mono ?_
  rintro ev w34 ⟨rfl, b⟩
  have B34 := Lib.hid (B33.out.trans (b.mono B33.out.size))
  have Rp34 := Lib.hid ((b.block _ (Array.getElem?_eq_some_iff.1 Rp33.out).1).trans Rp33.out)
  have Rs34 := Lib.hid ((b.block _ (Array.getElem?_eq_some_iff.1 Rs33.out).1).trans Rs33.out)
  have Rt34 := Lib.hid ((b.block _ (Array.getElem?_eq_some_iff.1 Rt33.out).1).trans Rt33.out)
  clear b
  go_wp2_with (first | (refine wpList_load_row rfl 35 _ rfl GT rfl 35 t66 (0, 0) _ Rt34.out Tryd.underlying35 rfl It66.out ?_))
  refine (HM.out w34 B34.out).mono ?_
  rintro ev w35 ⟨rfl, b⟩
  have B35 := Lib.hid (B34.out.trans (b.mono B34.out.size))
  have Rp35 := Lib.hid ((b.block _ (Array.getElem?_eq_some_iff.1 Rp34.out).1).trans Rp34.out)
  have Rs35 := Lib.hid ((b.block _ (Array.getElem?_eq_some_iff.1 Rs34.out).1).trans Rs34.out)
  have Rt35 := Lib.hid ((b.block _ (Array.getElem?_eq_some_iff.1 Rt34.out).1).trans Rt34.out)
  clear b
  go_wp2_with fail
  refine (HN.out w35 B35.out).mono ?_
  rintro ev w36 ⟨rfl, b⟩
  have B36 := Lib.hid (B35.out.trans (b.mono B35.out.size))
  have Rp36 := Lib.hid ((b.block _ (Array.getElem?_eq_some_iff.1 Rp35.out).1).trans Rp35.out)
  have Rs36 := Lib.hid ((b.block _ (Array.getElem?_eq_some_iff.1 Rs35.out).1).trans Rs35.out)
  have Rt36 := Lib.hid ((b.block _ (Array.getElem?_eq_some_iff.1 Rt35.out).1).trans Rt35.out)
  clear b
  go_upto_region 24 with fail
  obtain ⟨w37, hw⟩ : ∃ y : World, w36.alloc (.cells #[.int .i64 0, .slice none 0 0, .slice none 0 0] 35) = y := ⟨_, rfl⟩
  have BA : Hid (Below w36.heap.size w36 w37) := Lib.hid (by rw [← hw]; exact (Below.refl _ _).alloc (Nat.le_refl _) _)
  have B37 := Lib.hid (B36.out.trans (BA.out.mono B36.out.size))
  have Rp37 := Lib.hid ((BA.out.block _ (Array.getElem?_eq_some_iff.1 Rp36.out).1).trans Rp36.out)
  have Rs37 := Lib.hid ((BA.out.block _ (Array.getElem?_eq_some_iff.1 Rs36.out).1).trans Rs36.out)
  have Rt37 := Lib.hid ((BA.out.block _ (Array.getElem?_eq_some_iff.1 Rt36.out).1).trans Rt36.out)
  rw [hw]
  clear hw BA
  go_wp2_with (first | (refine wpList_load_row rfl 35 _ rfl G4 rfl 35 sv (0, 0) _ Rs37.out Tryd.underlying35 rfl Isv.out ?_))
  refine (HO.out w37 B37.out).mono ?_
  rintro ev w38 ⟨rfl, b⟩
  have B38 := Lib.hid (B37.out.trans (b.mono B37.out.size))
  have Rp38 := Lib.hid ((b.block _ (Array.getElem?_eq_some_iff.1 Rp37.out).1).trans Rp37.out)
  have Rs38 := Lib.hid ((b.block _ (Array.getElem?_eq_some_iff.1 Rs37.out).1).trans Rs37.out)
  have Rt38 := Lib.hid ((b.block _ (Array.getElem?_eq_some_iff.1 Rt37.out).1).trans Rt37.out)
  clear b
  go_wp2_with fail
  refine (HQ.out w38 B38.out).mono ?_
  rintro ev w39 ⟨rfl, b⟩
  have B39 := Lib.hid (B38.out.trans (b.mono B38.out.size))
  have Rp39 := Lib.hid ((b.block _ (Array.getElem?_eq_some_iff.1 Rp38.out).1).trans Rp38.out)
  have Rs39 := Lib.hid ((b.block _ (Array.getElem?_eq_some_iff.1 Rs38.out).1).trans Rs38.out)
  have Rt39 := Lib.hid ((b.block _ (Array.getElem?_eq_some_iff.1 Rt38.out).1).trans Rt38.out)
  clear b
  go_upto_region 28 with fail
  obtain ⟨w40, hw⟩ : ∃ y : World, w39.alloc (.cells #[.int .i64 0, .slice none 0 0, .slice none 0 0] 35) = y := ⟨_, rfl⟩
  have BA : Hid (Below w39.heap.size w39 w40) := Lib.hid (by rw [← hw]; exact (Below.refl _ _).alloc (Nat.le_refl _) _)
  have B40 := Lib.hid (B39.out.trans (BA.out.mono B39.out.size))
  have Rp40 := Lib.hid ((BA.out.block _ (Array.getElem?_eq_some_iff.1 Rp39.out).1).trans Rp39.out)
  have Rs40 := Lib.hid ((BA.out.block _ (Array.getElem?_eq_some_iff.1 Rs39.out).1).trans Rs39.out)
  have Rt40 := Lib.hid ((BA.out.block _ (Array.getElem?_eq_some_iff.1 Rt39.out).1).trans Rt39.out)
  rw [hw]
  clear hw BA
  go_wp2_with fail
  refine (HV.out w40 B40.out).mono ?_
  rintro ev w41 ⟨rfl, b⟩
  have B41 := Lib.hid (B40.out.trans (b.mono B40.out.size))
  have Rp41 := Lib.hid ((b.block _ (Array.getElem?_eq_some_iff.1 Rp40.out).1).trans Rp40.out)
  have Rs41 := Lib.hid ((b.block _ (Array.getElem?_eq_some_iff.1 Rs40.out).1).trans Rs40.out)
  have Rt41 := Lib.hid ((b.block _ (Array.getElem?_eq_some_iff.1 Rt40.out).1).trans Rt40.out)
  clear b
  go_upto_region 29 with fail
  obtain ⟨w42, hw⟩ : ∃ y : World, w41.alloc (.cells #[.int .i64 0, .slice none 0 0, .slice none 0 0] 35) = y := ⟨_, rfl⟩
  have BA : Hid (Below w41.heap.size w41 w42) := Lib.hid (by rw [← hw]; exact (Below.refl _ _).alloc (Nat.le_refl _) _)
  have B42 := Lib.hid (B41.out.trans (BA.out.mono B41.out.size))
  have Rp42 := Lib.hid ((BA.out.block _ (Array.getElem?_eq_some_iff.1 Rp41.out).1).trans Rp41.out)
  have Rs42 := Lib.hid ((BA.out.block _ (Array.getElem?_eq_some_iff.1 Rs41.out).1).trans Rs41.out)
  have Rt42 := Lib.hid ((BA.out.block _ (Array.getElem?_eq_some_iff.1 Rt41.out).1).trans Rt41.out)
  rw [hw]
  clear hw BA
  go_wp2_with fail
  refine (HR.out w42 B42.out).mono ?_
  rintro ev w43 ⟨rfl, b⟩
  have B43 := Lib.hid (B42.out.trans (b.mono B42.out.size))
  have Rp43 := Lib.hid ((b.block _ (Array.getElem?_eq_some_iff.1 Rp42.out).1).trans Rp42.out)
  have Rs43 := Lib.hid ((b.block _ (Array.getElem?_eq_some_iff.1 Rs42.out).1).trans Rs42.out)
  have Rt43 := Lib.hid ((b.block _ (Array.getElem?_eq_some_iff.1 Rt42.out).1).trans Rt42.out)
  clear b
  go_upto_region 31 with fail
  obtain ⟨w44, hw⟩ : ∃ y : World, w43.alloc (.cells #[.int .i64 0, .slice none 0 0, .slice none 0 0] 35) = y := ⟨_, rfl⟩
  have BA : Hid (Below w43.heap.size w43 w44) := Lib.hid (by rw [← hw]; exact (Below.refl _ _).alloc (Nat.le_refl _) _)
  have B44 := Lib.hid (B43.out.trans (BA.out.mono B43.out.size))
  have Rp44 := Lib.hid ((BA.out.block _ (Array.getElem?_eq_some_iff.1 Rp43.out).1).trans Rp43.out)
  have Rs44 := Lib.hid ((BA.out.block _ (Array.getElem?_eq_some_iff.1 Rs43.out).1).trans Rs43.out)
  have Rt44 := Lib.hid ((BA.out.block _ (Array.getElem?_eq_some_iff.1 Rt43.out).1).trans Rt43.out)
  rw [hw]
  clear hw BA
  go_wp2_with fail
  refine (HI2.out w44 B44.out).mono ?_
  rintro ev w45 ⟨rfl, b⟩
  have B45 := Lib.hid (B44.out.trans (b.mono B44.out.size))
  have Rp45 := Lib.hid ((b.block _ (Array.getElem?_eq_some_iff.1 Rp44.out).1).trans Rp44.out)
  have Rs45 := Lib.hid ((b.block _ (Array.getElem?_eq_some_iff.1 Rs44.out).1).trans Rs44.out)
  have Rt45 := Lib.hid ((b.block _ (Array.getElem?_eq_some_iff.1 Rt44.out).1).trans Rt44.out)
  clear b
  go_wp2_with fail
  refine (HI2.out w45 B45.out).mono ?_
  rintro ev w46 ⟨rfl, b⟩
  have B46 := Lib.hid (B45.out.trans (b.mono B45.out.size))
  have Rp46 := Lib.hid ((b.block _ (Array.getElem?_eq_some_iff.1 Rp45.out).1).trans Rp45.out)
  have Rs46 := Lib.hid ((b.block _ (Array.getElem?_eq_some_iff.1 Rs45.out).1).trans Rs45.out)
  have Rt46 := Lib.hid ((b.block _ (Array.getElem?_eq_some_iff.1 Rt45.out).1).trans Rt45.out)
  clear b
  go_wp2_with fail
  refine (HI2.out w46 B46.out).mono ?_
  rintro ev w47 ⟨rfl, b⟩
  have B47 := Lib.hid (B46.out.trans (b.mono B46.out.size))
  have Rp47 := Lib.hid ((b.block _ (Array.getElem?_eq_some_iff.1 Rp46.out).1).trans Rp46.out)
  have Rs47 := Lib.hid ((b.block _ (Array.getElem?_eq_some_iff.1 Rs46.out).1).trans Rs46.out)
  have Rt47 := Lib.hid ((b.block _ (Array.getElem?_eq_some_iff.1 Rt46.out).1).trans Rt46.out)
  clear b
  go_wp2_with fail
  refine (HI2.out w47 B47.out).mono ?_
  rintro ev w48 ⟨rfl, b⟩
  have B48 := Lib.hid (B47.out.trans (b.mono B47.out.size))
  have Rp48 := Lib.hid ((b.block _ (Array.getElem?_eq_some_iff.1 Rp47.out).1).trans Rp47.out)
  have Rs48 := Lib.hid ((b.block _ (Array.getElem?_eq_some_iff.1 Rs47.out).1).trans Rs47.out)
  have Rt48 := Lib.hid ((b.block _ (Array.getElem?_eq_some_iff.1 Rt47.out).1).trans Rt47.out)
  clear b
  go_wp2_with fail
  refine (HI2.out w48 B48.out).mono ?_
  rintro ev w49 ⟨rfl, b⟩
  have B49 := Lib.hid (B48.out.trans (b.mono B48.out.size))
  have Rp49 := Lib.hid ((b.block _ (Array.getElem?_eq_some_iff.1 Rp48.out).1).trans Rp48.out)
  have Rs49 := Lib.hid ((b.block _ (Array.getElem?_eq_some_iff.1 Rs48.out).1).trans Rs48.out)
  have Rt49 := Lib.hid ((b.block _ (Array.getElem?_eq_some_iff.1 Rt48.out).1).trans Rt48.out)
  clear b
  go_wp2_with fail
  refine (HI2.out w49 B49.out).mono ?_
  rintro ev w50 ⟨rfl, b⟩
  have B50 := Lib.hid (B49.out.trans (b.mono B49.out.size))
  have Rp50 := Lib.hid ((b.block _ (Array.getElem?_eq_some_iff.1 Rp49.out).1).trans Rp49.out)
  have Rs50 := Lib.hid ((b.block _ (Array.getElem?_eq_some_iff.1 Rs49.out).1).trans Rs49.out)
  have Rt50 := Lib.hid ((b.block _ (Array.getElem?_eq_some_iff.1 Rt49.out).1).trans Rt49.out)
  clear b
  go_wp2_with fail
  refine (HI2.out w50 B50.out).mono ?_
  rintro ev w51 ⟨rfl, b⟩
  have B51 := Lib.hid (B50.out.trans (b.mono B50.out.size))
  have Rp51 := Lib.hid ((b.block _ (Array.getElem?_eq_some_iff.1 Rp50.out).1).trans Rp50.out)
  have Rs51 := Lib.hid ((b.block _ (Array.getElem?_eq_some_iff.1 Rs50.out).1).trans Rs50.out)
  have Rt51 := Lib.hid ((b.block _ (Array.getElem?_eq_some_iff.1 Rt50.out).1).trans Rt50.out)
  clear b
  go_wp2_with fail
  refine (HI2.out w51 B51.out).mono ?_
  rintro ev w52 ⟨rfl, b⟩
  have B52 := Lib.hid (B51.out.trans (b.mono B51.out.size))
  have Rp52 := Lib.hid ((b.block _ (Array.getElem?_eq_some_iff.1 Rp51.out).1).trans Rp51.out)
  have Rs52 := Lib.hid ((b.block _ (Array.getElem?_eq_some_iff.1 Rs51.out).1).trans Rs51.out)
  have Rt52 := Lib.hid ((b.block _ (Array.getElem?_eq_some_iff.1 Rt51.out).1).trans Rt51.out)
  clear b
  go_wp2_with fail
  refine (HI12.out w52 B52.out).mono ?_
  rintro ev w53 ⟨rfl, b⟩
  have B53 := Lib.hid (B52.out.trans (b.mono B52.out.size))
  have Rp53 := Lib.hid ((b.block _ (Array.getElem?_eq_some_iff.1 Rp52.out).1).trans Rp52.out)
  have Rs53 := Lib.hid ((b.block _ (Array.getElem?_eq_some_iff.1 Rs52.out).1).trans Rs52.out)
  have Rt53 := Lib.hid ((b.block _ (Array.getElem?_eq_some_iff.1 Rt52.out).1).trans Rt52.out)
  clear b
  go_wp2_with fail
  refine (HI3.out w53 B53.out).mono ?_
  rintro ev w54 ⟨rfl, b⟩
  have B54 := Lib.hid (B53.out.trans (b.mono B53.out.size))
  have Rp54 := Lib.hid ((b.block _ (Array.getElem?_eq_some_iff.1 Rp53.out).1).trans Rp53.out)
  have Rs54 := Lib.hid ((b.block _ (Array.getElem?_eq_some_iff.1 Rs53.out).1).trans Rs53.out)
  have Rt54 := Lib.hid ((b.block _ (Array.getElem?_eq_some_iff.1 Rt53.out).1).trans Rt53.out)
  clear b
  go_wp2_with fail
  refine (HI3.out w54 B54.out).mono ?_
  rintro ev w55 ⟨rfl, b⟩
  have B55 := Lib.hid (B54.out.trans (b.mono B54.out.size))
  have Rp55 := Lib.hid ((b.block _ (Array.getElem?_eq_some_iff.1 Rp54.out).1).trans Rp54.out)
  have Rs55 := Lib.hid ((b.block _ (Array.getElem?_eq_some_iff.1 Rs54.out).1).trans Rs54.out)
  have Rt55 := Lib.hid ((b.block _ (Array.getElem?_eq_some_iff.1 Rt54.out).1).trans Rt54.out)
  clear b
  go_wp2_with fail
  refine (HI3.out w55 B55.out).mono ?_
  rintro ev w56 ⟨rfl, b⟩
  have B56 := Lib.hid (B55.out.trans (b.mono B55.out.size))
  have Rp56 := Lib.hid ((b.block _ (Array.getElem?_eq_some_iff.1 Rp55.out).1).trans Rp55.out)
  have Rs56 := Lib.hid ((b.block _ (Array.getElem?_eq_some_iff.1 Rs55.out).1).trans Rs55.out)
  have Rt56 := Lib.hid ((b.block _ (Array.getElem?_eq_some_iff.1 Rt55.out).1).trans Rt55.out)
  clear b
  go_wp2_with fail
  refine (HI1.out w56 B56.out).mono ?_
  rintro ev w57 ⟨rfl, b⟩
  have B57 := Lib.hid (B56.out.trans (b.mono B56.out.size))
  have Rp57 := Lib.hid ((b.block _ (Array.getElem?_eq_some_iff.1 Rp56.out).1).trans Rp56.out)
  have Rs57 := Lib.hid ((b.block _ (Array.getElem?_eq_some_iff.1 Rs56.out).1).trans Rs56.out)
  have Rt57 := Lib.hid ((b.block _ (Array.getElem?_eq_some_iff.1 Rt56.out).1).trans Rt56.out)
  clear b
  go_wp2_with fail
  refine (HPN.out w57 B57.out).mono ?_
  rintro ev w58 ⟨rfl, b⟩
  have B58 := Lib.hid (B57.out.trans (b.mono B57.out.size))
  have Rp58 := Lib.hid ((b.block _ (Array.getElem?_eq_some_iff.1 Rp57.out).1).trans Rp57.out)
  have Rs58 := Lib.hid ((b.block _ (Array.getElem?_eq_some_iff.1 Rs57.out).1).trans Rs57.out)
  have Rt58 := Lib.hid ((b.block _ (Array.getElem?_eq_some_iff.1 Rt57.out).1).trans Rt57.out)
  clear b
  go_wp2_with fail
  refine (HLN.out w58 B58.out).mono ?_
  rintro ev w59 ⟨rfl, b⟩
  have B59 := Lib.hid (B58.out.trans (b.mono B58.out.size))
  have Rp59 := Lib.hid ((b.block _ (Array.getElem?_eq_some_iff.1 Rp58.out).1).trans Rp58.out)
  have Rs59 := Lib.hid ((b.block _ (Array.getElem?_eq_some_iff.1 Rs58.out).1).trans Rs58.out)
  have Rt59 := Lib.hid ((b.block _ (Array.getElem?_eq_some_iff.1 Rt58.out).1).trans Rt58.out)
  clear b
  go_wp2_with fail
  refine (HLV.out w59 B59.out).mono ?_
  rintro ev w60 ⟨rfl, b⟩
  have B60 := Lib.hid (B59.out.trans (b.mono B59.out.size))
  have Rp60 := Lib.hid ((b.block _ (Array.getElem?_eq_some_iff.1 Rp59.out).1).trans Rp59.out)
  have Rs60 := Lib.hid ((b.block _ (Array.getElem?_eq_some_iff.1 Rs59.out).1).trans Rs59.out)
  have Rt60 := Lib.hid ((b.block _ (Array.getElem?_eq_some_iff.1 Rt59.out).1).trans Rt59.out)
  clear b
  go_wp2_with fail
  refine (HI12.out w60 B60.out).mono ?_
  rintro ev w61 ⟨rfl, b⟩
  have B61 := Lib.hid (B60.out.trans (b.mono B60.out.size))
  have Rp61 := Lib.hid ((b.block _ (Array.getElem?_eq_some_iff.1 Rp60.out).1).trans Rp60.out)
  have Rs61 := Lib.hid ((b.block _ (Array.getElem?_eq_some_iff.1 Rs60.out).1).trans Rs60.out)
  have Rt61 := Lib.hid ((b.block _ (Array.getElem?_eq_some_iff.1 Rt60.out).1).trans Rt60.out)
  clear b
  go_wp2_with fail
  go_ret
  exact ⟨rfl, BS.out.trans (B61.out.mono BS.out.size)⟩
end Go.Proofs.YtnpblpbcchminaaDoor
