import Derived.Test.YtnpblpbcchminaaGreatDoorKbKeysEnc
/- cartularylaw23.lives; what a tree of keys signs, verifies: plain. Condition: the table reads as listed. -/
namespace Go.Proofs.YtnpblpbcchminaaGreatDoor
open Go.ChangeShapes Go.WideShapes Go.ChangeAt Go.RowKit
set_option linter.unusedVariables false

theorem rootK_at {l : List (List UInt8)} {n : Nat} (hl : l.length = 2 ^ n) : (rowB l n)[0]? = some (rootK l n) := by
  have h := rowB_length hl n (Nat.le_refl _)
  rw [Nat.sub_self] at h
  unfold rootK
  rw [List.getD_eq_getElem?_getD, List.getElem?_eq_getElem (by rw [h]; decide)]; rfl
/-- what the key i signs says the tree's root -/
theorem says_key (s : List UInt8) (n i : Nat) (t : List UInt8) (hi : i < 2 ^ n) : Says nodeH i (2 ^ n - 1) (kleafB (recB (msgB i t) (sigB (ownB s i) (msgB i t)))) (pathK (leavesK s n) n i) (rootK (leavesK s n) n) := by
  have h := says_path (leavesK_length s n) hi n (Nat.le_refl _)
  rw [Nat.sub_self, Nat.pow_zero, Nat.div_one, List.drop_zero] at h
  rw [rec_sig (msgB_length _ _)]
  have e : (rowB (leavesK s n) 0).getD i [] = kleafB (pubB (ownB s i)) := by
    show (leavesK s n).getD i [] = _
    rw [List.getD_eq_getElem?_getD, leavesK_at s n i hi]; rfl
  rw [e] at h
  exact h
theorem flat_eq : ∀ {L : List (List UInt8)}, H32 L → L.flatten.length = 32 * L.length
  | [], _ => rfl
  | x :: L, h => by
    have h1 := flat_eq (L := L) (fun z hz => h z (by simp [hz]))
    have h2 := h x (by simp)
    rw [List.flatten_cons, List.length_append, h1, h2, List.length_cons]; omega
theorem rootK_len {s : List UInt8} {n : Nat} : (rootK (leavesK s n) n).length = 32 := by
  have h := rootK_at (leavesK_length s n)
  exact rowB_mem (leavesK_h32 s n) n _ (List.mem_of_getElem? h)

set_option maxRecDepth 100000 in
set_option maxHeartbeats 8000000 in
theorem lives23_any (a : Nat → Addr) (B : Nat) (w : World) (hE : Env B a w) :
    Calls Tryz.prog 12 #[] w fun ev w' => ev = .returned (.bool true) ∧ Below w.heap.size w w' := by
  have HE := Lib.hid hE
  obtain ⟨L, hL⟩ : ∃ L, leavesK zeroH 0 = L := ⟨_, rfl⟩
  have HNEW : Hid (Calls Tryz.prog 13 #[.agg #[.int .u8 0, .int .u8 0, .int .u8 0, .int .u8 0, .int .u8 0, .int .u8 0, .int .u8 0, .int .u8 0, .int .u8 0, .int .u8 0, .int .u8 0, .int .u8 0, .int .u8 0, .int .u8 0, .int .u8 0, .int .u8 0, .int .u8 0, .int .u8 0, .int .u8 0, .int .u8 0, .int .u8 0, .int .u8 0, .int .u8 0, .int .u8 0, .int .u8 0, .int .u8 0, .int .u8 0, .int .u8 0, .int .u8 0, .int .u8 0, .int .u8 0, .int .u8 0], .int .i64 0] w fun ev w' => ∃ b v0 ls, w.heap.size ≤ b ∧ ev = .returned (.tuple #[.pointer (some ⟨b, 0, none⟩), .nilIface]) ∧ KAt w' b zeroH (rowB L) 0 0 v0 ls ∧ Below w.heap.size w w') := Lib.hid (by
    have := new_ok zeroH 0 w zeroH_length (by omega) hE.tab
    rw [zeroH_v, hL] at this; exact this)
  have HLL : Hid (L.length = 2 ^ 0) := Lib.hid (by rw [← hL]; exact leavesK_length _ _)
  have HLK := Lib.hid hL
  clear hE hL
  go_enter Tryz.func12, Tryz.ntmps12
  go_wp2_with fail
  refine HNEW.out.mono ?_
  rintro ev w1 ⟨b, v0, ls, hb, rfl, hK1, b1⟩
  have HK1 := Lib.hid hK1
  have B1 := Lib.hid b1
  have HBB := Lib.hid hb
  have hkb : b ≠ 17 := by have := HE.out.tab.lt; omega
  have HLE1 : Hid (Calls Tryz.prog 24 #[.pointer (some ⟨b, 0, none⟩)] w1 fun ev w' => ev = .returned (.int .i64 1) ∧ Below w1.heap.size w1 w') := Lib.hid (kleft_any b zeroH (rowB L) 0 0 v0 ls w1 hK1 (by omega) (by omega))
  clear hK1 b1
  go_wp2_with fail
  refine HLE1.out.mono ?_
  rintro ev w2 ⟨rfl, b2⟩
  have B2 := Lib.hid (B1.out.trans (b2.mono B1.out.size))
  have HK2 := Lib.hid (HK1.out.below b2)
  clear b2
  obtain ⟨ta, hta⟩ : ∃ y : ByteArray, (⟨#[97]⟩ : ByteArray) = y := ⟨_, rfl⟩
  have HSG : Hid (Calls Tryz.prog 16 #[.pointer (some ⟨b, 0, none⟩), .string ⟨#[97]⟩] w2 fun ev w' => ∃ G0 A c, ev = .returned (.tuple #[.agg #[.int .i64 0, .slice (some ⟨G0, 0, none⟩) 67 67, .slice A 0 c], .nilIface]) ∧ HIn w' (some ⟨G0, 0, none⟩) 67 67 (sigB (ownB zeroH 0) (msgB 0 (bOf ta))) ∧ HIn w' A 0 c (pathK L 0 0) ∧ KAt w' b zeroH (rowB L) 0 1 v0 ls ∧ But (· = b) w2 w') := Lib.hid (by
    rw [← hta]
    exact ksign_ok b zeroH L 0 0 v0 ls ⟨#[97]⟩ w2 HK2.out (by omega) HLL.out (by decide) zeroH_length (Nat.le_of_lt (by decide)) (HE.out.step B2.out).tab hkb)
  have HTA := Lib.hid hta
  clear hta
  go_wp2_with fail
  refine HSG.out.mono ?_
  rintro ev w3 ⟨G0, A, c, rfl, hC, hP, hK3, hB3⟩
  obtain ⟨sv, hsv9⟩ : ∃ y : Array Value, #[.int .i64 0, .slice (some ⟨G0, 0, none⟩) 67 67, .slice A 0 c] = y := ⟨_, rfl⟩
  have Zsv : Hid (sv.size = 3) := Lib.hid (by rw [← hsv9]; rfl)
  have Isv : Hid ((Tryz.prog.info? 26).map (·.size) = some sv.size) := Lib.hid (by rw [Zsv.out]; kernel_rfl)
  have Osv : Hid (sv.all (·.oneCell') = true) := Lib.hid (by rw [← hsv9]; simp [Value.oneCell'])
  have HSV9 := Lib.hid hsv9
  have B3 : Hid (Below w.heap.size w w3) := Lib.hid (B2.out.trans (hB3.to_below B2.out.size (fun k hk q => by have := HBB.out; omega)))
  have HC := Lib.hid hC
  have HP := Lib.hid hP
  have HK3 := Lib.hid hK3
  rw [hsv9]
  clear hsv9 hC hP hK3 hB3
  go_upto_region 5 with (refine wpList_store_row_any rfl 26 _ _ rfl w3.heap.size sv rfl rfl 26 _ (heap_at _ _ _ rfl) Isv.out (by rw [Zsv.out]; rfl) Osv.out ?_; intro w4 hbN hgN hsN; have B4 : Hid (Below w3.heap.size w3 w4) := Lib.hid (((Below.refl _ w3).alloc (Nat.le_refl _) _).trans (hbN.to_below (by simp) (fun k hk q => by omega))); have R4 := Lib.hid hgN; clear hbN hgN hsN)
  have B4w := Lib.hid (B3.out.trans (B4.out.mono B3.out.size))
  have HK4 := Lib.hid (HK3.out.below B4.out)
  have HSP : Hid (Calls Tryz.prog 16 #[.pointer (some ⟨b, 0, none⟩), .string ⟨#[97]⟩] w4 fun ev w' => ev = .returned (.tuple #[.agg #[.int .i64 0, .slice none 0 0, .slice none 0 0], errV a 11]) ∧ Below w4.heap.size w4 w') := Lib.hid (ksign_spent a B b zeroH (rowB L) 0 v0 ls ⟨#[97]⟩ w4 (HE.out.step B4w.out) HK4.out (by omega))
  go_wp2_with fail
  refine HSP.out.mono ?_
  rintro ev w5 ⟨rfl, b5⟩
  have B5 := Lib.hid b5
  clear b5
  go_upto_region 6 with fail
  obtain ⟨w6, hw6⟩ : ∃ y : World, w5.alloc (.cells #[.int .i64 0, .slice none 0 0, .slice none 0 0] 26) = y := ⟨_, rfl⟩
  have B6 : Hid (Below w4.heap.size w4 w6) := Lib.hid (by rw [← hw6]; exact B5.out.alloc B5.out.size _)
  obtain ⟨G3, hG3⟩ : ∃ y, w3.heap.size = y := ⟨_, rfl⟩
  rw [hw6, hG3]
  rw [hG3] at R4
  have hg4 : G3 < w4.heap.size := (Array.getElem?_eq_some_iff.1 R4.out).1
  have R6 : Hid (w6.heap[G3]? = some (.cells sv 26 (0, 0))) := Lib.hid ((B6.out.block _ hg4).trans R4.out)
  have HC6 := Lib.hid ((HC.out.below B4.out).below B6.out)
  have HP6 := Lib.hid ((HP.out.below B4.out).below B6.out)
  have HK6 := Lib.hid (HK4.out.below B6.out)
  have B6w := Lib.hid (B4w.out.trans (B6.out.mono B4w.out.size))
  obtain ⟨st, hst⟩ : ∃ y : ByteArray, ⟨(encB 0 (sigB (ownB zeroH 0) (msgB 0 (bOf ta))) 0 (pathK L 0 0)).toArray⟩ = y := ⟨_, rfl⟩
  have HEN : Hid (Calls Tryz.prog 26 #[.agg sv] w6 fun ev w' => ev = .returned (.tuple #[.string st, .nilIface]) ∧ Below w6.heap.size w6 w') := Lib.hid (by
    rw [← HSV9.out, ← hst]
    exact enc_ok 0 0 (some ⟨G0, 0, none⟩) A 67 c _ _ w6 (by omega) (by omega) HC6.out HP6.out)
  have hsz : ((st.size : Int) == 2146) = true := by
    have h1 : st.size = (encB 0 (sigB (ownB zeroH 0) (msgB 0 (bOf ta))) 0 (pathK L 0 0)).length := by rw [← hst]; show Array.size _ = _; simp
    have h2 := flat_eq HC6.out.1
    rw [sigB_length] at h2
    have h3 : pathK L 0 0 = [] := rfl
    rw [h1, h3]
    simp [encB, h2]
  clear hw6 hG3 hst
  go_wp2_with (refine wpList_load_row rfl 26 _ rfl G3 rfl 26 sv (0, 0) _ R6.out Tryz.underlying26 rfl Isv.out ?_)
  refine HEN.out.mono ?_
  rintro ev w7 ⟨rfl, b7⟩
  have B7 := Lib.hid b7
  have RS7 := Lib.hid ((b7.block _ (by have := B6.out.size; omega)).trans R6.out)
  have BF := Lib.hid (B6w.out.trans (b7.mono B6w.out.size))
  have HC7 := Lib.hid (HC6.out.below b7)
  have HP7 := Lib.hid (HP6.out.below b7)
  have HK7 := Lib.hid (HK6.out.below b7)
  have HE7 := Lib.hid (HE.out.step BF.out)
  clear b7
  obtain ⟨p, hp⟩ : ∃ p, rootK L 0 = p := ⟨_, rfl⟩
  have HPR : Hid ((rowB L 0)[0]? = some p) := Lib.hid (by rw [← hp]; exact rootK_at HLL.out)
  have HP32 : Hid (p.length = 32) := Lib.hid (by rw [← hp, ← HLK.out]; exact rootK_len)
  obtain ⟨vp, evp, Hvp, Zvp, Ivp, Ovp⟩ := row_of p HP32.out
  have HSY : Hid (Says nodeH 0 (2 ^ 0 - 1) (kleafB (recB (msgB 0 (bOf ta)) (sigB (ownB zeroH 0) (msgB 0 (bOf ta))))) (pathK L 0 0) p) := Lib.hid (by
    rw [← hp, ← HLK.out]
    exact says_key zeroH 0 0 _ (by decide))
  have HIS : Hid (∀ w', Below w7.heap.size w7 w' → Calls Tryz.prog 31 #[errV a 11, .int .i64 11] w' fun ev w2 => ev = .returned (.bool true) ∧ Below w'.heap.size w' w2) := Lib.hid (fun w' hw => is_sent a B 11 w' (HE7.out.step hw).laid (by omega) (by omega))
  have HLE : Hid (∀ w', Below w7.heap.size w7 w' → Calls Tryz.prog 24 #[.pointer (some ⟨b, 0, none⟩)] w' fun ev w2 => ev = .returned (.int .i64 0) ∧ Below w'.heap.size w' w2) := Lib.hid (fun w' hw => kleft_any b zeroH (rowB L) 0 1 v0 ls w' (HK7.out.below hw) (by omega) (by decide))
  have HPU : Hid (∀ w', Below w7.heap.size w7 w' → Calls Tryz.prog 23 #[.pointer (some ⟨b, 0, none⟩)] w' fun ev w2 => ev = .returned (.agg vp) ∧ Below w'.heap.size w' w2) := Lib.hid (fun w' hw => by
    have := kpub_any b zeroH (rowB L) 0 1 v0 ls w' (HK7.out.below hw) (by omega) p HPR.out
    rw [evp] at this; exact this)
  have HVE : Hid (∀ w', Below w7.heap.size w7 w' → Calls Tryz.prog 9 #[.agg vp, .int .i64 0, .string ⟨#[97]⟩, .agg sv] w' fun ev w2 => ev = .returned .nilIface ∧ Below w'.heap.size w' w2) := Lib.hid (fun w' hw => by
    have := kver_ok a B p 0 0 ⟨#[97]⟩ (some ⟨G0, 0, none⟩) A 67 c (sigB (ownB zeroH 0) (msgB 0 (bOf ta))) (pathK L 0 0) w' (HE7.out.step hw) HP32.out (by omega) (by decide) (Nat.le_of_lt (by decide)) (HC7.out.below hw) (HP7.out.below hw) (by rw [HTA.out]; exact HSY.out)
    rw [evp, show (#[.int .i64 ((0 : Nat) : Int), .slice (some ⟨G0, 0, none⟩) 67 67, .slice A 0 c] : Array Value) = sv from HSV9.out] at this
    exact this)
  have KS : Hid (∀ w', But (fun _ => False) w7 w' → w'.cell? ⟨G3, 0, none⟩ = some (.int .i64 0) ∧ w'.cell? ⟨G3, 1, none⟩ = some (.slice (some ⟨G0, 0, none⟩) 67 67) ∧ w'.cell? ⟨G3, 2, none⟩ = some (.slice A 0 c)) := Lib.hid (fun w' hw => by
    have hg := (hw.same _ (Array.getElem?_eq_some_iff.1 RS7.out).1 (fun q => q)).trans RS7.out
    rw [← HSV9.out] at hg
    exact ⟨(cell_of_row w' _ 0 _ 26 (0, 0) hg).trans rfl, (cell_of_row w' _ 1 _ 26 (0, 0) hg).trans rfl, (cell_of_row w' _ 2 _ 26 (0, 0) hg).trans rfl⟩)
  clear evp hp hkb hb
  go_upto_region 7 with fail
  refine wp_region_held_drew (S := But (fun _ => False) w7) (by kernel_rfl) (But.refl _ _).drew (fun hHeld => ?_)
  refine tk (i := 0) (v := ?v1) rfl ?y1 ?r1
  case y1 => (intro w hSw; (try dsimp only at hSw); go_simp; (try with_reducible rfl))
  try simp only [pu]
  refine tk (i := 1) (v := ?v2) rfl ?y2 ?r2
  case y2 => (intro w hSw; (try dsimp only at hSw); go_simp; (try with_reducible rfl))
  try simp only [pu]
  refine tk (i := 2) (v := ?v3) rfl ?y3 ?r3
  case y3 => (intro w hSw; (try dsimp only at hSw); go_simp; (try with_reducible rfl))
  try simp only [pu]
  refine tk (i := 3) (v := ?v4) rfl ?y4 ?r4
  case y4 => (intro w hSw; (try dsimp only at hSw); go_simp; (try with_reducible rfl))
  try simp only [pu]
  refine wpAnyH_ready (rs := [4]) (by kernel_rfl) (by simp) ?_
  refine AllReadyH.cons (i := 4) rfl (fun K2 hK2 => ?_) AllReadyH.nil
  go_simp
  go_at_call 31
  refine (HIS.out w7.drew (But.to_below ((But.refl (fun _ => False) w7).drew) (Nat.le_refl _) (fun _ _ q => q))).mono ?_
  rintro ev w701 ⟨rfl, bw701⟩
  try go_wp2_with fail
  obtain ⟨Kw701, fw701⟩ := st_call ((But.refl (fun _ => False) w7).drew) bw701
  have Kw701 := Lib.hid Kw701
  clear bw701 fw701
  refine hK2.out _ _ Kw701.out (fun hHeld2 => ?_)
  clear hK2 K2
  try simp only [pu]
  refine tk (i := 5) (v := ?v5) rfl ?y5 ?r5
  case y5 => (intro w hSw; (try dsimp only at hSw); go_simp; (try with_reducible rfl))
  try simp only [pu]
  refine tk (i := 6) (v := ?v6) rfl ?y6 ?r6
  case y6 => (intro w hSw; (try dsimp only at hSw); go_simp; (try with_reducible rfl))
  try simp only [pu]
  refine tk (i := 7) (v := ?v7) rfl ?y7 ?r7
  case y7 => (intro w hSw; (try dsimp only at hSw); go_simp; (try with_reducible rfl))
  try simp only [pu]
  refine wpAnyH_ready (rs := [8]) (by kernel_rfl) (by simp) ?_
  refine AllReadyH.cons (i := 8) rfl (fun K2 hK2 => ?_) AllReadyH.nil
  go_simp
  go_at_call 24
  refine (HLE.out w701 (But.to_below Kw701.out (Nat.le_refl _) (fun _ _ q => q))).mono ?_
  rintro ev w702 ⟨rfl, bw702⟩
  try go_wp2_with fail
  obtain ⟨Kw702, fw702⟩ := st_call Kw701.out bw702
  have Kw702 := Lib.hid Kw702
  clear bw702 fw702
  refine hK2.out _ _ Kw702.out (fun hHeld2 => ?_)
  clear hK2 K2
  try simp only [pu]
  refine tk (i := 9) (v := ?v8) rfl ?y8 ?r8
  case y8 => (intro w hSw; (try dsimp only at hSw); go_simp; (try with_reducible rfl))
  try simp only [pu]
  refine tk (i := 10) (v := ?v9) rfl ?y9 ?r9
  case y9 => (intro w hSw; (try dsimp only at hSw); go_simp; (try with_reducible rfl))
  try simp only [pu]
  refine tk (i := 11) (v := ?v10) rfl ?y10 ?r10
  case y10 => (intro w hSw; (try dsimp only at hSw); go_simp; (try with_reducible rfl))
  try simp only [pu]
  refine tk (i := 12) (v := ?v11) rfl ?y11 ?r11
  case y11 => (intro w hSw; (try dsimp only at hSw); go_simp; (try with_reducible rfl))
  try simp only [pu]
  refine tk (i := 13) (v := ?v12) rfl ?y12 ?r12
  case y12 => (intro w hSw; (try dsimp only at hSw); obtain ⟨z0, z1, z2⟩ := KS.out w hSw; go_simp; (try with_reducible rfl))
  try simp only [pu]
  refine tk (i := 14) (v := ?v13) rfl ?y13 ?r13
  case y13 => (intro w hSw; (try dsimp only at hSw); go_simp; (try with_reducible rfl))
  try simp only [pu]
  refine tk (i := 15) (v := ?v14) rfl ?y14 ?r14
  case y14 => (intro w hSw; (try dsimp only at hSw); go_simp; (try with_reducible rfl))
  try simp only [pu]
  refine tk (i := 16) (v := ?v15) rfl ?y15 ?r15
  case y15 => (intro w hSw; (try dsimp only at hSw); go_simp; (try with_reducible rfl))
  try simp only [pu]
  refine tk (i := 17) (v := ?v16) rfl ?y16 ?r16
  case y16 => (intro w hSw; (try dsimp only at hSw); go_simp; (try with_reducible rfl))
  try simp only [pu]
  refine tk (i := 18) (v := ?v17) rfl ?y17 ?r17
  case y17 => (intro w hSw; (try dsimp only at hSw); go_simp; (try with_reducible rfl))
  try simp only [pu]
  refine tk (i := 19) (v := ?v18) rfl ?y18 ?r18
  case y18 => (intro w hSw; (try dsimp only at hSw); obtain ⟨z0, z1, z2⟩ := KS.out w hSw; go_simp; (try with_reducible rfl))
  try simp only [pu]
  refine tk (i := 20) (v := ?v19) rfl ?y19 ?r19
  case y19 => (intro w hSw; (try dsimp only at hSw); go_simp; (try with_reducible rfl))
  try simp only [pu]
  refine tk (i := 21) (v := ?v20) rfl ?y20 ?r20
  case y20 => (intro w hSw; (try dsimp only at hSw); go_simp; (try with_reducible rfl))
  try simp only [pu]
  refine tk (i := 22) (v := ?v21) rfl ?y21 ?r21
  case y21 => (intro w hSw; (try dsimp only at hSw); go_simp; (try with_reducible rfl))
  try simp only [pu]
  refine tk (i := 23) (v := ?v22) rfl ?y22 ?r22
  case y22 => (intro w hSw; (try dsimp only at hSw); go_simp; (try with_reducible rfl))
  try simp only [pu]
  refine tk (i := 24) (v := ?v23) rfl ?y23 ?r23
  case y23 => (intro w hSw; (try dsimp only at hSw); go_simp; (try with_reducible rfl))
  try simp only [pu]
  refine tk (i := 25) (v := ?v24) rfl ?y24 ?r24
  case y24 => (intro w hSw; (try dsimp only at hSw); go_simp; (try with_reducible rfl))
  try simp only [pu]
  refine tk (i := 26) (v := ?v25) rfl ?y25 ?r25
  case y25 => (intro w hSw; (try dsimp only at hSw); go_simp; (try with_reducible rfl))
  try simp only [pu]
  refine tk (i := 27) (v := ?v26) rfl ?y26 ?r26
  case y26 => (intro w hSw; (try dsimp only at hSw); go_simp; (try with_reducible rfl))
  try simp only [pu]
  refine tk (i := 28) (v := ?v27) rfl ?y27 ?r27
  case y27 => (intro w hSw; (try dsimp only at hSw); go_simp; (try with_reducible rfl))
  try simp only [pu]
  refine tk (i := 29) (v := ?v28) rfl ?y28 ?r28
  case y28 => (intro w hSw; (try dsimp only at hSw); go_simp; (try with_reducible rfl))
  try simp only [pu]
  refine tk (i := 30) (v := ?v29) rfl ?y29 ?r29
  case y29 => (intro w hSw; (try dsimp only at hSw); go_simp; (try with_reducible rfl))
  try simp only [pu]
  refine tk (i := 31) (v := ?v30) rfl ?y30 ?r30
  case y30 => (intro w hSw; (try dsimp only at hSw); go_simp; (try with_reducible rfl))
  try simp only [pu]
  refine tk (i := 32) (v := ?v31) rfl ?y31 ?r31
  case y31 => (intro w hSw; (try dsimp only at hSw); go_simp; (try with_reducible rfl))
  try simp only [pu]
  refine tk (i := 33) (v := ?v32) rfl ?y32 ?r32
  case y32 => (intro w hSw; (try dsimp only at hSw); go_simp; (try with_reducible rfl))
  try simp only [pu]
  refine tw (i := 35) rfl (yieldsIf_load_row (by rfl) 26 _ (by rfl) G3 (by rfl) 26 sv (0, 0) _ (fun w h => (h.same _ (by have := RS7.out; exact (Array.getElem?_eq_some_iff.1 this).1) (fun q => q)).trans RS7.out) Tryz.underlying26 (by rfl) Isv.out) ?_
  try simp only [pu]
  refine wpAnyH_ready (rs := [34]) (by kernel_rfl) (by simp) ?_
  refine AllReadyH.cons (i := 34) rfl (fun K2 hK2 => ?_) AllReadyH.nil
  go_simp
  go_at_call 23
  refine (HPU.out w702 (But.to_below Kw702.out (Nat.le_refl _) (fun _ _ q => q))).mono ?_
  rintro ev w703 ⟨rfl, bw703⟩
  try go_wp2_with fail
  obtain ⟨Kw703, fw703⟩ := st_call Kw702.out bw703
  have Kw703 := Lib.hid Kw703
  clear bw703 fw703
  refine hK2.out _ _ Kw703.out (fun hHeld2 => ?_)
  clear hK2 K2
  try simp only [pu]
  refine wpAnyH_ready (rs := [36]) (by kernel_rfl) (by simp) ?_
  refine AllReadyH.cons (i := 36) rfl (fun K2 hK2 => ?_) AllReadyH.nil
  go_simp
  go_at_call 9
  refine (HVE.out w703 (But.to_below Kw703.out (Nat.le_refl _) (fun _ _ q => q))).mono ?_
  rintro ev w704 ⟨rfl, bw704⟩
  try go_wp2_with fail
  obtain ⟨Kw704, fw704⟩ := st_call Kw703.out bw704
  have Kw704 := Lib.hid Kw704
  clear bw704 fw704
  refine hK2.out _ _ Kw704.out (fun hHeld2 => ?_)
  clear hK2 K2
  try simp only [pu]
  refine tk (i := 37) (v := ?v34) rfl ?y34 ?r34
  case y34 => (intro w hSw; (try dsimp only at hSw); go_simp; (try with_reducible rfl))
  try simp only [pu]
  refine tk (i := 38) (v := ?v35) rfl ?y35 ?r35
  case y35 => (intro w hSw; (try dsimp only at hSw); go_simp; (try with_reducible rfl))
  try simp only [pu]
  refine tk (i := 39) (v := ?v36) rfl ?y36 ?r36
  case y36 => (intro w hSw; (try dsimp only at hSw); go_simp; (try with_reducible rfl))
  try simp only [pu]
  refine wpAnyH_done (by kernel_rfl) ?_ _
  have KE := Lib.hid Kw704.out
  go_wp2
  go_ret
  exact ⟨rfl, BF.out.trans ((But.to_below KE.out (Nat.le_refl _) (fun _ _ q => q)).mono BF.out.size)⟩

end Go.Proofs.YtnpblpbcchminaaGreatDoor
