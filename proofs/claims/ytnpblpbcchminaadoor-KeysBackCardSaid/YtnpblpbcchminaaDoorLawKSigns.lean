/- cartularylaw23.KeysSigns. Condition: the table reads as listed. -/
import Derived.Test.YtnpblpbcchminaaDoorSameHashes
import Derived.Test.YtnpblpbcchminaaDoorMem
import Derived.Test.YtnpblpbcchminaaDoorKeysLives
import Derived.Test.YtnpblpbcchminaaDoorKeysArg
namespace Go.Proofs.YtnpblpbcchminaaDoor
open Go.ChangeShapes Go.WideShapes Go.ChangeAt Go.RowKit
set_option linter.unusedVariables false

set_option maxRecDepth 100000 in
set_option maxHeartbeats 8000000 in
theorem round_any (x : Int) (w : World) (h1 : -9223372036854775808 ≤ x) (h2 : x ≤ 9223372036854775807) :
    Calls Tryd.prog 6 #[.int .i64 x, .int .i64 7] w fun ev w' => ∃ n : Nat, n < 7 ∧ ev = .returned (.int .i64 n) ∧ w = w' := by
  obtain ⟨r, hr⟩ : ∃ r, x.tmod 7 = r := ⟨_, rfl⟩
  have r1 := Int.tmod_lt_of_pos x (b := 7) (by omega)
  have r2 := Int.lt_tmod_of_pos x (b := 7) (by omega)
  rw [hr] at r1 r2
  have hw : IntKind.i64.wrap r = r := IntWalk.i64_in _ (by omega)
  have hw7 : IntKind.i64.wrap (r + 7) = r + 7 := IntWalk.i64_in _ (by omega)
  by_cases hn : r < 0
  · go_enter Tryd.func6, Tryd.ntmps6
    go_wp2
    go_ret
    exact ⟨(r + 7).toNat, by omega, by rw [show (((r + 7).toNat : Nat) : Int) = r + 7 by omega]; rfl, rfl⟩
  · have hd : decide (r < 0) = false := by simp; omega
    go_enter Tryd.func6, Tryd.ntmps6
    go_wp2
    go_ret
    exact ⟨r.toNat, by omega, by rw [show ((r.toNat : Nat) : Int) = r by omega]; rfl, rfl⟩
set_option maxRecDepth 100000 in
set_option maxHeartbeats 8000000 in
theorem same_zero (w : World) : Calls Tryd.prog 11 #[.agg #[.int .i64 0, .slice none 0 0, .slice none 0 0], .agg #[.int .i64 0, .slice none 0 0, .slice none 0 0]] w fun ev w' => ev = .returned (.bool true) ∧ Below w.heap.size w w' := by
  obtain ⟨wv, hwv⟩ : ∃ y9 : World, ((w.alloc (.cells #[.int .i64 0, .slice none 0 0, .slice none 0 0] 35)).alloc (.cells #[.int .i64 0, .slice none 0 0, .slice none 0 0] 35)) = y9 := ⟨_, rfl⟩
  have HBv : Hid (Below w.heap.size w wv) := Lib.hid (by rw [← hwv]; exact (((Below.refl _ _).alloc (by simp <;> omega) _).alloc (by simp <;> omega) _))
  have HSV : Hid (wv.heap.size = w.heap.size + 2) := Lib.hid (by rw [← hwv]; simp)
  have RA : Hid (wv.heap[w.heap.size]? = some (.cells #[.int .i64 0, .slice none 0 0, .slice none 0 0] 35 (0, 0))) := Lib.hid (by rw [← hwv]; exact (((Below.refl (w.alloc (.cells #[.int .i64 0, .slice none 0 0, .slice none 0 0] 35)).heap.size (w.alloc (.cells #[.int .i64 0, .slice none 0 0, .slice none 0 0] 35))).alloc (Nat.le_refl _) _).block w.heap.size (by simp <;> omega)).trans (heap_at _ _ _ (by simp <;> omega)))
  have RB : Hid (wv.heap[(w.heap.size + 1)]? = some (.cells #[.int .i64 0, .slice none 0 0, .slice none 0 0] 35 (0, 0))) := Lib.hid (by rw [← hwv]; exact heap_at _ _ _ (by simp <;> omega))
  have HWV := Lib.hid hwv
  have hsv := HSV.out
  have nl : ∀ w' : World, HIn w' none 0 0 [] := fun w' => ⟨fun z hz => by simp at hz, rfl, Nat.le_refl _, by omega, .inl rfl⟩
  have HSH : Hid (∀ w', Calls Tryd.prog 26 #[.slice none 0 0, .slice none 0 0] w' fun ev w2 => ev = .returned (.bool true) ∧ Below w'.heap.size w' w2) := Lib.hid (fun w' => same_hashes [] [] none none 0 0 0 0 w' (by omega) (nl w') (nl w'))
  have a0 : wv.cell? ⟨w.heap.size, 0, none⟩ = some (.int .i64 0) := (cell_of_row wv _ 0 _ 35 (0, 0) RA.out).trans rfl
  have a1 : wv.cell? ⟨w.heap.size, 1, none⟩ = some (.slice none 0 0) := (cell_of_row wv _ 1 _ 35 (0, 0) RA.out).trans rfl
  have b0 : wv.cell? ⟨w.heap.size + 1, 0, none⟩ = some (.int .i64 0) := (cell_of_row wv _ 0 _ 35 (0, 0) RB.out).trans rfl
  have b1 : wv.cell? ⟨w.heap.size + 1, 1, none⟩ = some (.slice none 0 0) := (cell_of_row wv _ 1 _ 35 (0, 0) RB.out).trans rfl
  clear nl hwv
  go_enter Tryd.func11, Tryd.ntmps11
  go_upto_region 1 with fail
  rw [HWV.out]
  go_wp2_with fail
  refine (HSH.out wv).mono ?_
  rintro ev w1 ⟨rfl, b⟩
  have B1 := Lib.hid b
  have c0 : w1.cell? ⟨w.heap.size, 2, none⟩ = some (.slice none 0 0) := (cell_of_row w1 _ 2 _ 35 (0, 0) ((b.block _ (by omega)).trans RA.out)).trans rfl
  have c1 : w1.cell? ⟨w.heap.size + 1, 2, none⟩ = some (.slice none 0 0) := (cell_of_row w1 _ 2 _ 35 (0, 0) ((b.block _ (by omega)).trans RB.out)).trans rfl
  clear b
  go_wp2_with fail
  refine (HSH.out w1).mono ?_
  rintro ev w2 ⟨rfl, b⟩
  have B2 := Lib.hid (B1.out.trans (b.mono B1.out.size))
  clear b
  go_wp2_with fail
  go_ret
  exact ⟨rfl, HBv.out.trans (B2.out.mono HBv.out.size)⟩

set_option maxRecDepth 100000 in
set_option maxHeartbeats 8000000 in
theorem ksigns_any (a : Nat → Addr) (s : List UInt8) (x1 : Int) (l : List ByteArray) (A : Option Addr) (n c : Nat) (w : World) (hE : Env w.heap.size a w) (hs : s.length = 32) (h1 : -9223372036854775808 ≤ x1) (h2 : x1 ≤ 9223372036854775807) (hin : SIn w A n c l) :
    Calls Tryd.prog 3 #[hv s, .int .i64 x1, .slice A n c] w fun e w' => e = .returned (.bool true) ∧ Below w.heap.size w w' := by
  obtain ⟨v0, ev0, Hv0, Zv0, Iv0, Ov0⟩ := row_of s hs
  obtain ⟨wv, hwv⟩ : ∃ y9 : World, (w.alloc (.cells v0 23)) = y9 := ⟨_, rfl⟩
  have HBv : Hid (Below w.heap.size w wv) := Lib.hid (by rw [← hwv]; exact ((Below.refl _ _).alloc (by simp <;> omega) _))
  have HSV : Hid (wv.heap.size = w.heap.size + 1) := Lib.hid (by rw [← hwv]; simp)
  have RA : Hid (wv.heap[w.heap.size]? = some (.cells v0 23 (0, 0))) := Lib.hid (by rw [← hwv]; exact heap_at _ _ _ (by simp <;> omega))
  have HWV := Lib.hid hwv
  have hsv := HSV.out
  have HE := Lib.hid hE
  have HIN := Lib.hid hin
  have HS := Lib.hid hs
  have EV0 := Lib.hid ev0
  have HRO := Lib.hid (round_any x1 wv h1 h2)
  rw [ev0]
  clear hE hin hs ev0 h1 h2 hwv
  go_enter Tryd.func3, Tryd.ntmps3
  go_upto_region 1 with fail
  rw [HWV.out]
  go_wp2_with fail
  refine HRO.out.mono ?_
  rintro ev wz ⟨m, hm7, rfl, rfl⟩
  obtain ⟨L, hL⟩ : ∃ L, leavesK s m = L := ⟨_, rfl⟩
  have HNEW : Hid (Calls Tryd.prog 7 #[.agg v0, .int .i64 m] wv fun ev w' => ∃ b u0 ls, wv.heap.size ≤ b ∧ ev = .returned (.tuple #[.pointer (some ⟨b, 0, none⟩), .nilIface]) ∧ KAt w' b s (rowB L) m 0 u0 ls ∧ Below wv.heap.size wv w') := Lib.hid (by
    have := new_ok s m wv HS.out (by omega) (HE.out.step HBv.out).tab
    rw [EV0.out, hL] at this; exact this)
  have HLL : Hid (L.length = 2 ^ m) := Lib.hid (by rw [← hL]; exact leavesK_length _ _)
  have HLK := Lib.hid hL
  clear hL
  go_wp2_with (refine wpList_load_row rfl 23 _ rfl w.heap.size rfl 23 v0 (0, 0) _ RA.out Tryd.underlying23 rfl Iv0.out ?_)
  refine HNEW.out.mono ?_
  rintro ev w1 ⟨b, u0, ls, hb, rfl, hK1, b1⟩
  have HK1 := Lib.hid hK1
  have B1 := Lib.hid (HBv.out.trans (b1.mono HBv.out.size))
  have HBB : Hid (w.heap.size < b) := Lib.hid (by omega)
  have hkb : b ≠ 17 := by have := HE.out.tab.lt; omega
  obtain ⟨p, hp⟩ : ∃ p, rootK L m = p := ⟨_, rfl⟩
  have HPR : Hid ((rowB L m)[0]? = some p) := Lib.hid (by rw [← hp]; exact rootK_at HLL.out)
  have HP32 : Hid (p.length = 32) := Lib.hid (by rw [← hp, ← HLK.out]; exact rootK_len)
  have HPK := Lib.hid hp
  obtain ⟨vp, evp, Hvp, Zvp, Ivp, Ovp⟩ := row_of p HP32.out
  have EVP := Lib.hid evp
  have HPU1 : Hid (Calls Tryd.prog 8 #[.pointer (some ⟨b, 0, none⟩)] w1 fun ev w2 => ev = .returned (.agg vp) ∧ Below w1.heap.size w1 w2) := Lib.hid (by
    have := kpub_any b s (rowB L) m 0 u0 ls w1 hK1 (by omega) p HPR.out
    rw [evp] at this; exact this)
  obtain ⟨Q, hQ⟩ : ∃ Q, 2 ^ m = Q := ⟨_, rfl⟩
  have HQ := Lib.hid hQ
  have hQ64 : Q ≤ 64 := by rw [← hQ]; exact Nat.pow_le_pow_right (n := 2) (by omega) (show m ≤ 6 by omega)
  have hQ0 : 0 < Q := by rw [← hQ]; exact Nat.two_pow_pos _
  have e4 : wrap64 ((2 : Int) ^ m) = (Q : Int) := by
    rw [← hQ, show ((2 : Int) ^ m) = ((2 ^ m : Nat) : Int) by push_cast; rfl]
    exact IntWalk.wrap64_in _ (by omega)
  have e6 : IntKind.i64.wrap ((2 : Int) ^ m) = (Q : Int) := by
    rw [← hQ, show ((2 : Int) ^ m) = ((2 ^ m : Nat) : Int) by push_cast; rfl]
    exact IntWalk.i64_in _ (by omega)
  clear evp hp hK1 b1 hQ
  go_wp2_with fail
  refine HPU1.out.mono ?_
  rintro ev w2 ⟨rfl, b2⟩
  have B2 := Lib.hid (B1.out.trans (b2.mono B1.out.size))
  have HK2 := Lib.hid (HK1.out.below b2)
  clear b2
  go_upto_region 7 with (refine wpList_store_row_any rfl 23 _ _ rfl w2.heap.size vp rfl rfl 23 _ (heap_at _ _ _ rfl) Ivp.out (by rw [Zvp.out]; rfl) Ovp.out ?_; intro w3 hbN hgN hsN; have B3 : Hid (Below w2.heap.size w2 w3) := Lib.hid (((Below.refl _ w2).alloc (Nat.le_refl _) _).trans (hbN.to_below (by simp) (fun k hk q => by omega))); have R3 := Lib.hid hgN; clear hbN hgN hsN)
  obtain ⟨G1, hG1⟩ : ∃ y, w2.heap.size = y := ⟨_, rfl⟩
  have HG1 : Hid (b < G1) := Lib.hid (by rw [← hG1]; exact HK2.out.lt)
  have HK3 := Lib.hid (HK2.out.below B3.out)
  have BF3 := Lib.hid (B2.out.trans (B3.out.mono B2.out.size))
  rw [hG1] at R3 ⊢
  clear hG1
  go_wp2_with fail
  go_loopw [12] (fun k wr => ∃ i : Nat, (i ≤ n ∧ i ≤ 70) ∧ k = .int .i64 i ∧ Hid (KAt wr b s (rowB L) m (Nat.min i Q) u0 ls) ∧ Hid (wr.heap[G1]? = some (.cells vp 23 (0, 0))) ∧ Hid (Below w.heap.size w wr)) (fun k _ => 70 - (intOf k).toNat)
  case atStart => exact ⟨0, ⟨Nat.zero_le _, by omega⟩, rfl, Lib.hid (by rw [show Nat.min 0 Q = 0 from Nat.min_eq_left (by omega)]; exact HK3.out), R3, BF3⟩
  case round =>
    obtain ⟨i, hi, rfl, HK, HR, HB⟩ := hrel
    by_cases hlt : i < n ∧ i < 70
    · obtain ⟨t, ht⟩ : ∃ t, l[i]? = some t := ⟨_, List.getElem?_eq_getElem (by have := HIN.out.1; omega)⟩
      obtain ⟨g, o, rfl, hct, hgl, hts⟩ := HIN.out.at ht
      have HCT : Hid (∀ w', Below w.heap.size w w' → w'.cell? ⟨g, o + i, none⟩ = some (.string t)) := Lib.hid (fun w' hw => cell_below hw hct hgl)
      have zt := HCT.out wr HB.out
      have i0 : (0 : Int) ≤ i := by omega
      have i1 : (i : Int) < n := by omega
      have i2 : (i : Int) < 70 := by omega
      have hl2 := hlt
      clear hct hgl ht
      by_cases hq : i < Q
      · have hmin : Nat.min i Q = i := Nat.min_eq_left (by omega)
        rw [hmin] at HK
        have HSG := Lib.hid (ksign_ok b s L m i u0 ls t wr HK.out (by omega) HLL.out (by rw [HQ.out]; exact hq) HS.out (by omega) (HE.out.step HB.out).tab hkb)
        have hge : decide ((Q : Int) ≤ i) = false := by simp; omega
        have hgen : decide (Q ≤ i) = false := by simp; omega
        clear hmin
        go_wp2_with fail
        refine HSG.out.mono ?_
        rintro ev w4 ⟨G0, A9, c9, rfl, hC, hP, hK4, hB4⟩
        obtain ⟨sv, hsv9⟩ : ∃ y : Array Value, #[.int .i64 i, .slice (some ⟨G0, 0, none⟩) 67 67, .slice A9 m c9] = y := ⟨_, rfl⟩
        have Zsv : Hid (sv.size = 3) := Lib.hid (by rw [← hsv9]; rfl)
        have Isv : Hid ((Tryd.prog.info? 35).map (·.size) = some sv.size) := Lib.hid (by rw [Zsv.out]; kernel_rfl)
        have Osv : Hid (sv.all (·.oneCell') = true) := Lib.hid (by rw [← hsv9]; simp [Value.oneCell'])
        have HSV9 := Lib.hid hsv9
        have B4 : Hid (Below w.heap.size w w4) := Lib.hid (HB.out.trans (hB4.to_below HB.out.size (fun k hk q => by have := HBB.out; omega)))
        have RP4 : Hid (w4.heap[G1]? = some (.cells vp 23 (0, 0))) := Lib.hid ((hB4.same _ (Array.getElem?_eq_some_iff.1 HR.out).1 (by have := HG1.out; omega)).trans HR.out)
        have HC := Lib.hid hC
        have HP := Lib.hid hP
        have HK4 := Lib.hid hK4
        rw [hsv9]
        clear hsv9 hC hP hK4 hB4
        go_upto_region 11 with (refine wpList_store_row_any rfl 35 _ _ rfl w4.heap.size sv rfl rfl 35 _ (heap_at _ _ _ rfl) Isv.out (by rw [Zsv.out]; rfl) Osv.out ?_; intro w5 hbN hgN hsN; have B5 : Hid (Below w4.heap.size w4 w5) := Lib.hid (((Below.refl _ w4).alloc (Nat.le_refl _) _).trans (hbN.to_below (by simp) (fun k hk q => by omega))); have RS5 := Lib.hid hgN; clear hbN hgN hsN)
        obtain ⟨G5, hG5⟩ : ∃ y, w4.heap.size = y := ⟨_, rfl⟩
        have BF5 := Lib.hid (B4.out.trans (B5.out.mono B4.out.size))
        have RP5 := Lib.hid ((B5.out.block _ (Array.getElem?_eq_some_iff.1 RP4.out).1).trans RP4.out)
        have HK5 := Lib.hid (HK4.out.below B5.out)
        have HC5 := Lib.hid (HC.out.below B5.out)
        have HP5 := Lib.hid (HP.out.below B5.out)
        have HE5 := Lib.hid (HE.out.step BF5.out)
        rw [hG5] at RS5 ⊢
        clear hG5
        obtain ⟨D, hD⟩ : ∃ D, 2 ^ m - (i + 1) = D := ⟨_, rfl⟩
        have hDQ : (Q : Int) - i - 1 = D := by have := HQ.out; omega
        have hw1 : IntKind.i64.wrap ((Q : Int) - i) = (Q : Int) - i := IntWalk.i64_in _ (by omega)
        have hw2 : IntKind.i64.wrap ((Q : Int) - i - 1) = (D : Int) := by rw [hDQ]; exact IntWalk.i64_in _ (by omega)
        have hq9 := fun w => (show (Op.equalIn 10000 23 (.agg vp) (.agg vp)).run Tryd.prog w = .ok true w by rw [eq_hash p p HP32.out HP32.out vp vp EVP.out EVP.out w]; simp)
        have HLE : Hid (∀ w', Below w5.heap.size w5 w' → Calls Tryd.prog 12 #[.pointer (some ⟨b, 0, none⟩)] w' fun ev w2 => ev = .returned (.int .i64 D) ∧ Below w'.heap.size w' w2) := Lib.hid (fun w' hw => by
          have := kleft_any b s (rowB L) m (i + 1) u0 ls w' (HK5.out.below hw) (by omega) (by rw [HQ.out]; omega)
          rw [hD] at this; exact this)
        have HPU : Hid (∀ w', Below w5.heap.size w5 w' → Calls Tryd.prog 8 #[.pointer (some ⟨b, 0, none⟩)] w' fun ev w2 => ev = .returned (.agg vp) ∧ Below w'.heap.size w' w2) := Lib.hid (fun w' hw => by
          have := kpub_any b s (rowB L) m (i + 1) u0 ls w' (HK5.out.below hw) (by omega) p HPR.out
          rw [EVP.out] at this; exact this)
        have HVE : Hid (∀ w', Below w5.heap.size w5 w' → Calls Tryd.prog 13 #[.agg vp, .int .i64 m, .string t, .agg sv] w' fun ev w2 => ev = .returned .nilIface ∧ Below w'.heap.size w' w2) := Lib.hid (fun w' hw => by
          have := kver_ok a w.heap.size p m i t (some ⟨G0, 0, none⟩) A9 67 c9 (sigB (ownB s i) (msgB i (bOf t))) (pathK L m i) w' (HE5.out.step hw) HP32.out (by omega) (by rw [HQ.out]; exact hq) (by omega) (HC5.out.below hw) (HP5.out.below hw) (by rw [← HPK.out, ← HLK.out]; exact says_key s m i _ (by rw [HQ.out]; exact hq))
          rw [EVP.out, HSV9.out] at this; exact this)
        have KT9 : Hid (∀ w', But (fun _ => False) w5 w' → w'.cell? ⟨g, o + i, none⟩ = some (.string t)) := Lib.hid (fun w' hw => HCT.out w' (BF5.out.trans (But.to_below hw BF5.out.size (fun _ _ q => q))))
        have KS : Hid (∀ w', But (fun _ => False) w5 w' → w'.cell? ⟨G5, 0, none⟩ = some (.int .i64 i) ∧ w'.cell? ⟨G5, 1, none⟩ = some (.slice (some ⟨G0, 0, none⟩) 67 67) ∧ w'.cell? ⟨G5, 2, none⟩ = some (.slice A9 m c9)) := Lib.hid (fun w' hw => by
          have hg := (hw.same _ (Array.getElem?_eq_some_iff.1 RS5.out).1 (fun q => q)).trans RS5.out
          rw [← HSV9.out] at hg
          exact ⟨(cell_of_row w' _ 0 _ 35 (0, 0) hg).trans rfl, (cell_of_row w' _ 1 _ 35 (0, 0) hg).trans rfl, (cell_of_row w' _ 2 _ 35 (0, 0) hg).trans rfl⟩)
        have hwD : IntKind.i64.wrap (D : Int) = D := IntWalk.i64_in _ (by omega)
        clear hD hDQ
        go_upto_region 14 with fail
        refine wp_region_held_drew (S := But (fun _ => False) w5) (by kernel_rfl) (But.refl _ _).drew (fun hHeld => ?_)
        refine tk (i := 0) (v := ?v1) rfl ?y1 ?r1
        case y1 => (intro w hSw; (try dsimp only at hSw); go_simp; (try with_reducible rfl))
        try simp only [pu]
        refine tk (i := 1) (v := ?v2) rfl ?y2 ?r2
        case y2 => (intro w hSw; (try dsimp only at hSw); go_simp; (try with_reducible rfl))
        try simp only [pu]
        refine tk (i := 2) (v := ?v3) rfl ?y3 ?r3
        case y3 => (intro w hSw; (try dsimp only at hSw); go_simp; (try with_reducible rfl))
        try simp only [pu]
        refine tk (i := 3) (v := ?v4) rfl ?y4 ?r4
        case y4 => (intro w hSw; (try dsimp only at hSw); go_simp; (try with_reducible rfl))
        try simp only [pu]
        refine tk (i := 4) (v := ?v5) rfl ?y5 ?r5
        case y5 => (intro w hSw; (try dsimp only at hSw); obtain ⟨z0, z1, z2⟩ := KS.out w hSw; go_simp; (try with_reducible rfl))
        try simp only [pu]
        refine tk (i := 5) (v := ?v6) rfl ?y6 ?r6
        case y6 => (intro w hSw; (try dsimp only at hSw); go_simp; (try with_reducible rfl))
        try simp only [pu]
        refine tk (i := 6) (v := ?v7) rfl ?y7 ?r7
        case y7 => (intro w hSw; (try dsimp only at hSw); go_simp; (try with_reducible rfl))
        try simp only [pu]
        refine tk (i := 7) (v := ?v8) rfl ?y8 ?r8
        case y8 => (intro w hSw; (try dsimp only at hSw); go_simp; (try with_reducible rfl))
        try simp only [pu]
        refine tk (i := 8) (v := ?v9) rfl ?y9 ?r9
        case y9 => (intro w hSw; (try dsimp only at hSw); go_simp; (try with_reducible rfl))
        try simp only [pu]
        refine tk (i := 9) (v := ?v10) rfl ?y10 ?r10
        case y10 => (intro w hSw; (try dsimp only at hSw); go_simp; (try with_reducible rfl))
        try simp only [pu]
        refine tk (i := 11) (v := ?v11) rfl ?y11 ?r11
        case y11 => (intro w hSw; (try dsimp only at hSw); go_simp; (try with_reducible rfl))
        try simp only [pu]
        refine tk (i := 12) (v := ?v12) rfl ?y12 ?r12
        case y12 => (intro w hSw; (try dsimp only at hSw); go_simp; (try with_reducible rfl))
        try simp only [pu]
        refine tk (i := 13) (v := ?v13) rfl ?y13 ?r13
        case y13 => (intro w hSw; (try dsimp only at hSw); go_simp; (try with_reducible rfl))
        try simp only [pu]
        refine tk (i := 14) (v := ?v14) rfl ?y14 ?r14
        case y14 => (intro w hSw; (try dsimp only at hSw); go_simp; (try with_reducible rfl))
        try simp only [pu]
        refine wpAnyH_ready (rs := [10]) (by kernel_rfl) (by simp) ?_
        refine AllReadyH.cons (i := 10) rfl (fun K2 hK2 => ?_) AllReadyH.nil
        go_simp
        go_at_call 12
        refine (HLE.out w5.drew (But.to_below ((But.refl (fun _ => False) w5).drew) (Nat.le_refl _) (fun _ _ q => q))).mono ?_
        rintro ev w701 ⟨rfl, bw701⟩
        try go_wp2_with fail
        obtain ⟨Kw701, fw701⟩ := st_call ((But.refl (fun _ => False) w5).drew) bw701
        have Kw701 := Lib.hid Kw701
        clear bw701 fw701
        refine hK2.out _ _ Kw701.out (fun hHeld2 => ?_)
        clear hK2 K2
        try simp only [pu]
        refine tk (i := 15) (v := ?v15) rfl ?y15 ?r15
        case y15 => (intro w hSw; (try dsimp only at hSw); go_simp; (try with_reducible rfl))
        try simp only [pu]
        refine tk (i := 16) (v := ?v16) rfl ?y16 ?r16
        case y16 => (intro w hSw; (try dsimp only at hSw); go_simp; (try with_reducible rfl))
        try simp only [pu]
        refine tk (i := 17) (v := ?v17) rfl ?y17 ?r17
        case y17 => (intro w hSw; (try dsimp only at hSw); go_simp; (try with_reducible rfl))
        try simp only [pu]
        refine tk (i := 18) (v := ?v18) rfl ?y18 ?r18
        case y18 => (intro w hSw; (try dsimp only at hSw); go_simp; (try with_reducible rfl))
        try simp only [pu]
        refine tw (i := 20) rfl (yieldsIf_load_row (by rfl) 23 _ (by rfl) G1 (by rfl) 23 vp (0, 0) _ (fun w h => (h.same _ (Array.getElem?_eq_some_iff.1 RP5.out).1 (fun q => q)).trans RP5.out) Tryd.underlying23 (by rfl) Ivp.out) ?_
        try simp only [pu]
        refine wpAnyH_ready (rs := [19]) (by kernel_rfl) (by simp) ?_
        refine AllReadyH.cons (i := 19) rfl (fun K2 hK2 => ?_) AllReadyH.nil
        go_simp
        go_at_call 8
        refine (HPU.out w701 (But.to_below Kw701.out (Nat.le_refl _) (fun _ _ q => q))).mono ?_
        rintro ev w702 ⟨rfl, bw702⟩
        try go_wp2_with fail
        obtain ⟨Kw702, fw702⟩ := st_call Kw701.out bw702
        have Kw702 := Lib.hid Kw702
        clear bw702 fw702
        refine hK2.out _ _ Kw702.out (fun hHeld2 => ?_)
        clear hK2 K2
        try simp only [pu]
        refine tk (i := 21) (v := ?v20) rfl ?y20 ?r20
        case y20 => (intro w hSw; (try dsimp only at hSw); go_simp; (try with_reducible rfl))
        try simp only [pu]
        refine tk (i := 22) (v := ?v21) rfl ?y21 ?r21
        case y21 => (intro w hSw; (try dsimp only at hSw); go_simp; (try with_reducible rfl))
        try simp only [pu]
        refine tk (i := 23) (v := ?v22) rfl ?y22 ?r22
        case y22 => (intro w hSw; (try dsimp only at hSw); go_simp; (try with_reducible rfl))
        try simp only [pu]
        refine tw (i := 24) rfl (yieldsIf_load_row (by rfl) 23 _ (by rfl) G1 (by rfl) 23 vp (0, 0) _ (fun w h => (h.same _ (Array.getElem?_eq_some_iff.1 RP5.out).1 (fun q => q)).trans RP5.out) Tryd.underlying23 (by rfl) Ivp.out) ?_
        try simp only [pu]
        refine tk (i := 25) (v := ?v24) rfl ?y24 ?r24
        case y24 => (intro w hSw; (try dsimp only at hSw); go_simp; (try with_reducible rfl))
        try simp only [pu]
        refine tk (i := 26) (v := ?v25) rfl ?y25 ?r25
        case y25 => (intro w hSw; (try dsimp only at hSw); go_simp; (try with_reducible rfl))
        try simp only [pu]
        refine tk (i := 27) (v := ?v26) rfl ?y26 ?r26
        case y26 => (intro w hSw; (try dsimp only at hSw); go_simp; (try with_reducible rfl))
        try simp only [pu]
        refine tk (i := 28) (v := ?v27) rfl ?y27 ?r27
        case y27 => (intro w hSw; (try dsimp only at hSw); go_simp; (try with_reducible rfl))
        try simp only [pu]
        refine tk (i := 29) (v := ?v28) rfl ?y28 ?r28
        case y28 => (intro w hSw; (try dsimp only at hSw); have z9 := KT9.out w hSw; go_simp; (try with_reducible rfl))
        try simp only [pu]
        refine tw (i := 30) rfl (yieldsIf_load_row (by rfl) 35 _ (by rfl) G5 (by rfl) 35 sv (0, 0) _ (fun w h => (h.same _ (Array.getElem?_eq_some_iff.1 RS5.out).1 (fun q => q)).trans RS5.out) Tryd.underlying35 (by rfl) Isv.out) ?_
        try simp only [pu]
        refine wpAnyH_ready (rs := [31]) (by kernel_rfl) (by simp) ?_
        refine AllReadyH.cons (i := 31) rfl (fun K2 hK2 => ?_) AllReadyH.nil
        go_simp
        go_at_call 13
        refine (HVE.out w702 (But.to_below Kw702.out (Nat.le_refl _) (fun _ _ q => q))).mono ?_
        rintro ev w703 ⟨rfl, bw703⟩
        try go_wp2_with fail
        obtain ⟨Kw703, fw703⟩ := st_call Kw702.out bw703
        have Kw703 := Lib.hid Kw703
        clear bw703 fw703
        refine hK2.out _ _ Kw703.out (fun hHeld2 => ?_)
        clear hK2 K2
        try simp only [pu]
        refine tk (i := 32) (v := ?v30) rfl ?y30 ?r30
        case y30 => (intro w hSw; (try dsimp only at hSw); go_simp; (try with_reducible rfl))
        try simp only [pu]
        refine tk (i := 33) (v := ?v31) rfl ?y31 ?r31
        case y31 => (intro w hSw; (try dsimp only at hSw); go_simp; (try with_reducible rfl))
        try simp only [pu]
        refine wpAnyH_done (by kernel_rfl) ?_ _
        have KE := Lib.hid Kw703.out
        obtain ⟨w9, hw9⟩ : ∃ y : World, w703 = y := ⟨_, rfl⟩
        have B9 : Hid (Below w5.heap.size w5 w9) := Lib.hid (by rw [← hw9]; exact But.to_below KE.out (Nat.le_refl _) (fun _ _ q => q))
        rw [hw9]
        clear hw9 KE
        go_wp2_with fail
        go_roundw
        case rel => exact ⟨i + 1, by omega, by go_num, Lib.hid (by rw [show Nat.min (i + 1) Q = i + 1 by exact Nat.min_eq_left (by omega)]; exact HK5.out.below B9.out), Lib.hid ((B9.out.block _ (Array.getElem?_eq_some_iff.1 RP5.out).1).trans RP5.out), Lib.hid (BF5.out.trans (B9.out.mono BF5.out.size))⟩
        case measure => simp [intOf]; omega
      · have hmin : Nat.min i Q = Q := Nat.min_eq_right (by omega)
        have hmin1 : Nat.min (i + 1) Q = Q := Nat.min_eq_right (by omega)
        rw [hmin] at HK
        have hge : decide ((Q : Int) ≤ i) = true := by simp; omega
        have hgen : decide (Q ≤ i) = true := by simp; omega
        have HSP := Lib.hid (ksign_spent a w.heap.size b s (rowB L) m u0 ls t wr (HE.out.step HB.out) (by rw [HQ.out]; exact HK.out) (by omega))
        have HM1 := Lib.hid hmin1
        clear hmin hmin1
        go_wp2_with fail
        refine HSP.out.mono ?_
        rintro ev w4 ⟨rfl, b4⟩
        have B4 := Lib.hid b4
        clear b4
        go_upto_region 11 with fail
        obtain ⟨w5, hw5⟩ : ∃ y : World, w4.alloc (.cells #[.int .i64 0, .slice none 0 0, .slice none 0 0] 35) = y := ⟨_, rfl⟩
        have B5 : Hid (Below wr.heap.size wr w5) := Lib.hid (by rw [← hw5]; exact B4.out.alloc B4.out.size _)
        obtain ⟨zv, hzv⟩ : ∃ y : Array Value, #[.int .i64 0, .slice none 0 0, .slice none 0 0] = y := ⟨_, rfl⟩
        have R5 : Hid (w5.heap[w4.heap.size]? = some (.cells zv 35 (0, 0))) := Lib.hid (by rw [← hw5, ← hzv]; exact heap_at _ _ _ rfl)
        have Izv : Hid ((Tryd.prog.info? 35).map (·.size) = some zv.size) := Lib.hid (by rw [← hzv]; kernel_rfl)
        obtain ⟨G5, hG5⟩ : ∃ y, w4.heap.size = y := ⟨_, rfl⟩
        have BF5 := Lib.hid (HB.out.trans (B5.out.mono HB.out.size))
        have HK5 := Lib.hid (HK.out.below B5.out)
        have RP5 := Lib.hid ((B5.out.block _ (Array.getElem?_eq_some_iff.1 HR.out).1).trans HR.out)
        have HE5 := Lib.hid (HE.out.step BF5.out)
        have HIS : Hid (Calls Tryd.prog 10 #[errV a 11, .int .i64 11] w5 fun ev w2 => ev = .returned (.bool true) ∧ Below w5.heap.size w5 w2) := Lib.hid (is_sent a w.heap.size 11 w5 HE5.out.laid (by omega) (by omega))
        have HSS : Hid (∀ w', Calls Tryd.prog 11 #[.agg zv, .agg #[.int .i64 0, .slice none 0 0, .slice none 0 0]] w' fun ev w2 => ev = .returned (.bool true) ∧ Below w'.heap.size w' w2) := Lib.hid (fun w' => by
          have := same_zero w'
          rw [hzv] at this ⊢; exact this)
        have HLE : Hid (∀ w', Below w5.heap.size w5 w' → Calls Tryd.prog 12 #[.pointer (some ⟨b, 0, none⟩)] w' fun ev w2 => ev = .returned (.int .i64 0) ∧ Below w'.heap.size w' w2) := Lib.hid (fun w' hw => by
          have := kleft_any b s (rowB L) m Q u0 ls w' (HK5.out.below hw) (by omega) (by rw [HQ.out]; omega)
          rw [HQ.out, Nat.sub_self] at this; exact this)
        rw [hw5, hG5]
        rw [hG5] at R5
        clear hw5 hzv hG5
        go_wp2_with fail
        refine HIS.out.mono ?_
        rintro ev w6 ⟨rfl, b6⟩
        have B6 := Lib.hid b6
        have R6 := Lib.hid ((b6.block _ (Array.getElem?_eq_some_iff.1 R5.out).1).trans R5.out)
        clear b6
        go_wp2_with (refine wpList_load_row_g rfl 35 _ rfl G5 rfl 35 zv (0, 0) _ R6.out Tryd.underlying35 rfl Izv.out ?_)
        refine (HSS.out w6).mono ?_
        rintro ev w7 ⟨rfl, b7⟩
        have B7 := Lib.hid (B6.out.trans (b7.mono B6.out.size))
        clear b7
        go_wp2_with fail
        refine (HLE.out w7 B7.out).mono ?_
        rintro ev w8 ⟨rfl, b8⟩
        have B8 := Lib.hid (B7.out.trans (b8.mono B7.out.size))
        clear b8
        go_wp2_with fail
        go_roundw
        case rel => exact ⟨i + 1, by omega, by go_num, Lib.hid (by rw [HM1.out]; exact HK5.out.below B8.out), Lib.hid ((B8.out.block _ (Array.getElem?_eq_some_iff.1 RP5.out).1).trans RP5.out), Lib.hid (BF5.out.trans (B8.out.mono BF5.out.size))⟩
        case measure => simp [intOf]; omega
    · have HLV := Lib.hid (lives23_any a w.heap.size wr (HE.out.step HB.out))
      by_cases hn : i < n
      · obtain rfl : i = 70 := by omega
        have i1 : (((70 : Nat) : Int)) < n := by omega
        go_wp2_with fail
        refine HLV.out.mono ?_
        rintro ev w9 ⟨rfl, b9⟩
        have B9 := Lib.hid (HB.out.trans (b9.mono HB.out.size))
        clear b9
        go_wp2_with fail
        go_ret
        exact ⟨rfl, B9.out⟩
      · obtain rfl : n = i := by omega
        go_wp2_with fail
        refine HLV.out.mono ?_
        rintro ev w9 ⟨rfl, b9⟩
        have B9 := Lib.hid (HB.out.trans (b9.mono HB.out.size))
        clear b9
        go_wp2_with fail
        go_ret
        exact ⟨rfl, B9.out⟩

end Go.Proofs.YtnpblpbcchminaaDoor
