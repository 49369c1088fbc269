/- cartularylaw23.KeysVerifies. Condition: the table reads as listed. -/
import Derived.Test.YtnpblpbcchminaaGreatDoorSameHashes
import Derived.Test.YtnpblpbcchminaaGreatDoorMem
import Derived.Test.YtnpblpbcchminaaGreatDoorBeyond
import Derived.Test.YtnpblpbcchminaaGreatDoorKeysVer2
import Derived.Test.YtnpblpbcchminaaGreatDoorKrefD
import Derived.Test.YtnpblpbcchminaaGreatDoorSignedArg
namespace Go.Proofs.YtnpblpbcchminaaGreatDoor
open Go.ChangeShapes Go.WideShapes Go.ChangeAt Go.RowKit
set_option linter.unusedVariables false

set_option maxRecDepth 100000 in
set_option maxHeartbeats 8000000 in
theorem twin_signed (x : Int) (m n : Nat) (A A2 : Option Addr) (c c2 : Nat) (C P : List (List UInt8)) (w : World) (h1 : HIn w A m c C) (h2 : HIn w A2 n c2 P) (hm : m ≤ 1048576) (hn : n ≤ 1048576) :
    Calls Tryz.prog 7 #[.agg #[.int .i64 x, .slice A m c, .slice A2 n c2]] w fun ev w' => ∃ G1 G2, ev = .returned (.agg #[.int .i64 x, .slice (some ⟨G1, 0, none⟩) m (m + 1), .slice (some ⟨G2, 0, none⟩) n (n + 1)]) ∧ Twin w' G1 C ∧ Twin w' G2 P ∧ Below w.heap.size w w' := by
  obtain ⟨wv, hwv⟩ : ∃ y9 : World, ((w.alloc (.cells #[.int .i64 x, .slice A m c, .slice A2 n c2] 26)).alloc (.cells #[.int .i64 0, .slice none 0 0, .slice none 0 0] 26)) = y9 := ⟨_, rfl⟩
  have HBv : Hid (Below w.heap.size w wv) := Lib.hid (by rw [← hwv]; exact (((Below.refl _ _).alloc (by simp <;> omega) _).alloc (by simp <;> omega) _))
  have HSV : Hid (wv.heap.size = w.heap.size + 2) := Lib.hid (by rw [← hwv]; simp)
  have RA : Hid (wv.heap[w.heap.size]? = some (.cells #[.int .i64 x, .slice A m c, .slice A2 n c2] 26 (0, 0))) := Lib.hid (by rw [← hwv]; exact (((Below.refl (w.alloc (.cells #[.int .i64 x, .slice A m c, .slice A2 n c2] 26)).heap.size (w.alloc (.cells #[.int .i64 x, .slice A m c, .slice A2 n c2] 26))).alloc (Nat.le_refl _) _).block w.heap.size (by simp <;> omega)).trans (heap_at _ _ _ (by simp <;> omega)))
  have RB : Hid (wv.heap[(w.heap.size + 1)]? = some (.cells #[.int .i64 0, .slice none 0 0, .slice none 0 0] 26 (0, 0))) := Lib.hid (by rw [← hwv]; exact heap_at _ _ _ (by simp <;> omega))
  have HWV := Lib.hid hwv
  have hsv := HSV.out
  have H1 := Lib.hid (h1.below HBv.out)
  have H20 := Lib.hid h2
  have HT1 := Lib.hid (twin_any A m c C wv H1.out hm)
  have z1 : wv.cell? ⟨w.heap.size, 1, none⟩ = some (.slice A m c) := (cell_of_row wv _ 1 _ 26 (0, 0) RA.out).trans rfl
  clear h1 h2 hwv
  go_enter Tryz.func7, Tryz.ntmps7
  go_upto_region 1 with fail
  rw [HWV.out]
  go_wp2_with fail
  refine HT1.out.mono ?_
  obtain ⟨G1, hG1⟩ : ∃ G, wv.heap.size = G := ⟨_, rfl⟩
  rw [hG1]
  rintro ev w1 ⟨rfl, ht1, b1⟩
  have T1 := Lib.hid ht1
  have B1 := Lib.hid b1
  have R1 : Hid (w1.heap[w.heap.size]? = some (.cells #[.int .i64 x, .slice A m c, .slice A2 n c2] 26 (0, 0))) := Lib.hid ((b1.block _ (by omega)).trans RA.out)
  have RB1 := Lib.hid ((b1.block _ (show w.heap.size + 1 < G1 by omega)).trans RB.out)
  have hs1 := T1.out.lt
  have y1 : w1.cell? ⟨w.heap.size, 1, none⟩ = some (.slice A m c) := (cell_of_row w1 _ 1 _ 26 (0, 0) R1.out).trans rfl
  have yf := frozen_of_row w1 w.heap.size 1 _ 26 R1.out
  clear ht1 b1 z1
  go_upto_region 2 with fail
  obtain ⟨w2, hw2⟩ : ∃ y, w1.setCell ⟨w.heap.size, 1, none⟩ (.slice (some ⟨G1, 0, none⟩) m (m + 1)) = y := ⟨_, rfl⟩
  have K2 : Hid (But (· = w.heap.size) w1 w2) := Lib.hid (by rw [← hw2]; exact (But.refl _ _).setCell _ _ _ (fun _ => rfl))
  have R2 : Hid (w2.heap[w.heap.size]? = some (.cells #[.int .i64 x, .slice (some ⟨G1, 0, none⟩) m (m + 1), .slice A2 n c2] 26 (0, 0))) := Lib.hid (by rw [← hw2]; exact heap_setCell_same w1 _ 1 _ 26 _ R1.out)
  have T2 := Lib.hid (T1.out.same (K2.out.same _ hs1 (by omega)))
  have RB2 := Lib.hid ((K2.out.same _ (by omega) (by omega)).trans RB1.out)
  have BW2 : Hid (Below w.heap.size w w2) := Lib.hid (HBv.out.trans ((B1.out.mono (by omega)).trans (K2.out.to_below (by omega) (fun k hk q => by omega))))
  have H22 := Lib.hid (H20.out.below BW2.out)
  have hs2 := K2.out.size
  have HT2 := Lib.hid (twin_any A2 n c2 P w2 H22.out hn)
  rw [hw2]
  clear hw2 y1 yf
  have z2 : w2.cell? ⟨w.heap.size, 2, none⟩ = some (.slice A2 n c2) := (cell_of_row w2 _ 2 _ 26 (0, 0) R2.out).trans rfl
  go_wp2_with fail
  refine HT2.out.mono ?_
  obtain ⟨G2, hG2⟩ : ∃ G, w2.heap.size = G := ⟨_, rfl⟩
  rw [hG2]
  rintro ev w3 ⟨rfl, ht3, b3⟩
  have T3 := Lib.hid ht3
  have B3 := Lib.hid b3
  have R3 : Hid (w3.heap[w.heap.size]? = some (.cells #[.int .i64 x, .slice (some ⟨G1, 0, none⟩) m (m + 1), .slice A2 n c2] 26 (0, 0))) := Lib.hid ((b3.block _ (by omega)).trans R2.out)
  have RB3 := Lib.hid ((b3.block _ (show w.heap.size + 1 < G2 by omega)).trans RB2.out)
  have T13 := Lib.hid (T2.out.same (b3.block _ (by omega)))
  have hs3 := T3.out.lt
  have y1 : w3.cell? ⟨w.heap.size, 2, none⟩ = some (.slice A2 n c2) := (cell_of_row w3 _ 2 _ 26 (0, 0) R3.out).trans rfl
  have yf := frozen_of_row w3 w.heap.size 2 _ 26 R3.out
  clear ht3 b3 z2
  go_upto_region 3 with fail
  obtain ⟨w4, hw4⟩ : ∃ y, w3.setCell ⟨w.heap.size, 2, none⟩ (.slice (some ⟨G2, 0, none⟩) n (n + 1)) = y := ⟨_, rfl⟩
  have K4 : Hid (But (· = w.heap.size) w3 w4) := Lib.hid (by rw [← hw4]; exact (But.refl _ _).setCell _ _ _ (fun _ => rfl))
  obtain ⟨sv, hsv9⟩ : ∃ y : Array Value, #[.int .i64 x, .slice (some ⟨G1, 0, none⟩) m (m + 1), .slice (some ⟨G2, 0, none⟩) n (n + 1)] = y := ⟨_, rfl⟩
  have Zsv : Hid (sv.size = 3) := Lib.hid (by rw [← hsv9]; rfl)
  have Isv : Hid ((Tryz.prog.info? 26).map (·.size) = some sv.size) := Lib.hid (by rw [Zsv.out]; kernel_rfl)
  have Osv : Hid (sv.all (·.oneCell') = true) := Lib.hid (by rw [← hsv9]; simp [Value.oneCell'])
  have Hsv9 := Lib.hid hsv9

  have R4 : Hid (w4.heap[w.heap.size]? = some (.cells sv 26 (0, 0))) := Lib.hid (by rw [← hw4, ← hsv9]; exact heap_setCell_same w3 _ 2 _ 26 _ R3.out)
  have RB4 := Lib.hid ((K4.out.same _ (by omega) (by omega)).trans RB3.out)
  have TA := Lib.hid (T13.out.same (K4.out.same _ (by omega) (by omega)))
  have TB := Lib.hid (T3.out.same (K4.out.same _ hs3 (by omega)))
  have BW4 : Hid (Below w.heap.size w w4) := Lib.hid (BW2.out.trans ((B3.out.mono (by omega)).trans (K4.out.to_below (by omega) (fun k hk q => by omega))))
  have hs4 := K4.out.size
  rw [hw4]
  clear hw4 y1 yf hsv9
  go_wp2_with (first
    | (refine wpList_load_row rfl 26 _ rfl w.heap.size rfl 26 sv (0, 0) _ R4.out Tryz.underlying26 rfl Isv.out ?_)
    | (refine wpList_store_row_any rfl 26 _ _ rfl (w.heap.size + 1) sv rfl rfl 26 _ RB4.out Isv.out (by rw [Zsv.out]; rfl) Osv.out ?_; intro w5 hbN hgN hsN; have B5 := Lib.hid hbN; have R5 := Lib.hid hgN; clear hbN hgN hsN))
  refine bodyPost_ret (v := .agg sv) (results_cell_row rfl _ _ (w.heap.size + 1) 26 sv (0, 0) _ rfl R5.out Tryz.underlying26 rfl Isv.out) rfl ⟨G1, G2, by rw [Hsv9.out], TA.out.same (B5.out.same _ (by omega) (by omega)), TB.out.same (B5.out.same _ (by omega) (by omega)), BW4.out.trans (B5.out.to_below (by omega) (fun k hk q => by omega))⟩

set_option maxRecDepth 100000 in
set_option maxHeartbeats 8000000 in
theorem left_signed (x : Int) (m n : Nat) (A A2 : Option Addr) (c c2 G1 G2 : Nat) (C P : List (List UInt8)) (w : World) (h1 : HIn w A m c C) (h2 : HIn w A2 n c2 P) (t1 : Twin w G1 C) (t2 : Twin w G2 P) (hm : m ≤ 1048576) (hn : n ≤ 1048576) :
    Calls Tryz.prog 11 #[.agg #[.int .i64 x, .slice (some ⟨G1, 0, none⟩) m (m + 1), .slice (some ⟨G2, 0, none⟩) n (n + 1)], .agg #[.int .i64 x, .slice A m c, .slice A2 n c2]] w fun ev w' => ev = .returned (.bool true) ∧ Below w.heap.size w w' := by
  obtain ⟨wv, hwv⟩ : ∃ y9 : World, ((w.alloc (.cells #[.int .i64 x, .slice (some ⟨G1, 0, none⟩) m (m + 1), .slice (some ⟨G2, 0, none⟩) n (n + 1)] 26)).alloc (.cells #[.int .i64 x, .slice A m c, .slice A2 n c2] 26)) = y9 := ⟨_, rfl⟩
  have HBv : Hid (Below w.heap.size w wv) := Lib.hid (by rw [← hwv]; exact (((Below.refl _ _).alloc (by simp <;> omega) _).alloc (by simp <;> omega) _))
  have HSV : Hid (wv.heap.size = w.heap.size + 2) := Lib.hid (by rw [← hwv]; simp)
  have RA : Hid (wv.heap[w.heap.size]? = some (.cells #[.int .i64 x, .slice (some ⟨G1, 0, none⟩) m (m + 1), .slice (some ⟨G2, 0, none⟩) n (n + 1)] 26 (0, 0))) := Lib.hid (by rw [← hwv]; exact (((Below.refl (w.alloc (.cells #[.int .i64 x, .slice (some ⟨G1, 0, none⟩) m (m + 1), .slice (some ⟨G2, 0, none⟩) n (n + 1)] 26)).heap.size (w.alloc (.cells #[.int .i64 x, .slice (some ⟨G1, 0, none⟩) m (m + 1), .slice (some ⟨G2, 0, none⟩) n (n + 1)] 26))).alloc (Nat.le_refl _) _).block w.heap.size (by simp <;> omega)).trans (heap_at _ _ _ (by simp <;> omega)))
  have RB : Hid (wv.heap[(w.heap.size + 1)]? = some (.cells #[.int .i64 x, .slice A m c, .slice A2 n c2] 26 (0, 0))) := Lib.hid (by rw [← hwv]; exact heap_at _ _ _ (by simp <;> omega))
  have HWV := Lib.hid hwv
  have hsv := HSV.out
  have HSH1 : Hid (∀ w', Below w.heap.size w w' → Calls Tryz.prog 43 #[.slice (some ⟨G1, 0, none⟩) m (m + 1), .slice A m c] w' fun ev w2 => ev = .returned (.bool true) ∧ Below w'.heap.size w' w2) := Lib.hid (fun w' hb => left_any G1 m c A C w' (t1.below hb) (h1.below hb) hm)
  have HSH2 : Hid (∀ w', Below w.heap.size w w' → Calls Tryz.prog 43 #[.slice (some ⟨G2, 0, none⟩) n (n + 1), .slice A2 n c2] w' fun ev w2 => ev = .returned (.bool true) ∧ Below w'.heap.size w' w2) := Lib.hid (fun w' hb => left_any G2 n c2 A2 P w' (t2.below hb) (h2.below hb) hn)
  have a0 : wv.cell? ⟨w.heap.size, 0, none⟩ = some (.int .i64 x) := (cell_of_row wv _ 0 _ 26 (0, 0) RA.out).trans rfl
  have a1 : wv.cell? ⟨w.heap.size, 1, none⟩ = some (.slice (some ⟨G1, 0, none⟩) m (m + 1)) := (cell_of_row wv _ 1 _ 26 (0, 0) RA.out).trans rfl
  have b0 : wv.cell? ⟨w.heap.size + 1, 0, none⟩ = some (.int .i64 x) := (cell_of_row wv _ 0 _ 26 (0, 0) RB.out).trans rfl
  have b1 : wv.cell? ⟨w.heap.size + 1, 1, none⟩ = some (.slice A m c) := (cell_of_row wv _ 1 _ 26 (0, 0) RB.out).trans rfl
  clear h1 h2 t1 t2 hwv
  go_enter Tryz.func11, Tryz.ntmps11
  go_upto_region 1 with fail
  rw [HWV.out]
  go_wp2_with fail
  refine (HSH1.out wv HBv.out).mono ?_
  rintro ev w1 ⟨rfl, b⟩
  have B1' := Lib.hid (HBv.out.trans (b.mono HBv.out.size))
  have c0 : w1.cell? ⟨w.heap.size, 2, none⟩ = some (.slice (some ⟨G2, 0, none⟩) n (n + 1)) := (cell_of_row w1 _ 2 _ 26 (0, 0) ((b.block _ (by omega)).trans RA.out)).trans rfl
  have c1 : w1.cell? ⟨w.heap.size + 1, 2, none⟩ = some (.slice A2 n c2) := (cell_of_row w1 _ 2 _ 26 (0, 0) ((b.block _ (by omega)).trans RB.out)).trans rfl
  clear b
  go_wp2_with fail
  refine (HSH2.out w1 B1'.out).mono ?_
  rintro ev w2 ⟨rfl, b⟩
  have B2' := Lib.hid (B1'.out.trans (b.mono B1'.out.size))
  clear b
  go_wp2_with fail
  go_ret
  exact ⟨rfl, B2'.out⟩

set_option maxRecDepth 100000 in
set_option maxHeartbeats 8000000 in
theorem ver_both (a : Nat → Addr) (B : Nat) (p : List UInt8) (hh x : Int) (m n : Nat) (t : ByteArray) (A A2 : Option Addr) (c c2 G1 G2 : Nat) (C P : List (List UInt8)) (w : World) (hE : Env B a w) (hp : p.length = 32) (ht : t.size ≤ 1048576) (hm : m ≤ 1048576) (hn : n ≤ 1048576) (h1 : HIn w A m c C) (h2 : HIn w A2 n c2 P) (t1 : Twin w G1 C) (t2 : Twin w G2 P) :
    ∃ k, k ≤ 16 ∧ (∀ w', Below w.heap.size w w' → Calls Tryz.prog 9 #[hv p, .int .i64 hh, .string t, .agg #[.int .i64 x, .slice (some ⟨G1, 0, none⟩) m (m + 1), .slice (some ⟨G2, 0, none⟩) n (n + 1)]] w' fun ev w2 => ev = .returned (errK a k) ∧ Below w'.heap.size w' w2) ∧
      (∀ w', Below w.heap.size w w' → Calls Tryz.prog 10 #[hv p, .int .i64 hh, .string t, .agg #[.int .i64 x, .slice A m c, .slice A2 n c2]] w' fun ev w2 => ev = .returned (faultV k) ∧ Below w'.heap.size w' w2) := by
  by_cases c0 : hh < 0
  · exact ⟨2, by omega, fun w' hb => by rw [show errK a 2 = errV a 2 from rfl]; exact kver_neg a B p hh x m n t (some ⟨G1, 0, none⟩) (some ⟨G2, 0, none⟩) (m + 1) (n + 1) w' (hE.step hb) hp c0, fun w' hb => rver_neg p hh x m n t A A2 c c2 w' hp c0⟩
  · by_cases c1 : 6 < hh
    · exact ⟨2, by omega, fun w' hb => by rw [show errK a 2 = errV a 2 from rfl]; exact kver_big a B p hh x m n t (some ⟨G1, 0, none⟩) (some ⟨G2, 0, none⟩) (m + 1) (n + 1) w' (hE.step hb) hp c1, fun w' hb => rver_big p hh x m n t A A2 c c2 w' hp c1⟩
    · obtain ⟨h, rfl⟩ := Int.eq_ofNat_of_zero_le (show 0 ≤ hh by omega)
      have h6 : h ≤ 6 := by omega
      by_cases c25 : 0 ≤ x ∧ x < 64 ∧ m = 67 ∧ n ≤ 6
      · by_cases c3 : ((2 ^ h : Nat) : Int) ≤ x
        · exact ⟨2, by omega, fun w' hb => by rw [show errK a 2 = errV a 2 from rfl]; exact kver_idx a B p h x m n t (some ⟨G1, 0, none⟩) (some ⟨G2, 0, none⟩) (m + 1) (n + 1) w' (hE.step hb) hp h6 c25 c3, fun w' hb => rver_idx p h x m n t A A2 c c2 w' hp h6 c25 c3⟩
        · have c35 : x < ((2 ^ h : Nat) : Int) := Int.not_le.1 c3
          by_cases c4 : n = h
          · subst c4
            obtain ⟨X, rfl⟩ := Int.eq_ofNat_of_zero_le c25.1
            obtain ⟨-, -, rfl, -⟩ := c25
            have hx : X < 2 ^ n := by exact_mod_cast c35
            have hs := says_up P X (kleafB (recB (msgB X (bOf t)) C)) (by rw [h2.2.1]; exact hx)
            rw [h2.2.1] at hs
            obtain ⟨r, hr⟩ : ∃ r, upK X (kleafB (recB (msgB X (bOf t)) C)) P = r := ⟨_, rfl⟩
            have hr32 : r.length = 32 := by rw [← hr]; exact upK_len _ _ _ (kleafB_length _)
            by_cases hrp : r = p
            · refine ⟨0, by omega, fun w' hb => ?_, fun w' hb => ?_⟩
              · rw [show errK a 0 = .nilIface from rfl]
                exact kver_ok a B p n X t _ _ _ _ C P w' (hE.step hb) hp h6 hx (by omega) ((t1.below hb).hin h1.2.1 (by omega)) ((t2.below hb).hin h2.2.1 hn) (by rw [← hrp, ← hr]; exact hs)
              · have := rver_good p n X n t A A2 c c2 C P w' hp h6 hx rfl (by omega) (h1.below hb) (h2.below hb)
                rw [hr, if_pos hrp] at this; exact this
            · refine ⟨12, by omega, fun w' hb => ?_, fun w' hb => ?_⟩
              · rw [show errK a 12 = errV a 12 from rfl]
                exact kver_wrong a B p n X t _ _ _ _ C P w' (hE.step hb) hp h6 hx (by omega) ((t1.below hb).hin h1.2.1 (by omega)) ((t2.below hb).hin h2.2.1 hn) r hr32 hrp (by rw [← hr]; exact hs)
              · have := rver_good p n X n t A A2 c c2 C P w' hp h6 hx rfl (by omega) (h1.below hb) (h2.below hb)
                rw [hr, if_neg hrp] at this; exact this
          · exact ⟨2, by omega, fun w' hb => by rw [show errK a 2 = errV a 2 from rfl]; exact kver_len a B p h x m n t (some ⟨G1, 0, none⟩) (some ⟨G2, 0, none⟩) (m + 1) (n + 1) w' (hE.step hb) hp h6 c25 c35 c4, fun w' hb => rver_len p h x m n t A A2 c c2 w' hp h6 c25 c35 c4⟩
      · exact ⟨2, by omega, fun w' hb => by rw [show errK a 2 = errV a 2 from rfl]; exact kver_may a B p h x m n t (some ⟨G1, 0, none⟩) (some ⟨G2, 0, none⟩) (m + 1) (n + 1) w' (hE.step hb) hp h6 c25, fun w' hb => rver_may p h x m n t A A2 c c2 w' hp h6 c25⟩

theorem beyond3 (x0 x1 x2 : Nat) (w : World) (hx0 : x0 ≤ 9000000000000000000) (hx1 : x1 ≤ 9000000000000000000) (hx2 : x2 ≤ 9000000000000000000) :
    Calls Tryz.prog 6 #[.slice (some ⟨w.heap.size, 0, none⟩) 3 3] (w.alloc (.cells #[.int .i64 (x0 : Nat), .int .i64 (x1 : Nat), .int .i64 (x2 : Nat)] 3)) fun ev w' => ev = .returned (.bool (decide (1048576 < x0 + x1 + x2))) ∧ w' = (w.alloc (.cells #[.int .i64 (x0 : Nat), .int .i64 (x1 : Nat), .int .i64 (x2 : Nat)] 3)) := by
  have := beyond_any [x0, x1, x2] w.heap.size 3 3 (w.alloc (.cells #[.int .i64 (x0 : Nat), .int .i64 (x1 : Nat), .int .i64 (x2 : Nat)] 3)) rfl (by simp; omega) (fun j x hj => by
    refine cell_new _ _ _ _ ?_
    match j, hj with
    | 0, hj => simp at hj; subst hj; rfl
    | 1, hj => simp at hj; subst hj; rfl
    | 2, hj => simp at hj; subst hj; rfl
    | j + 3, hj => simp at hj) (by omega)
  have hs : [x0, x1, x2].sum = x0 + x1 + x2 := by simp <;> omega
  rw [hs] at this
  exact this.mono (fun _ _ h => ⟨h.1, h.2.symm⟩)
set_option maxRecDepth 100000 in
set_option maxHeartbeats 8000000 in
theorem kverifies_any (a : Nat → Addr) (p : List UInt8) (hh x : Int) (t : ByteArray) (m n : Nat) (A A2 : Option Addr) (c c2 : Nat) (C P : List (List UInt8)) (w : World) (hE : Env w.heap.size a w) (hp : p.length = 32) (hC : HIn w A m c C) (hP : HIn w A2 n c2 P) (hm9 : m ≤ 9000000000000000000) (hn9 : n ≤ 9000000000000000000) (ht9 : t.size ≤ 9000000000000000000) :
    Calls Tryz.prog 3 #[hv p, .int .i64 hh, .string t, .agg #[.int .i64 x, .slice A m c, .slice A2 n c2]] w fun e w' => e = .returned (.bool true) ∧ Below w.heap.size w w' := by
  obtain ⟨v0, ev0, Hv0, Zv0, Iv0, Ov0⟩ := row_of p hp
  obtain ⟨sv, hsv9⟩ : ∃ y : Array Value, #[.int .i64 x, .slice A m c, .slice A2 n c2] = y := ⟨_, rfl⟩
  have Zsv : Hid (sv.size = 3) := Lib.hid (by rw [← hsv9]; rfl)
  have Isv : Hid ((Tryz.prog.info? 26).map (·.size) = some sv.size) := Lib.hid (by rw [Zsv.out]; kernel_rfl)
  have Osv : Hid (sv.all (·.oneCell') = true) := Lib.hid (by rw [← hsv9]; simp [Value.oneCell'])
  have Hsv9 := Lib.hid hsv9

  obtain ⟨wv, hwv⟩ : ∃ y9 : World, ((w.alloc (.cells v0 23)).alloc (.cells sv 26)) = y9 := ⟨_, rfl⟩
  have HBv : Hid (Below w.heap.size w wv) := Lib.hid (by rw [← hwv]; exact (((Below.refl _ _).alloc (by simp <;> omega) _).alloc (by simp <;> omega) _))
  have HSV : Hid (wv.heap.size = w.heap.size + 2) := Lib.hid (by rw [← hwv]; simp)
  have RV : Hid (wv.heap[w.heap.size]? = some (.cells v0 23 (0, 0))) := Lib.hid (by rw [← hwv]; exact (((Below.refl (w.alloc (.cells v0 23)).heap.size (w.alloc (.cells v0 23))).alloc (Nat.le_refl _) _).block w.heap.size (by simp <;> omega)).trans (heap_at _ _ _ (by simp <;> omega)))
  have RS : Hid (wv.heap[(w.heap.size + 1)]? = some (.cells sv 26 (0, 0))) := Lib.hid (by rw [← hwv]; exact heap_at _ _ _ (by simp <;> omega))
  have HWV := Lib.hid hwv
  have hsvv := HSV.out
  have RS0 := RS.out
  rw [← hsv9] at RS0
  have z1 : wv.cell? ⟨w.heap.size + 1, 1, none⟩ = some (.slice A m c) := (cell_of_row wv _ 1 _ 26 (0, 0) RS0).trans rfl
  have z2 : wv.cell? ⟨w.heap.size + 1, 2, none⟩ = some (.slice A2 n c2) := (cell_of_row wv _ 2 _ 26 (0, 0) RS0).trans rfl
  have HE := Lib.hid hE
  have HC0 := Lib.hid hC
  have HP0 := Lib.hid hP
  have HPP := Lib.hid hp
  have EV0 := Lib.hid ev0
  have hby := beyond3 t.size m n wv ht9 hm9 hn9
  rw [hsvv] at hby
  have HBY := Lib.hid hby
  have HLV : Hid (∀ w', Below w.heap.size w w' → Calls Tryz.prog 12 #[] w' fun ev w2 => ev = .returned (.bool true) ∧ Below w'.heap.size w' w2) := Lib.hid (fun w' hb => lives23_any a w.heap.size w' (HE.out.step hb))
  rw [ev0, hsv9]
  clear hby hwv hsv9 hE hC hP RS0 hp ev0
  go_enter Tryz.func3, Tryz.ntmps3
  go_upto_region 1 with fail
  rw [HWV.out]
  go_wp2_with fail
  refine HBY.out.mono ?_
  rintro ev w0 ⟨rfl, rfl⟩
  obtain ⟨w1, hw1⟩ : ∃ y, wv.alloc (.cells #[.int .i64 (t.size : Nat), .int .i64 (m : Nat), .int .i64 (n : Nat)] 3) = y := ⟨_, rfl⟩
  have B1 : Hid (Below w.heap.size w w1) := Lib.hid (by rw [← hw1]; exact HBv.out.alloc HBv.out.size _)
  have RS1 : Hid (w1.heap[w.heap.size + 1]? = some (.cells sv 26 (0, 0))) := Lib.hid (by rw [← hw1]; exact (((Below.refl wv.heap.size wv).alloc (Nat.le_refl _) _).block _ (by omega)).trans RS.out)
  have RV1 : Hid (w1.heap[w.heap.size]? = some (.cells v0 23 (0, 0))) := Lib.hid (by rw [← hw1]; exact (((Below.refl wv.heap.size wv).alloc (Nat.le_refl _) _).block _ (by omega)).trans RV.out)
  rw [hw1]
  clear hw1 z1 z2
  by_cases hg : 1048576 < t.size + m + n
  · rw [show decide (1048576 < t.size + m + n) = true from decide_eq_true hg]
    go_wp2_with fail
    go_ret
    exact ⟨rfl, B1.out⟩
  · rw [show decide (1048576 < t.size + m + n) = false from decide_eq_false hg]
    have hmm : m ≤ 1048576 := by omega
    have hnn : n ≤ 1048576 := by omega
    have htt : t.size ≤ 1048576 := by omega
    clear hg hm9 hn9 ht9
    have HTS : Hid (Calls Tryz.prog 7 #[.agg sv] w1 fun ev w' => ∃ G1 G2, ev = .returned (.agg #[.int .i64 x, .slice (some ⟨G1, 0, none⟩) m (m + 1), .slice (some ⟨G2, 0, none⟩) n (n + 1)]) ∧ Twin w' G1 C ∧ Twin w' G2 P ∧ Below w1.heap.size w1 w') := Lib.hid (by
      have := twin_signed x m n A A2 c c2 C P w1 (HC0.out.below B1.out) (HP0.out.below B1.out) hmm hnn
      rw [Hsv9.out] at this; exact this)
    go_wp2_with (refine wpList_load_row rfl 26 _ rfl (w.heap.size + 1) rfl 26 sv (0, 0) _ RS1.out Tryz.underlying26 rfl Isv.out ?_)
    refine HTS.out.mono ?_
    rintro ev w2 ⟨G1, G2, rfl, ht1, ht2, b2⟩
    obtain ⟨sv2, hsv29⟩ : ∃ y : Array Value, #[.int .i64 x, .slice (some ⟨G1, 0, none⟩) m (m + 1), .slice (some ⟨G2, 0, none⟩) n (n + 1)] = y := ⟨_, rfl⟩
    have Zsv2 : Hid (sv2.size = 3) := Lib.hid (by rw [← hsv29]; rfl)
    have Isv2 : Hid ((Tryz.prog.info? 26).map (·.size) = some sv2.size) := Lib.hid (by rw [Zsv2.out]; kernel_rfl)
    have Osv2 : Hid (sv2.all (·.oneCell') = true) := Lib.hid (by rw [← hsv29]; simp [Value.oneCell'])
    have Hsv29 := Lib.hid hsv29

    have B2 := Lib.hid (B1.out.trans (b2.mono B1.out.size))
    have RS2 := Lib.hid ((b2.block _ (Array.getElem?_eq_some_iff.1 RS1.out).1).trans RS1.out)
    have RV2 := Lib.hid ((b2.block _ (Array.getElem?_eq_some_iff.1 RV1.out).1).trans RV1.out)
    have HT1 := Lib.hid ht1
    have HT2 := Lib.hid ht2
    rw [hsv29]
    clear hsv29 ht1 ht2 b2
    go_upto_region 4 with (refine wpList_store_row_any rfl 26 _ _ rfl w2.heap.size sv2 rfl rfl 26 _ (heap_at _ _ _ rfl) Isv2.out (by rw [Zsv2.out]; rfl) Osv2.out ?_; intro w4 hbN hgN hsN; have B5 : Hid (Below w2.heap.size w2 w4) := Lib.hid (((Below.refl _ w2).alloc (Nat.le_refl _) _).trans (hbN.to_below (by simp) (fun k hk q => by omega))); have R5 := Lib.hid hgN; clear hbN hgN hsN)
    obtain ⟨G5, hG5⟩ : ∃ y, w2.heap.size = y := ⟨_, rfl⟩
    have B4 := Lib.hid (B2.out.trans (B5.out.mono B2.out.size))
    have RS4 := Lib.hid ((B5.out.block _ (Array.getElem?_eq_some_iff.1 RS2.out).1).trans RS2.out)
    have RV4 := Lib.hid ((B5.out.block _ (Array.getElem?_eq_some_iff.1 RV2.out).1).trans RV2.out)
    obtain ⟨k, hk16, hkv, hrv⟩ := ver_both a w.heap.size p hh x m n t A A2 c c2 G1 G2 C P w4 (HE.out.step B4.out) HPP.out htt hmm hnn (HC0.out.below B4.out) (HP0.out.below B4.out) (HT1.out.below B5.out) (HT2.out.below B5.out)
    obtain ⟨ke, hke⟩ : ∃ y, errK a k = y := ⟨_, rfl⟩
    obtain ⟨kf, hkf⟩ : ∃ y, faultV k = y := ⟨_, rfl⟩
    rw [EV0.out, Hsv29.out, hke] at hkv
    rw [EV0.out, Hsv9.out, hkf] at hrv
    have HKV := Lib.hid hkv
    have HRV := Lib.hid hrv
    have HSA : Hid (∀ w', Below w4.heap.size w4 w' → Calls Tryz.prog 8 #[ke, kf] w' fun ev w2 => ev = .returned (.bool true) ∧ Below w'.heap.size w' w2) := Lib.hid (fun w' hb => by
      have := same_fault a w.heap.size k w' ((HE.out.step B4.out).step hb).laid hk16
      rw [hke, hkf] at this; exact this)
    have HLS : Hid (∀ w', Below w4.heap.size w4 w' → Calls Tryz.prog 11 #[.agg sv2, .agg sv] w' fun ev w2 => ev = .returned (.bool true) ∧ Below w'.heap.size w' w2) := Lib.hid (fun w' hb => by
      have := left_signed x m n A A2 c c2 G1 G2 C P w' ((HC0.out.below B4.out).below hb) ((HP0.out.below B4.out).below hb) ((HT1.out.below B5.out).below hb) ((HT2.out.below B5.out).below hb) hmm hnn
      rw [Hsv29.out, Hsv9.out] at this; exact this)
    rw [hG5] at R5 ⊢
    clear hkv hrv hke hkf hG5 hk16
    refine wp_region_held_drew (S := But (fun _ => False) w4) (by kernel_rfl) (But.refl _ _).drew (fun hHeld => ?_)
    refine tw (i := 0) rfl (yieldsIf_load_row (by rfl) 23 _ (by rfl) w.heap.size (by rfl) 23 v0 (0, 0) _ (fun w h => (h.same _ (Array.getElem?_eq_some_iff.1 RV4.out).1 (fun q => q)).trans RV4.out) Tryz.underlying23 (by rfl) Iv0.out) ?_
    try simp only [pu]
    refine tk (i := 1) (v := ?v2) rfl ?y2 ?r2
    case y2 => (intro w hSw; (try dsimp only at hSw); go_simp; (try with_reducible rfl))
    try simp only [pu]
    refine tk (i := 2) (v := ?v3) rfl ?y3 ?r3
    case y3 => (intro w hSw; (try dsimp only at hSw); go_simp; (try with_reducible rfl))
    try simp only [pu]
    refine tw (i := 3) rfl (yieldsIf_load_row (by rfl) 26 _ (by rfl) G5 (by rfl) 26 sv2 (0, 0) _ (fun w h => (h.same _ (Array.getElem?_eq_some_iff.1 R5.out).1 (fun q => q)).trans R5.out) Tryz.underlying26 (by rfl) Isv2.out) ?_
    try simp only [pu]
    refine tw (i := 5) rfl (yieldsIf_load_row (by rfl) 23 _ (by rfl) w.heap.size (by rfl) 23 v0 (0, 0) _ (fun w h => (h.same _ (Array.getElem?_eq_some_iff.1 RV4.out).1 (fun q => q)).trans RV4.out) Tryz.underlying23 (by rfl) Iv0.out) ?_
    try simp only [pu]
    refine tk (i := 6) (v := ?v6) rfl ?y6 ?r6
    case y6 => (intro w hSw; (try dsimp only at hSw); go_simp; (try with_reducible rfl))
    try simp only [pu]
    refine tk (i := 7) (v := ?v7) rfl ?y7 ?r7
    case y7 => (intro w hSw; (try dsimp only at hSw); go_simp; (try with_reducible rfl))
    try simp only [pu]
    refine tw (i := 8) rfl (yieldsIf_load_row (by rfl) 26 _ (by rfl) (w.heap.size + 1) (by rfl) 26 sv (0, 0) _ (fun w h => (h.same _ (Array.getElem?_eq_some_iff.1 RS4.out).1 (fun q => q)).trans RS4.out) Tryz.underlying26 (by rfl) Isv.out) ?_
    try simp only [pu]
    refine wpAnyH_ready (rs := [4]) (by kernel_rfl) (by simp) ?_
    refine AllReadyH.cons (i := 4) rfl (fun K2 hK2 => ?_) AllReadyH.nil
    go_simp
    go_at_call 9
    refine (HKV.out w4.drew (But.to_below ((But.refl (fun _ => False) w4).drew) (Nat.le_refl _) (fun _ _ q => q))).mono ?_
    rintro ev w701 ⟨rfl, bw701⟩
    try go_wp2_with fail
    obtain ⟨Kw701, fw701⟩ := st_call ((But.refl (fun _ => False) w4).drew) bw701
    have Kw701 := Lib.hid Kw701
    clear bw701 fw701
    refine hK2.out _ _ Kw701.out (fun hHeld2 => ?_)
    clear hK2 K2
    try simp only [pu]
    refine wpAnyH_ready (rs := [9]) (by kernel_rfl) (by simp) ?_
    refine AllReadyH.cons (i := 9) rfl (fun K2 hK2 => ?_) AllReadyH.nil
    go_simp
    go_at_call 10
    refine (HRV.out w701 (But.to_below Kw701.out (Nat.le_refl _) (fun _ _ q => q))).mono ?_
    rintro ev w702 ⟨rfl, bw702⟩
    try go_wp2_with fail
    obtain ⟨Kw702, fw702⟩ := st_call Kw701.out bw702
    have Kw702 := Lib.hid Kw702
    clear bw702 fw702
    refine hK2.out _ _ Kw702.out (fun hHeld2 => ?_)
    clear hK2 K2
    try simp only [pu]
    refine wpAnyH_ready (rs := [10]) (by kernel_rfl) (by simp) ?_
    refine AllReadyH.cons (i := 10) rfl (fun K2 hK2 => ?_) AllReadyH.nil
    go_simp
    go_at_call 8
    refine (HSA.out w702 (But.to_below Kw702.out (Nat.le_refl _) (fun _ _ q => q))).mono ?_
    rintro ev w703 ⟨rfl, bw703⟩
    try go_wp2_with fail
    obtain ⟨Kw703, fw703⟩ := st_call Kw702.out bw703
    have Kw703 := Lib.hid Kw703
    clear bw703 fw703
    refine hK2.out _ _ Kw703.out (fun hHeld2 => ?_)
    clear hK2 K2
    try simp only [pu]
    refine tk (i := 11) (v := ?v9) rfl ?y9 ?r9
    case y9 => (intro w hSw; (try dsimp only at hSw); go_simp; (try with_reducible rfl))
    try simp only [pu]
    refine tw (i := 12) rfl (yieldsIf_load_row (by rfl) 26 _ (by rfl) G5 (by rfl) 26 sv2 (0, 0) _ (fun w h => (h.same _ (Array.getElem?_eq_some_iff.1 R5.out).1 (fun q => q)).trans R5.out) Tryz.underlying26 (by rfl) Isv2.out) ?_
    try simp only [pu]
    refine tw (i := 13) rfl (yieldsIf_load_row (by rfl) 26 _ (by rfl) (w.heap.size + 1) (by rfl) 26 sv (0, 0) _ (fun w h => (h.same _ (Array.getElem?_eq_some_iff.1 RS4.out).1 (fun q => q)).trans RS4.out) Tryz.underlying26 (by rfl) Isv.out) ?_
    try simp only [pu]
    refine wpAnyH_ready (rs := [14]) (by kernel_rfl) (by simp) ?_
    refine AllReadyH.cons (i := 14) rfl (fun K2 hK2 => ?_) AllReadyH.nil
    go_simp
    go_at_call 11
    refine (HLS.out w703 (But.to_below Kw703.out (Nat.le_refl _) (fun _ _ q => q))).mono ?_
    rintro ev w704 ⟨rfl, bw704⟩
    try go_wp2_with fail
    obtain ⟨Kw704, fw704⟩ := st_call Kw703.out bw704
    have Kw704 := Lib.hid Kw704
    clear bw704 fw704
    refine hK2.out _ _ Kw704.out (fun hHeld2 => ?_)
    clear hK2 K2
    try simp only [pu]
    refine tk (i := 15) (v := ?v12) rfl ?y12 ?r12
    case y12 => (intro w hSw; (try dsimp only at hSw); go_simp; (try with_reducible rfl))
    try simp only [pu]
    refine tk (i := 16) (v := ?v13) rfl ?y13 ?r13
    case y13 => (intro w hSw; (try dsimp only at hSw); go_simp; (try with_reducible rfl))
    try simp only [pu]
    refine wpAnyH_ready (rs := [17]) (by kernel_rfl) (by simp) ?_
    refine AllReadyH.cons (i := 17) rfl (fun K2 hK2 => ?_) AllReadyH.nil
    go_simp
    go_at_call 12
    refine (HLV.out w704 (B4.out.trans (But.to_below Kw704.out B4.out.size (fun _ _ q => q)))).mono ?_
    rintro ev w705 ⟨rfl, bw705⟩
    try go_wp2_with fail
    obtain ⟨Kw705, fw705⟩ := st_call Kw704.out bw705
    have Kw705 := Lib.hid Kw705
    clear bw705 fw705
    refine hK2.out _ _ Kw705.out (fun hHeld2 => ?_)
    clear hK2 K2
    try simp only [pu]
    refine tk (i := 18) (v := ?v14) rfl ?y14 ?r14
    case y14 => (intro w hSw; (try dsimp only at hSw); go_simp; (try with_reducible rfl))
    try simp only [pu]
    refine tk (i := 19) (v := ?v15) rfl ?y15 ?r15
    case y15 => (intro w hSw; (try dsimp only at hSw); go_simp; (try with_reducible rfl))
    try simp only [pu]
    refine wpAnyH_done (by kernel_rfl) ?_ _
    have KE := Lib.hid Kw705.out
    go_wp2
    go_ret
    exact ⟨rfl, B4.out.trans ((But.to_below KE.out (Nat.le_refl _) (fun _ _ q => q)).mono B4.out.size)⟩

end Go.Proofs.YtnpblpbcchminaaGreatDoor
