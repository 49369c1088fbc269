/- keys.Encode where the signature is one. Condition: the table reads as listed. -/
import Derived.Test.YtnpblpbcchminaaDoorKeysVer
import Derived.Test.YtnpblpbcchminaaDoorKeysCodec
namespace Go.Proofs.YtnpblpbcchminaaDoor
open Go.ChangeShapes Go.WideShapes Go.ChangeAt Go.RowKit
set_option linter.unusedVariables false
/-- a signature as bytes -/
def encB (x : Nat) (C : List (List UInt8)) (n : Nat) (P : List (List UInt8)) : List UInt8 := [UInt8.ofNat x] ++ C.flatten ++ [UInt8.ofNat n] ++ P.flatten
set_option maxRecDepth 100000 in
set_option maxHeartbeats 8000000 in
theorem enc_ok (x n : Nat) (A A2 : Option Addr) (c c2 : Nat) (C P : List (List UInt8)) (w : World) (hx : x < 64) (hn : n ≤ 6) (hC : HIn w A 67 c C) (hP : HIn w A2 n c2 P) :
    Calls Tryd.prog 16 #[.agg #[.int .i64 x, .slice A 67 c, .slice A2 n c2]] w fun ev w' => ev = .returned (.tuple #[.string ⟨(encB x C n P).toArray⟩, .nilIface]) ∧ Below w.heap.size w w' := by
  obtain ⟨sv, hsv9⟩ : ∃ y : Array Value, #[.int .i64 x, .slice A 67 c, .slice A2 n c2] = y := ⟨_, rfl⟩
  have Zsv : Hid (sv.size = 3) := Lib.hid (by rw [← hsv9]; rfl)
  have Isv : Hid ((Tryd.prog.info? 35).map (·.size) = some sv.size) := Lib.hid (by rw [Zsv.out]; kernel_rfl)
  obtain ⟨wv, hwv⟩ : ∃ y9 : World, (w.alloc (.cells sv 35)) = y9 := ⟨_, rfl⟩
  have HBv : Hid (Below w.heap.size w wv) := Lib.hid (by rw [← hwv]; exact ((Below.refl _ _).alloc (by simp <;> omega) _))
  have HSV : Hid (wv.heap.size = w.heap.size + 1) := Lib.hid (by rw [← hwv]; simp)
  have RS : Hid (wv.heap[w.heap.size]? = some (.cells sv 35 (0, 0))) := Lib.hid (by rw [← hwv]; exact heap_at _ _ _ (by simp <;> omega))
  have HWV := Lib.hid hwv
  have hsvv := HSV.out
  have HMAY : Hid (∀ w', Calls Tryd.prog 27 #[.agg sv] w' fun ev w2 => ev = .returned (.bool true) ∧ Below w'.heap.size w' w2) := Lib.hid (fun w' => by rw [← hsv9]; exact may_yes x n A A2 c c2 w' hx hn)
  have HKSA : Hid (∀ w' : World, w'.heap[w.heap.size]? = some (.cells sv 35 (0, 0)) → w'.cell? ⟨w.heap.size, 0, none⟩ = some (.int .i64 x) ∧ w'.cell? ⟨w.heap.size, 1, none⟩ = some (.slice A 67 c) ∧ w'.cell? ⟨w.heap.size, 2, none⟩ = some (.slice A2 n c2)) := Lib.hid (fun w' hg => by
    rw [← hsv9] at hg
    exact ⟨(cell_of_row w' _ 0 _ 35 (0, 0) hg).trans rfl, (cell_of_row w' _ 1 _ 35 (0, 0) hg).trans rfl, (cell_of_row w' _ 2 _ 35 (0, 0) hg).trans rfl⟩)
  have HC0 := Lib.hid (hC.below HBv.out)
  have HP0 := Lib.hid (hP.below HBv.out)
  have e1 : IntKind.u64.wrap (x : Int) = x := IntWalk.u64_in _ (by omega)
  have e2 : IntKind.u64.wrap (n : Int) = n := IntWalk.u64_in _ (by omega)
  rw [hsv9]
  clear hwv hsv9 hC hP
  go_enter Tryd.func16, Tryd.ntmps16
  go_upto_region 1 with fail
  rw [HWV.out]
  go_wp2_with (refine wpList_load_row rfl 35 _ rfl w.heap.size rfl 35 sv (0, 0) _ RS.out Tryd.underlying35 rfl Isv.out ?_)
  refine (HMAY.out wv).mono ?_
  rintro ev w1 ⟨rfl, b1⟩
  have B1 := Lib.hid b1
  have R1 := Lib.hid ((b1.block _ (by omega)).trans RS.out)
  have HC := Lib.hid (HC0.out.below b1)
  have HP := Lib.hid (HP0.out.below b1)
  clear b1
  obtain ⟨p, hpw⟩ : ∃ p, w1.heap.size = p := ⟨_, rfl⟩
  have PS : Hid (w1.heap.size = p ∧ w.heap.size < p) := Lib.hid ⟨hpw, by have := B1.out.size; omega⟩
  have KS : Hid (∀ w', Below p w1 w' → w'.cell? ⟨w.heap.size, 0, none⟩ = some (.int .i64 x) ∧ w'.cell? ⟨w.heap.size, 1, none⟩ = some (.slice A 67 c) ∧ w'.cell? ⟨w.heap.size, 2, none⟩ = some (.slice A2 n c2)) := Lib.hid (fun w' hw => HKSA.out w' ((hw.block _ PS.out.2).trans R1.out))
  have HNW : Hid (Calls Tryd.prog 30 #[] w1 fun ev w' => ev = .returned (.pointer (some ⟨p, 0, none⟩)) ∧ WAt p w' [] ∧ Below p w1 w') := Lib.hid (by rw [← hpw]; exact wnew_any w1)
  clear hpw
  go_upto_region 3 with fail
  go_wp2_with fail
  refine HNW.out.mono ?_
  rintro ev w2 ⟨rfl, hW2, b2⟩
  have HB2 := Lib.hid b2
  obtain ⟨y0, y1, y2⟩ := KS.out w2 b2
  have HV1 := Lib.hid (var_any p x [] w2 hW2 (by omega) (by simp))
  clear hW2 b2
  go_wp2_with fail
  refine HV1.out.mono ?_
  rintro ev w3 ⟨rfl, hW3, b3⟩
  have HW3 : Hid (WAt p w3 ([UInt8.ofNat x] ++ (C.take 0).flatten)) := Lib.hid (by simpa using hW3)
  have HB3 := Lib.hid (HB2.out.trans b3)
  obtain ⟨x0, x1, x2⟩ := KS.out w3 HB3.out
  clear hW3 b3 y0 y1 y2
  go_wp2_with fail
  go_loopw [22] (fun k wr => ∃ i : Nat, i ≤ 67 ∧ k = .int .i64 i ∧ Hid (WAt p wr ([UInt8.ofNat x] ++ (C.take i).flatten)) ∧ Hid (Below p w1 wr)) (fun k _ => 67 - (intOf k).toNat)
  case atStart => exact ⟨0, Nat.zero_le _, rfl, HW3, HB3⟩
  case round =>
    obtain ⟨i, hi, rfl, HW, HB⟩ := hrel
    have hps := HW.out.lt
    by_cases hlt : i < 67
    · obtain ⟨q, hq⟩ : ∃ q, C[i]? = some q := ⟨_, List.getElem?_eq_getElem (by have := HC.out.2.1; omega)⟩
      obtain ⟨g, o, rfl, gl, rp, pl⟩ := HC.out.row hq
      obtain ⟨vp, evp, Hvp, Zvp, Ivp, Ovp⟩ := row_of q pl
      obtain ⟨lvp, hlvp⟩ : ∃ y, bytesV q = y := ⟨_, rfl⟩
      have Elvp : Hid (lvp.toArray = vp) := Lib.hid (by rw [← hlvp]; exact Hvp.out)
      have Ilvp : Hid ((Tryd.prog.info? 23).map (·.size) = some lvp.length) := Lib.hid (by rw [← hlvp, bytesV_length, pl]; kernel_rfl)
      have HRP : Hid (wr.rangeAt g (o + i * 32) lvp) := Lib.hid (by rw [← hlvp]; exact rangeAt_below HB.out rp (by have := PS.out; omega))
      have i0 : (0 : Int) ≤ i := by omega
      have i1 : (i : Int) < 67 := by omega
      have HF := Lib.hid (flat_snoc hq)
      have HFL := Lib.hid (flat_len HC.out.1 i)
      have HWH : Hid (∀ w', Below wr.heap.size wr w' → Calls Tryd.prog 32 #[.pointer (some ⟨p, 0, none⟩), .agg vp] w' fun ev w2 => ev = .returned (.tuple #[]) ∧ WAt p w2 (([UInt8.ofNat x] ++ (C.take i).flatten) ++ q) ∧ Below p w' w2) := Lib.hid (fun w' hb => by
        have := whash_any p q _ w' (HW.out.below hb) pl (by have := HFL.out; simp only [List.length_append, List.length_cons, List.length_nil]; omega)
        rw [evp] at this; exact this)
      clear evp hlvp rp gl hq pl
      go_upto_region 8 with (first
        | (refine wpList_load_mid rfl 23 _ rfl g (o + i * 32) rfl lvp _ HRP.out Tryd.underlying23 rfl Ilvp.out ?_; rw [Elvp.out])
        | (refine wpList_store_row_any rfl 23 _ _ rfl wr.heap.size vp rfl rfl 23 _ (heap_at _ _ _ rfl) Ivp.out (by rw [Zvp.out]; rfl) Ovp.out ?_; intro w3 hbN hgN hsN; have B3 : Hid (Below wr.heap.size wr w3) := Lib.hid (((Below.refl _ wr).alloc (Nat.le_refl _) _).trans (hbN.to_below (by simp) (fun k hk q => by omega))); have R5 := Lib.hid hgN; clear hbN hgN hsN))
      go_wp2_with (refine wpList_load_row rfl 23 _ rfl wr.heap.size rfl 23 vp (0, 0) _ R5.out Tryd.underlying23 rfl Ivp.out ?_)
      refine (HWH.out w3 B3.out).mono ?_
      rintro ev w4 ⟨rfl, hW4, b4⟩
      have HW4 := Lib.hid hW4
      have HB4 := Lib.hid (HB.out.trans ((B3.out.mono (by omega)).trans b4))
      clear hW4 b4
      go_wp2_with fail
      go_roundw
      case rel => exact ⟨i + 1, by omega, by go_num, Lib.hid (by rw [HF.out, ← List.append_assoc]; exact HW4.out), HB4⟩
      case measure => simp [intOf]; omega
    · obtain rfl : 67 = i := by omega
      have HTK : Hid ((C.take 67).flatten = C.flatten) := Lib.hid (by rw [List.take_of_length_le (by have := HC.out.2.1; omega)])
      have HFL := Lib.hid (flat_len HC.out.1 67)
      rw [HTK.out] at HW HFL
      obtain ⟨wo, rfl⟩ : ∃ y9 : World, y9 = wr := ⟨_, rfl⟩
      have HFL0 := Lib.hid HFL.out
      have HV2 := Lib.hid (var_any p n _ wo HW.out (by omega) (by have := HFL.out; simp only [List.length_append, List.length_cons, List.length_nil]; omega))
      have KSo : Hid (wo.cell? ⟨w.heap.size, 2, none⟩ = some (.slice A2 n c2)) := Lib.hid (KS.out wo HB.out).2.2
      have z2 := KSo.out
      go_wp2_with fail
      refine HV2.out.mono ?_
      rintro ev w6 ⟨rfl, hW6, b6⟩
      have HW6 : Hid (WAt p w6 (([UInt8.ofNat x] ++ C.flatten ++ [UInt8.ofNat n]) ++ (P.take 0).flatten)) := Lib.hid (by simpa using hW6)
      have HB6 := Lib.hid (HB.out.trans b6)
      have z2' := (KS.out w6 HB6.out).2.2
      clear hW6 b6 z2
      go_wp2_with fail
      go_loopw [39] (fun k wr => ∃ i : Nat, i ≤ n ∧ k = .int .i64 i ∧ Hid (WAt p wr (([UInt8.ofNat x] ++ C.flatten ++ [UInt8.ofNat n]) ++ (P.take i).flatten)) ∧ Hid (Below p w1 wr)) (fun k _ => n - (intOf k).toNat)
      case atStart => exact ⟨0, Nat.zero_le _, rfl, HW6, HB6⟩
      case round =>
        obtain ⟨i, hi, rfl, HW, HB⟩ := hrel
        have hps := HW.out.lt
        by_cases hlt : i < n
        · obtain ⟨q, hq⟩ : ∃ q, P[i]? = some q := ⟨_, List.getElem?_eq_getElem (by have := HP.out.2.1; omega)⟩
          obtain ⟨g, o, rfl, gl, rp, pl⟩ := HP.out.row hq
          obtain ⟨vp, evp, Hvp, Zvp, Ivp, Ovp⟩ := row_of q pl
          obtain ⟨lvp, hlvp⟩ : ∃ y, bytesV q = y := ⟨_, rfl⟩
          have Elvp : Hid (lvp.toArray = vp) := Lib.hid (by rw [← hlvp]; exact Hvp.out)
          have Ilvp : Hid ((Tryd.prog.info? 23).map (·.size) = some lvp.length) := Lib.hid (by rw [← hlvp, bytesV_length, pl]; kernel_rfl)
          have HRP : Hid (wr.rangeAt g (o + i * 32) lvp) := Lib.hid (by rw [← hlvp]; exact rangeAt_below HB.out rp (by have := PS.out; omega))
          have i0 : (0 : Int) ≤ i := by omega
          have i1 : (i : Int) < n := by omega
          have HF := Lib.hid (flat_snoc hq)
          have HFL := Lib.hid (flat_len HP.out.1 i)
          have HWH : Hid (∀ w', Below wr.heap.size wr w' → Calls Tryd.prog 32 #[.pointer (some ⟨p, 0, none⟩), .agg vp] w' fun ev w2 => ev = .returned (.tuple #[]) ∧ WAt p w2 ((([UInt8.ofNat x] ++ C.flatten ++ [UInt8.ofNat n]) ++ (P.take i).flatten) ++ q) ∧ Below p w' w2) := Lib.hid (fun w' hb => by
            have := whash_any p q _ w' (HW.out.below hb) pl (by have := HFL.out; have := HFL0.out; simp only [List.length_append, List.length_cons, List.length_nil]; omega)
            rw [evp] at this; exact this)
          clear evp hlvp rp gl hq pl
          go_upto_region 14 with (first
            | (refine wpList_load_mid rfl 23 _ rfl g (o + i * 32) rfl lvp _ HRP.out Tryd.underlying23 rfl Ilvp.out ?_; rw [Elvp.out])
            | (refine wpList_store_row_any rfl 23 _ _ rfl wr.heap.size vp rfl rfl 23 _ (heap_at _ _ _ rfl) Ivp.out (by rw [Zvp.out]; rfl) Ovp.out ?_; intro w3 hbN hgN hsN; have B3 : Hid (Below wr.heap.size wr w3) := Lib.hid (((Below.refl _ wr).alloc (Nat.le_refl _) _).trans (hbN.to_below (by simp) (fun k hk q => by omega))); have R5 := Lib.hid hgN; clear hbN hgN hsN))
          go_wp2_with (refine wpList_load_row rfl 23 _ rfl wr.heap.size rfl 23 vp (0, 0) _ R5.out Tryd.underlying23 rfl Ivp.out ?_)
          refine (HWH.out w3 B3.out).mono ?_
          rintro ev w4 ⟨rfl, hW4, b4⟩
          have HW4 := Lib.hid hW4
          have HB4 := Lib.hid (HB.out.trans ((B3.out.mono (by omega)).trans b4))
          clear hW4 b4
          go_wp2_with fail
          go_roundw
          case rel => exact ⟨i + 1, by omega, by go_num, Lib.hid (by rw [HF.out, ← List.append_assoc]; exact HW4.out), HB4⟩
          case measure => simp [intOf]; omega
        · obtain rfl : n = i := by omega
          have HTK : Hid ((P.take n).flatten = P.flatten) := Lib.hid (by rw [List.take_of_length_le (by have := HP.out.2.1; omega)])
          have HFL := Lib.hid (flat_len HP.out.1 n)
          rw [HTK.out] at HW HFL
          have HDN := Lib.hid (done_any p _ wr HW.out (by simp))
          obtain ⟨st, hst⟩ : ∃ y : ByteArray, ⟨([UInt8.ofNat x] ++ C.flatten ++ [UInt8.ofNat n] ++ P.flatten).toArray⟩ = y := ⟨_, rfl⟩
          rw [hst] at HDN
          have HBW := Lib.hid ((B1.out.trans (HB.out.mono (by have := PS.out; have := B1.out.size; omega))))
          have HST : Hid (({ data := (encB x C n P).toArray } : ByteArray) = st) := Lib.hid hst
          clear hst
          go_wp2_with fail
          refine HDN.out.mono ?_
          rintro ev w9 ⟨rfl, rfl⟩
          go_wp2_with fail
          refine bodyPost_ret (v := .tuple #[.string st, .nilIface]) (by simp [results, Tryd.results16, go_sem]) rfl ⟨by rw [HST.out], HBv.out.trans (HBW.out.mono HBv.out.size)⟩
end Go.Proofs.YtnpblpbcchminaaDoor
