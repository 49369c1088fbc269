/- cartularyref22.bytes, On, Close; cartularyref05.Leaf; cartularyref23.May, Leaf. Condition: the table reads as listed. -/
import Derived.Test.YtnpblpbcchminaaGreatDoorKeysMay
import Derived.Test.YtnpblpbcchminaaGreatDoorKeysLives
import Derived.Test.YtnpblpbcchminaaGreatDoorRefNode
namespace Go.Proofs.YtnpblpbcchminaaGreatDoor
open Go.ChangeShapes Go.WideShapes Go.ChangeAt Go.RowKit
set_option linter.unusedVariables false

set_option maxRecDepth 100000 in
set_option maxHeartbeats 8000000 in
theorem rmay_any (x : Int) (m n : Nat) (A A2 : Option Addr) (c c2 : Nat) (w : World) :
    Calls Tryz.prog 38 #[.agg #[.int .i64 x, .slice A m c, .slice A2 n c2]] w fun ev w' => ev = .returned (.bool (decide (0 ≤ x ∧ x < 64 ∧ m = 67 ∧ n ≤ 6))) ∧ Below w.heap.size w w' := by
  obtain ⟨wv, hwv⟩ : ∃ y9 : World, (w.alloc (.cells #[.int .i64 x, .slice A m c, .slice A2 n c2] 26)) = y9 := ⟨_, rfl⟩
  have HBv : Hid (Below w.heap.size w wv) := Lib.hid (by rw [← hwv]; exact ((Below.refl _ _).alloc (by simp <;> omega) _))
  have HSV : Hid (wv.heap.size = w.heap.size + 1) := Lib.hid (by rw [← hwv]; simp)
  have RZ : Hid (wv.heap[w.heap.size]? = some (.cells #[.int .i64 x, .slice A m c, .slice A2 n c2] 26 (0, 0))) := Lib.hid (by rw [← hwv]; exact heap_at _ _ _ (by simp <;> omega))
  have HWV := Lib.hid hwv
  have c0 : wv.cell? ⟨w.heap.size, 0, none⟩ = some (.int .i64 x) := (cell_of_row wv w.heap.size 0 _ 26 (0, 0) RZ.out).trans rfl
  have c1 : wv.cell? ⟨w.heap.size, 1, none⟩ = some (.slice A m c) := (cell_of_row wv w.heap.size 1 _ 26 (0, 0) RZ.out).trans rfl
  have c2' : wv.cell? ⟨w.heap.size, 2, none⟩ = some (.slice A2 n c2) := (cell_of_row wv w.heap.size 2 _ 26 (0, 0) RZ.out).trans rfl
  clear hwv
  by_cases h0 : 0 ≤ x
  · have d0 : decide (0 ≤ x) = true := by simp; exact h0
    by_cases h1 : x < 64
    · have d1 : decide (x ≤ 63) = true := by simp; omega
      by_cases h2 : m = 67
      · have d2 : ((m : Int) == 67) = true := by simp; omega
        have d2n : (m == 67) = true := by simp; omega
        have he : decide (0 ≤ x ∧ x < 64 ∧ m = 67 ∧ n ≤ 6) = decide (n ≤ 6) := by
          by_cases h3 : n ≤ 6 <;> simp [h0, h1, h2, h3]
        have hn : decide ((n : Int) ≤ 6) = decide (n ≤ 6) := by by_cases h3 : n ≤ 6 <;> simp [h3] <;> omega
        rw [he]
        clear h0 h1 h2 he
        go_enter Tryz.func38, Tryz.ntmps38
        go_upto_region 1 with fail
        rw [HWV.out]
        go_wp2_with fail
        go_ret
        exact ⟨by first | rfl | (simp only [hn]; rfl) | simp [hn], HBv.out⟩
      · have d2 : ((m : Int) == 67) = false := by simp; omega
        have d2n : (m == 67) = false := by simp; omega
        have he : decide (0 ≤ x ∧ x < 64 ∧ m = 67 ∧ n ≤ 6) = false := by simp [h2]
        rw [he]
        clear h0 h1 h2 he
        go_enter Tryz.func38, Tryz.ntmps38
        go_upto_region 1 with fail
        rw [HWV.out]
        go_wp2_with fail
        go_ret
        exact ⟨rfl, HBv.out⟩
    · have d1 : decide (x ≤ 63) = false := by simp; omega
      have he : decide (0 ≤ x ∧ x < 64 ∧ m = 67 ∧ n ≤ 6) = false := by simp; omega
      rw [he]
      clear h0 h1 he
      go_enter Tryz.func38, Tryz.ntmps38
      go_upto_region 1 with fail
      rw [HWV.out]
      go_wp2_with fail
      go_ret
      exact ⟨rfl, HBv.out⟩
  · have d0 : decide (0 ≤ x) = false := by simp; omega
    have he : decide (0 ≤ x ∧ x < 64 ∧ m = 67 ∧ n ≤ 6) = false := by simp; omega
    rw [he]
    clear h0 he
    go_enter Tryz.func38, Tryz.ntmps38
    go_upto_region 1 with fail
    rw [HWV.out]
    go_wp2_with fail
    go_ret
    exact ⟨rfl, HBv.out⟩

/-- a hash as a text -/
def txtB (h : List UInt8) : ByteArray := ⟨h.toArray⟩
theorem bOf_txtB (h : List UInt8) : bOf (txtB h) = h := by simp [bOf, txtB]
theorem txtB_size (h : List UInt8) : (txtB h).size = h.length := by show h.toArray.size = _; simp
theorem bOf_app (a b : ByteArray) : bOf (a ++ b) = bOf a ++ bOf b := by simp [bOf]
set_option maxRecDepth 100000 in
set_option maxHeartbeats 8000000 in
theorem bytes22_any (p : List UInt8) (w : World) (hp : p.length = 32) :
    Calls Tryz.prog 189 #[hv p] w fun ev w' => ev = .returned (.string (txtB p)) ∧ Below w.heap.size w w' := by
  obtain ⟨v0, ev0, Hv0, Zv0, Iv0, Ov0⟩ := row_of p hp
  obtain ⟨s1, hs1⟩ : ∃ t : ByteArray, txtB p = t := ⟨_, rfl⟩
  obtain ⟨wv, hwv⟩ : ∃ y9 : World, (w.alloc (.cells v0 23)) = y9 := ⟨_, rfl⟩
  have HBv : Hid (Below w.heap.size w wv) := Lib.hid (by rw [← hwv]; exact ((Below.refl _ _).alloc (by simp <;> omega) _))
  have HSV : Hid (wv.heap.size = w.heap.size + 1) := Lib.hid (by rw [← hwv]; simp)
  have RA : Hid (wv.heap[w.heap.size]? = some (.cells v0 23 (0, 0))) := Lib.hid (by rw [← hwv]; exact heap_at _ _ _ (by simp <;> omega))
  have HWV := Lib.hid hwv
  have kb : (convert 138 9 (.slice (some ⟨w.heap.size, 0, none⟩) 32 32)).run Tryz.prog wv = .ok (.string s1) wv := by
    rw [← hs1]
    exact bytes_back _ w.heap.size 0 32 p hp (range_row _ RA.out Hv0.out)
  rw [ev0, hs1]
  clear hp ev0 hwv hs1
  go_enter Tryz.func189, Tryz.ntmps189
  go_upto_region 1 with fail
  rw [HWV.out]
  go_wp2
  go_ret
  exact ⟨rfl, HBv.out⟩

set_option maxRecDepth 100000 in
set_option maxHeartbeats 8000000 in
theorem ron_any (h : List UInt8) (n : Nat) (w : World) (hh : h.length = 32) (hn : n ≤ 255) :
    Calls Tryz.prog 128 #[hv h, .int .i64 n] w fun ev w' => ev = .returned (hv (onH n h)) ∧ Below w.heap.size w w' := by
  have HH := Lib.hid hh
  obtain ⟨v0, ev0, Hv0, Zv0, Iv0, Ov0⟩ := row_of h hh
  obtain ⟨wv, hwv⟩ : ∃ y9 : World, ((w.alloc (.cells v0 23)).alloc (.cells #[.int .u8 0, .int .u8 0, .int .u8 0, .int .u8 0, .int .u8 0, .int .u8 0, .int .u8 0, .int .u8 0, .int .u8 0, .int .u8 0, .int .u8 0, .int .u8 0, .int .u8 0, .int .u8 0, .int .u8 0, .int .u8 0, .int .u8 0, .int .u8 0, .int .u8 0, .int .u8 0, .int .u8 0, .int .u8 0, .int .u8 0, .int .u8 0, .int .u8 0, .int .u8 0, .int .u8 0, .int .u8 0, .int .u8 0, .int .u8 0, .int .u8 0, .int .u8 0] 23)) = y9 := ⟨_, rfl⟩
  have HBv : Hid (Below w.heap.size w wv) := Lib.hid (by rw [← hwv]; exact (((Below.refl _ _).alloc (by simp <;> omega) _).alloc (by simp <;> omega) _))
  have HSV : Hid (wv.heap.size = w.heap.size + 2) := Lib.hid (by rw [← hwv]; simp)
  have R0 : Hid (wv.heap[w.heap.size]? = some (.cells v0 23 (0, 0))) := Lib.hid (by rw [← hwv]; exact (((Below.refl (w.alloc (.cells v0 23)).heap.size (w.alloc (.cells v0 23))).alloc (Nat.le_refl _) _).block w.heap.size (by simp <;> omega)).trans (heap_at _ _ _ (by simp <;> omega)))
  have R1 : Hid (wv.heap[(w.heap.size + 1)]? = some (.cells #[.int .u8 0, .int .u8 0, .int .u8 0, .int .u8 0, .int .u8 0, .int .u8 0, .int .u8 0, .int .u8 0, .int .u8 0, .int .u8 0, .int .u8 0, .int .u8 0, .int .u8 0, .int .u8 0, .int .u8 0, .int .u8 0, .int .u8 0, .int .u8 0, .int .u8 0, .int .u8 0, .int .u8 0, .int .u8 0, .int .u8 0, .int .u8 0, .int .u8 0, .int .u8 0, .int .u8 0, .int .u8 0, .int .u8 0, .int .u8 0, .int .u8 0, .int .u8 0] 23 (0, 0))) := Lib.hid (by rw [← hwv]; exact heap_at _ _ _ (by simp <;> omega))
  have HWV := Lib.hid hwv
  have EV0 := Lib.hid ev0
  rw [ev0]
  clear hh ev0 hwv
  go_enter Tryz.func128, Tryz.ntmps128
  go_upto_region 1 with fail
  rw [HWV.out]
  go_wp2_with fail
  go_loopw [5] (fun c wr => ∃ (i : Nat) (vi : Array Value), i ≤ n ∧ c = .int .i64 i ∧ Hid (hv (onH i h) = .agg vi) ∧ Hid ((bytesV (onH i h)).toArray = vi) ∧ Hid (wr.heap[w.heap.size]? = some (.cells vi 23 (0, 0))) ∧ Hid (wr.heap[w.heap.size + 1]? = some (.cells #[.int .u8 0, .int .u8 0, .int .u8 0, .int .u8 0, .int .u8 0, .int .u8 0, .int .u8 0, .int .u8 0, .int .u8 0, .int .u8 0, .int .u8 0, .int .u8 0, .int .u8 0, .int .u8 0, .int .u8 0, .int .u8 0, .int .u8 0, .int .u8 0, .int .u8 0, .int .u8 0, .int .u8 0, .int .u8 0, .int .u8 0, .int .u8 0, .int .u8 0, .int .u8 0, .int .u8 0, .int .u8 0, .int .u8 0, .int .u8 0, .int .u8 0, .int .u8 0] 23 (0, 0))) ∧ Hid (Below w.heap.size w wr)) (fun c _ => n - (intOf c).toNat)
  case atStart => exact ⟨0, v0, Nat.zero_le _, rfl, EV0, Hv0, R0, R1, HBv⟩
  case round =>
    obtain ⟨i, vi, hi, rfl, EVi, HVi, RI, RZ, HB⟩ := hrel
    have Zvi : Hid (vi.size = 32) := Lib.hid (by rw [← HVi.out]; simp [bytesV_length, onH_length HH.out])
    have Ivi : Hid ((Tryz.prog.info? 23).map (·.size) = some vi.size) := Lib.hid (by rw [Zvi.out]; kernel_rfl)
    have hl1 : w.heap.size + 1 < wr.heap.size := (Array.getElem?_eq_some_iff.1 RZ.out).1
    by_cases hlt : i < n
    · have hlt' : (i : Int) < n := by omega
      obtain ⟨vn, evn, Hvn, Zvn, Ivn, Ovn⟩ := row_of (onH (i + 1) h) (onH_length HH.out _)
      obtain ⟨sx, hsx⟩ : ∃ s : ByteArray, txtB (onH i h) = s := ⟨_, rfl⟩
      have HBY : Hid (Calls Tryz.prog 189 #[.agg vi] wr fun ev w' => ev = .returned (.string sx) ∧ Below wr.heap.size wr w') := Lib.hid (by
        have := bytes22_any (onH i h) wr (onH_length HH.out i)
        rw [EVi.out, hsx] at this; exact this)
      have HSM : Hid (∀ w', Calls Tryz.prog 130 #[.string (⟨#[2]⟩ ++ sx)] w' fun ev w2 => ev = .returned (.agg vn) ∧ Below w'.heap.size w' w2) := Lib.hid (fun w' => by
        have hb : bOf (⟨#[2]⟩ ++ sx) = 2 :: onH i h := by rw [bOf_app, ← hsx, bOf_txtB]; rfl
        have := refsum_any (⟨#[2]⟩ ++ sx) w' (by rw [← bOf_length, hb, List.length_cons, onH_length HH.out]; decide)
        rw [hb, ← onH_snoc, evn] at this; exact this)
      have EVN := Lib.hid evn
      have z1 : ByteArray.size ⟨#[2]⟩ = 1 := rfl
      have z2 : sx.size = 32 := by rw [← hsx, txtB_size, onH_length HH.out]
      clear hsx evn
      go_upto_region 4 with fail
      go_wp2_with (refine wpList_load_row rfl 23 _ rfl w.heap.size rfl 23 vi (0, 0) _ RI.out Tryz.underlying23 rfl Ivi.out ?_)
      refine HBY.out.mono ?_
      rintro ev w2 ⟨rfl, b2⟩
      have B2 := Lib.hid b2
      clear b2
      go_wp2_with fail
      refine (HSM.out w2).mono ?_
      rintro ev w3 ⟨rfl, b3⟩
      have B3 : Hid (Below wr.heap.size wr w3) := Lib.hid (B2.out.trans (b3.mono B2.out.size))
      have RI3 := Lib.hid ((B3.out.block _ (by omega)).trans RI.out)
      have RZ3 := Lib.hid ((B3.out.block _ hl1).trans RZ.out)
      clear b3
      go_upto_region 3 with (refine wpList_store_row_any rfl 23 _ _ rfl w.heap.size vn rfl rfl 23 _ RI3.out Ivn.out (by rw [Zvi.out, Zvn.out]) Ovn.out ?_; intro w4 hbN hgN hsN; have B4 := Lib.hid hbN; have R4 := Lib.hid hgN; clear hbN hgN hsN)
      go_wp2
      go_roundw
      case rel => exact ⟨i + 1, vn, by omega, by go_num, EVN, Hvn, R4, Lib.hid ((B4.out.same _ (by have := B3.out.size; omega) (by omega)).trans RZ3.out), Lib.hid ((HB.out.trans (B3.out.mono HB.out.size)).trans (B4.out.to_below (by have := HB.out.size; have := B3.out.size; omega) (fun k hk q => by omega)))⟩
      case measure => simp [intOf]; omega
    · obtain rfl : n = i := by omega
      have hlt' : ¬ ((n : Int) < n) := by omega
      go_wp2_with (first
        | (refine wpList_load_row rfl 23 _ rfl w.heap.size rfl 23 vi (0, 0) _ RI.out Tryz.underlying23 rfl Ivi.out ?_)
        | (refine wpList_store_row_any rfl 23 _ _ rfl (w.heap.size + 1) vi rfl rfl 23 _ RZ.out Ivi.out (by rw [Zvi.out]; rfl) (by rw [← HVi.out]; exact bytesV_all _) ?_; intro w4 hbN hgN hsN; have B4 := Lib.hid hbN; have R4 := Lib.hid hgN; clear hbN hgN hsN))
      refine bodyPost_ret (v := .agg vi) (results_cell_row rfl _ _ (w.heap.size + 1) 23 vi (0, 0) _ rfl R4.out Tryz.underlying23 rfl Ivi.out) rfl ⟨by rw [EVi.out], HB.out.trans (B4.out.to_below (by have := HB.out.size; omega) (fun k hk q => by omega))⟩

set_option maxRecDepth 100000 in
set_option maxHeartbeats 8000000 in
theorem rclose_any (L : List (List UInt8)) (A : Option Addr) (n c : Nat) (w : World) (hI : HIn w A n c L) (hn : n ≤ 1000) :
    Calls Tryz.prog 129 #[.slice A n c] w fun ev w' => ev = .returned (hv (endB L)) ∧ Below w.heap.size w w' := by
  obtain ⟨vr, evr, Hvr, Zvr, Ivr, Ovr⟩ := row_of (endB L) (endB_length L)
  obtain ⟨wv, hwv⟩ : ∃ y9 : World, (w.alloc (.cells #[.int .u8 0, .int .u8 0, .int .u8 0, .int .u8 0, .int .u8 0, .int .u8 0, .int .u8 0, .int .u8 0, .int .u8 0, .int .u8 0, .int .u8 0, .int .u8 0, .int .u8 0, .int .u8 0, .int .u8 0, .int .u8 0, .int .u8 0, .int .u8 0, .int .u8 0, .int .u8 0, .int .u8 0, .int .u8 0, .int .u8 0, .int .u8 0, .int .u8 0, .int .u8 0, .int .u8 0, .int .u8 0, .int .u8 0, .int .u8 0, .int .u8 0, .int .u8 0] 23)) = y9 := ⟨_, rfl⟩
  have HBv : Hid (Below w.heap.size w wv) := Lib.hid (by rw [← hwv]; exact ((Below.refl _ _).alloc (by simp <;> omega) _))
  have HSV : Hid (wv.heap.size = w.heap.size + 1) := Lib.hid (by rw [← hwv]; simp)
  have RV : Hid (wv.heap[w.heap.size]? = some (.cells #[.int .u8 0, .int .u8 0, .int .u8 0, .int .u8 0, .int .u8 0, .int .u8 0, .int .u8 0, .int .u8 0, .int .u8 0, .int .u8 0, .int .u8 0, .int .u8 0, .int .u8 0, .int .u8 0, .int .u8 0, .int .u8 0, .int .u8 0, .int .u8 0, .int .u8 0, .int .u8 0, .int .u8 0, .int .u8 0, .int .u8 0, .int .u8 0, .int .u8 0, .int .u8 0, .int .u8 0, .int .u8 0, .int .u8 0, .int .u8 0, .int .u8 0, .int .u8 0] 23 (0, 0))) := Lib.hid (by rw [← hwv]; exact heap_at _ _ _ (by simp <;> omega))
  have HWV := Lib.hid hwv
  have hsv := HSV.out
  have HI := Lib.hid (hI.below HBv.out)
  have EVR := Lib.hid evr
  have z4 : bOf ⟨#[4]⟩ = [4] := rfl
  rw [evr]
  clear evr hwv hI
  go_enter Tryz.func129, Tryz.ntmps129
  go_upto_region 1 with fail
  rw [HWV.out]
  go_wp2_with fail
  go_loopw [3, 4] (fun s k wr => ∃ (i : Nat) (sx : ByteArray), i ≤ n ∧ s = .string sx ∧ k = .int .i64 i ∧ Hid (bOf sx = 4 :: (L.take i).flatten) ∧ sx.size ≤ 1 + 32 * i ∧ Hid (Below wv.heap.size wv wr)) (fun _ k _ => n - (intOf k).toNat)
  case atStart => exact ⟨0, ⟨#[4]⟩, Nat.zero_le _, rfl, rfl, Lib.hid (by rw [z4]; rfl), by show 1 ≤ _; omega, Lib.hid (Below.refl _ _)⟩
  case round =>
    obtain ⟨i, sx, hi, rfl, rfl, HSX, hsx, HB⟩ := hrel
    by_cases hlt : i < n
    · obtain ⟨q, hq⟩ : ∃ q, L[i]? = some q := ⟨_, List.getElem?_eq_getElem (by have := HI.out.2.1; omega)⟩
      obtain ⟨g, o, rfl, gl, rp, pl⟩ := HI.out.row hq
      obtain ⟨vp, evp, Hvp, Zvp, Ivp, Ovp⟩ := row_of q pl
      obtain ⟨lvp, hlvp⟩ : ∃ y, bytesV q = y := ⟨_, rfl⟩
      have Elvp : Hid (lvp.toArray = vp) := Lib.hid (by rw [← hlvp]; exact Hvp.out)
      have Ilvp : Hid ((Tryz.prog.info? 23).map (·.size) = some lvp.length) := Lib.hid (by rw [← hlvp, bytesV_length, pl]; kernel_rfl)
      have HRP : Hid (wr.rangeAt g (o + i * 32) lvp) := Lib.hid (by rw [← hlvp]; exact rangeAt_below HB.out rp gl)
      have i0 : (0 : Int) ≤ i := by omega
      have i1 : (i : Int) < n := by omega
      obtain ⟨sq, hsq⟩ : ∃ s : ByteArray, txtB q = s := ⟨_, rfl⟩
      have HBY : Hid (Calls Tryz.prog 189 #[.agg vp] wr fun ev w' => ev = .returned (.string sq) ∧ Below wr.heap.size wr w') := Lib.hid (by
        have := bytes22_any q wr pl
        rw [evp, hsq] at this; exact this)
      have z2 : sq.size = 32 := by rw [← hsq, txtB_size, pl]
      have HN : Hid (bOf (sx ++ sq) = 4 :: (L.take (i + 1)).flatten) := Lib.hid (by rw [bOf_app, HSX.out, ← hsq, bOf_txtB, flat_snoc hq]; rfl)
      have HNS : Hid ((sx ++ sq).size ≤ 1 + 32 * (i + 1)) := Lib.hid (by rw [ByteArray.size_append]; omega)
      clear evp hlvp rp hq pl hsq
      go_upto_region 5 with fail
      go_wp2_with (refine wpList_load_mid rfl 23 _ rfl g (o + i * 32) rfl lvp _ HRP.out Tryz.underlying23 rfl Ilvp.out ?_; rw [Elvp.out])
      refine HBY.out.mono ?_
      rintro ev w2 ⟨rfl, b2⟩
      have B2 := Lib.hid (HB.out.trans (b2.mono HB.out.size))
      clear b2
      go_wp2_with fail
      go_roundw
      case rel => exact ⟨i + 1, sx ++ sq, by omega, rfl, by go_num, HN, HNS.out, B2⟩
      case measure => simp [intOf]; omega
    · obtain rfl : n = i := by omega
      have HSM : Hid (Calls Tryz.prog 130 #[.string sx] wr fun ev w2 => ev = .returned (.agg vr) ∧ Below wr.heap.size wr w2) := Lib.hid (by
        have := refsum_any sx wr (by omega)
        rw [HSX.out, List.take_of_length_le (by have := HI.out.2.1; omega)] at this
        rw [← EVR.out]; exact this)
      go_wp2_with fail
      refine HSM.out.mono ?_
      rintro ev w2 ⟨rfl, b2⟩
      have B2 := Lib.hid (HB.out.trans (b2.mono HB.out.size))
      have R2 := Lib.hid ((B2.out.block _ (Array.getElem?_eq_some_iff.1 RV.out).1).trans RV.out)
      clear b2
      go_wp2_with (refine wpList_store_row rfl 23 _ _ rfl w.heap.size vr rfl rfl 23 _ R2.out Ivr.out (by rw [Zvr.out]; rfl) Ovr.out ?_)
      refine bodyPost_ret (v := .agg vr) (results_cell_row rfl _ _ w.heap.size 23 vr (0, 0) _ rfl (setRow_heap _ _ _ _ _ _ R2.out) Tryz.underlying23 rfl Ivr.out) rfl ⟨rfl, below_setRow (HBv.out.trans (B2.out.mono HBv.out.size)) _ _ (Nat.le_refl _)⟩

set_option maxRecDepth 100000 in
set_option maxHeartbeats 8000000 in
theorem leaftext5_any (s : ByteArray) (w : World) (hs : s.size ≤ 99999999999) : Calls Tryz.prog 196 #[.string s] w fun ev w' => ev = .returned (.string (⟨#[0]⟩ ++ s)) ∧ w = w' := by
  have z0 : ByteArray.size ⟨#[0]⟩ = 1 := rfl
  go_enter Tryz.func196, Tryz.ntmps196
  go_wp2
  go_ret
  exact ⟨rfl, rfl⟩
set_option maxRecDepth 100000 in
set_option maxHeartbeats 8000000 in
theorem leaf5_any (s : ByteArray) (w : World) (hs : s.size ≤ 99999999999) :
    Calls Tryz.prog 134 #[.string s] w fun ev w' => ev = .returned (hv (leafH s)) ∧ Below w.heap.size w w' := by
  obtain ⟨vr, evr, Hvr, Zvr, Ivr, Ovr⟩ := row_of (leafH s) (leafH_length s)
  obtain ⟨wv, hwv⟩ : ∃ y9 : World, (w.alloc (.cells #[.int .u8 0, .int .u8 0, .int .u8 0, .int .u8 0, .int .u8 0, .int .u8 0, .int .u8 0, .int .u8 0, .int .u8 0, .int .u8 0, .int .u8 0, .int .u8 0, .int .u8 0, .int .u8 0, .int .u8 0, .int .u8 0, .int .u8 0, .int .u8 0, .int .u8 0, .int .u8 0, .int .u8 0, .int .u8 0, .int .u8 0, .int .u8 0, .int .u8 0, .int .u8 0, .int .u8 0, .int .u8 0, .int .u8 0, .int .u8 0, .int .u8 0, .int .u8 0] 23)) = y9 := ⟨_, rfl⟩
  have HBv : Hid (Below w.heap.size w wv) := Lib.hid (by rw [← hwv]; exact ((Below.refl _ _).alloc (by simp <;> omega) _))
  have HSV : Hid (wv.heap.size = w.heap.size + 1) := Lib.hid (by rw [← hwv]; simp)
  have RV : Hid (wv.heap[w.heap.size]? = some (.cells #[.int .u8 0, .int .u8 0, .int .u8 0, .int .u8 0, .int .u8 0, .int .u8 0, .int .u8 0, .int .u8 0, .int .u8 0, .int .u8 0, .int .u8 0, .int .u8 0, .int .u8 0, .int .u8 0, .int .u8 0, .int .u8 0, .int .u8 0, .int .u8 0, .int .u8 0, .int .u8 0, .int .u8 0, .int .u8 0, .int .u8 0, .int .u8 0, .int .u8 0, .int .u8 0, .int .u8 0, .int .u8 0, .int .u8 0, .int .u8 0, .int .u8 0, .int .u8 0] 23 (0, 0))) := Lib.hid (by rw [← hwv]; exact heap_at _ _ _ (by simp <;> omega))
  have HWV := Lib.hid hwv
  have hsv := HSV.out
  have EVR := Lib.hid evr
  rw [evr]
  clear evr hwv
  go_enter Tryz.func134, Tryz.ntmps134
  go_upto_region 1 with fail
  rw [HWV.out]
  go_wp2_with fail
  refine (leaftext5_any s wv hs).mono ?_
  rintro ev w0 ⟨rfl, rfl⟩
  obtain ⟨t, ht⟩ : ∃ t : ByteArray, ⟨#[0]⟩ ++ s = t := ⟨_, rfl⟩
  have HSM : Hid (Calls Tryz.prog 130 #[.string t] wv fun ev w2 => ev = .returned (.agg vr) ∧ Below wv.heap.size wv w2) := Lib.hid (by
    have := refsum_any t wv (by rw [← ht, ByteArray.size_append]; show 1 + _ ≤ _; omega)
    rw [show bOf t = 0 :: bOf s by rw [← ht, bOf_app]; rfl, ← leafH_eq, EVR.out] at this
    exact this)
  rw [ht]
  clear ht hs
  go_wp2_with fail
  refine HSM.out.mono ?_
  rintro ev w1 ⟨rfl, b1⟩
  have R1 : Hid (w1.heap[w.heap.size]? = some (.cells #[.int .u8 0, .int .u8 0, .int .u8 0, .int .u8 0, .int .u8 0, .int .u8 0, .int .u8 0, .int .u8 0, .int .u8 0, .int .u8 0, .int .u8 0, .int .u8 0, .int .u8 0, .int .u8 0, .int .u8 0, .int .u8 0, .int .u8 0, .int .u8 0, .int .u8 0, .int .u8 0, .int .u8 0, .int .u8 0, .int .u8 0, .int .u8 0, .int .u8 0, .int .u8 0, .int .u8 0, .int .u8 0, .int .u8 0, .int .u8 0, .int .u8 0, .int .u8 0] 23 (0, 0))) := Lib.hid ((b1.block _ (Array.getElem?_eq_some_iff.1 RV.out).1).trans RV.out)
  have HB1 : Hid (Below w.heap.size w w1) := Lib.hid (HBv.out.trans (b1.mono HBv.out.size))
  clear b1
  go_wp2_with (refine wpList_store_row rfl 23 _ _ rfl (w.heap.size) vr rfl rfl 23 _ R1.out Ivr.out (by rw [Zvr.out]; rfl) Ovr.out ?_)
  refine bodyPost_ret (v := .agg vr) (results_cell_row rfl _ _ (w.heap.size) 23 vr (0, 0) _ rfl (setRow_heap _ _ _ _ _ _ R1.out) Tryz.underlying23 rfl Ivr.out) rfl ⟨rfl, below_setRow HB1.out _ _ (by omega)⟩
set_option maxRecDepth 100000 in
set_option maxHeartbeats 8000000 in
theorem bytes5_any (p : List UInt8) (w : World) (hp : p.length = 32) : Calls Tryz.prog 108 #[hv p] w fun ev w' => ev = .returned (.string (txtB p)) ∧ Below w.heap.size w w' := by
  obtain ⟨v0, ev0, Hv0, Zv0, Iv0, Ov0⟩ := row_of p hp
  obtain ⟨wv, hwv⟩ : ∃ y9 : World, (w.alloc (.cells v0 23)) = y9 := ⟨_, rfl⟩
  have HBv : Hid (Below w.heap.size w wv) := Lib.hid (by rw [← hwv]; exact ((Below.refl _ _).alloc (by simp <;> omega) _))
  have HSV : Hid (wv.heap.size = w.heap.size + 1) := Lib.hid (by rw [← hwv]; simp)
  have RA : Hid (wv.heap[w.heap.size]? = some (.cells v0 23 (0, 0))) := Lib.hid (by rw [← hwv]; exact heap_at _ _ _ (by simp <;> omega))
  have HWV := Lib.hid hwv
  have HBY : Hid (Calls Tryz.prog 171 #[.agg v0] wv fun ev w' => ev = .returned (.string (txtB p)) ∧ Below wv.heap.size wv w') := Lib.hid (by
    have := hbytes_any p wv hp
    rw [ev0] at this; exact this)
  obtain ⟨s1, hs1⟩ : ∃ t : ByteArray, txtB p = t := ⟨_, rfl⟩
  rw [hs1] at HBY
  rw [ev0, hs1]
  clear hp ev0 hwv hs1
  go_enter Tryz.func108, Tryz.ntmps108
  go_upto_region 1 with fail
  rw [HWV.out]
  go_wp2_with (refine wpList_load_row rfl 23 _ rfl w.heap.size rfl 23 v0 (0, 0) _ RA.out Tryz.underlying23 rfl Iv0.out ?_)
  refine HBY.out.mono ?_
  rintro ev w1 ⟨rfl, b1⟩
  have B1 := Lib.hid (HBv.out.trans (b1.mono HBv.out.size))
  clear b1
  go_wp2_with fail
  go_ret
  exact ⟨rfl, B1.out⟩
set_option maxRecDepth 100000 in
set_option maxHeartbeats 8000000 in
theorem rleaf_any (p : List UInt8) (w : World) (hp : p.length = 32) :
    Calls Tryz.prog 42 #[hv p] w fun ev w' => ev = .returned (hv (kleafB p)) ∧ Below w.heap.size w w' := by
  obtain ⟨vr, evr, Hvr, Zvr, Ivr, Ovr⟩ := row_of (kleafB p) (kleafB_length _)
  obtain ⟨v0, ev0, Hv0, Zv0, Iv0, Ov0⟩ := row_of p hp
  obtain ⟨s1, hs1⟩ : ∃ t : ByteArray, txtB p = t := ⟨_, rfl⟩
  have HBY : Hid (∀ w', Calls Tryz.prog 108 #[.agg v0] w' fun ev w2 => ev = .returned (.string s1) ∧ Below w'.heap.size w' w2) := Lib.hid (fun w' => by
    have := bytes5_any p w' hp
    rw [ev0, hs1] at this; exact this)
  have HLF : Hid (∀ w', Calls Tryz.prog 134 #[.string s1] w' fun ev w2 => ev = .returned (.agg vr) ∧ Below w'.heap.size w' w2) := Lib.hid (fun w' => by
    have := leaf5_any s1 w' (by rw [← hs1, txtB_size, hp]; decide)
    rw [show leafH s1 = kleafB p by rw [← hs1]; rfl, evr] at this; exact this)
  rw [ev0]
  clear ev0 hs1
  obtain ⟨wv, hwv⟩ : ∃ y9 : World, ((w.alloc (.cells v0 23)).alloc (.cells #[.int .u8 0, .int .u8 0, .int .u8 0, .int .u8 0, .int .u8 0, .int .u8 0, .int .u8 0, .int .u8 0, .int .u8 0, .int .u8 0, .int .u8 0, .int .u8 0, .int .u8 0, .int .u8 0, .int .u8 0, .int .u8 0, .int .u8 0, .int .u8 0, .int .u8 0, .int .u8 0, .int .u8 0, .int .u8 0, .int .u8 0, .int .u8 0, .int .u8 0, .int .u8 0, .int .u8 0, .int .u8 0, .int .u8 0, .int .u8 0, .int .u8 0, .int .u8 0] 23)) = y9 := ⟨_, rfl⟩
  have HBv : Hid (Below w.heap.size w wv) := Lib.hid (by rw [← hwv]; exact (((Below.refl _ _).alloc (by simp <;> omega) _).alloc (by simp <;> omega) _))
  have HSV : Hid (wv.heap.size = w.heap.size + 2) := Lib.hid (by rw [← hwv]; simp)
  have RA : Hid (wv.heap[w.heap.size]? = some (.cells v0 23 (0, 0))) := Lib.hid (by rw [← hwv]; exact (((Below.refl (w.alloc (.cells v0 23)).heap.size (w.alloc (.cells v0 23))).alloc (Nat.le_refl _) _).block w.heap.size (by simp <;> omega)).trans (heap_at _ _ _ (by simp <;> omega)))
  have RV : Hid (wv.heap[(w.heap.size + 1)]? = some (.cells #[.int .u8 0, .int .u8 0, .int .u8 0, .int .u8 0, .int .u8 0, .int .u8 0, .int .u8 0, .int .u8 0, .int .u8 0, .int .u8 0, .int .u8 0, .int .u8 0, .int .u8 0, .int .u8 0, .int .u8 0, .int .u8 0, .int .u8 0, .int .u8 0, .int .u8 0, .int .u8 0, .int .u8 0, .int .u8 0, .int .u8 0, .int .u8 0, .int .u8 0, .int .u8 0, .int .u8 0, .int .u8 0, .int .u8 0, .int .u8 0, .int .u8 0, .int .u8 0] 23 (0, 0))) := Lib.hid (by rw [← hwv]; exact heap_at _ _ _ (by simp <;> omega))
  have HWV := Lib.hid hwv
  have hsv := HSV.out
  have EVR := Lib.hid evr
  rw [evr]
  clear evr hwv
  go_enter Tryz.func42, Tryz.ntmps42
  go_upto_region 1 with fail
  rw [HWV.out]
  go_wp2_with (refine wpList_load_row rfl 23 _ rfl w.heap.size rfl 23 v0 (0, 0) _ RA.out Tryz.underlying23 rfl Iv0.out ?_)
  refine (HBY.out wv).mono ?_
  rintro ev w0 ⟨rfl, b0⟩
  have B0 := Lib.hid b0
  clear b0
  go_wp2_with fail
  refine (HLF.out w0).mono ?_
  rintro ev w1 ⟨rfl, b1'⟩
  have b1 := B0.out.trans (b1'.mono B0.out.size)
  clear b1'
  have R1 : Hid (w1.heap[w.heap.size + 1]? = some (.cells #[.int .u8 0, .int .u8 0, .int .u8 0, .int .u8 0, .int .u8 0, .int .u8 0, .int .u8 0, .int .u8 0, .int .u8 0, .int .u8 0, .int .u8 0, .int .u8 0, .int .u8 0, .int .u8 0, .int .u8 0, .int .u8 0, .int .u8 0, .int .u8 0, .int .u8 0, .int .u8 0, .int .u8 0, .int .u8 0, .int .u8 0, .int .u8 0, .int .u8 0, .int .u8 0, .int .u8 0, .int .u8 0, .int .u8 0, .int .u8 0, .int .u8 0, .int .u8 0] 23 (0, 0))) := Lib.hid ((b1.block _ (Array.getElem?_eq_some_iff.1 RV.out).1).trans RV.out)
  have HB1 : Hid (Below w.heap.size w w1) := Lib.hid (HBv.out.trans (b1.mono HBv.out.size))
  clear b1
  go_wp2_with (refine wpList_store_row rfl 23 _ _ rfl (w.heap.size + 1) vr rfl rfl 23 _ R1.out Ivr.out (by rw [Zvr.out]; rfl) Ovr.out ?_)
  refine bodyPost_ret (v := .agg vr) (results_cell_row rfl _ _ (w.heap.size + 1) 23 vr (0, 0) _ rfl (setRow_heap _ _ _ _ _ _ R1.out) Tryz.underlying23 rfl Ivr.out) rfl ⟨rfl, below_setRow HB1.out _ _ (by omega)⟩

end Go.Proofs.YtnpblpbcchminaaGreatDoor
