import Derived.Deep.AppendLies
import Derived.Test.YtnpblpbcchminaaGreatDoorKbKrefC
import Derived.Test.YtnpblpbcchminaaGreatDoorKbRef18
/- cartularyref02.Var of small numbers; cartularyref23.Encode. Condition: the table reads as listed. -/
namespace Go.Proofs.YtnpblpbcchminaaGreatDoor
open Go.ChangeShapes Go.WideShapes Go.ChangeAt Go.RowKit
set_option linter.unusedVariables false

theorem info_u8v : (Tryz.prog.info? 5).map (fun i => (i.zero, i.size, i.bytes)) = some (some (.int .u8 0), 1, 1) := by kernel_rfl
set_option maxRecDepth 100000 in
set_option maxHeartbeats 8000000 in
theorem rvar_small (x : Nat) (w : World) (hx : x < 128) :
    Calls Tryz.prog 107 #[.int .u64 x] w fun ev w' => ev = .returned (.string (txtB [UInt8.ofNat x])) ∧ Below w.heap.size w w' := by
  obtain ⟨i0, hi, hz0, hz1, hz2⟩ := info_parts info_u8v
  obtain ⟨s, hs⟩ : ∃ s : ByteArray, txtB [UInt8.ofNat x] = s := ⟨_, rfl⟩
  obtain ⟨X, hX⟩ : ∃ X : Int, ((UInt8.ofNat x).toNat : Int) = X := ⟨_, rfl⟩
  have e4 : IntKind.u8.wrap (x : Int) = X := by rw [← hX, IntKind.wrap_u8]; simp
  have HR : Hid (bytesV [UInt8.ofNat x] = [.int .u8 X]) := Lib.hid (by rw [← hX]; rfl)
  have HS := Lib.hid hs
  have q0 : decide ((128 : Int) ≤ x) = false := by simp; omega
  rw [hs]
  clear hs hX
  go_enter Tryz.func107, Tryz.ntmps107
  go_wp2
  go_loopw [0, 3] (fun n l wr => n = .int .u64 x ∧ l = .slice none 0 0 ∧ wr = w) (fun _ _ _ => 0)
  case atStart => exact ⟨rfl, rfl, rfl⟩
  case round =>
    obtain ⟨rfl, rfl, rfl⟩ := hrel
    go_upto_region 6 with (at_builtin; refine wpList_append_lies _ rfl _ _ 138 rfl wr.heap.size 5 i0 (.int .u8 0) 1 1 Tryz.underlying138 hi hz0 hz1 hz2 rfl (by decide) (.slice none 0 0) 0 [] rfl (World.ownsRow_nil _ _ _ _) ⟨wr.heap.size, 0, none⟩ 1 1 _ rfl rfl (news_new _ _) (by simp [Value.oneCell']) (by decide) (by unfold maxLen; omega) (by omega) (by simp) _ rfl ?_; intro g3 cap3 w3 hown3 hgrow3 hat3 hlt3)
    have hb3 : Below wr.heap.size wr w3 := ((Below.refl wr.heap.size wr).alloc (Nat.le_refl _) _).grown hgrow3 (by simp) (fun k hk => by simp [Value.ownBlock] at hk)
    have kb : (convert 138 9 (.slice (some ⟨g3, 0, none⟩) (0 + 1) cap3)).run Tryz.prog w3 = .ok (.string s) w3 := by
      rw [← HS.out]
      refine bytes_back2 w3 g3 0 (0 + 1) cap3 [UInt8.ofNat x] rfl (fun j v hj => ?_)
      rw [HR.out] at hj
      rw [← Addr.add_mid]
      exact hown3.cells rfl j v (by simpa using hj)
    have B3 := Lib.hid hb3
    clear hown3 hgrow3 hat3 hlt3 hb3
    go_wp2
    go_ret
    exact ⟨rfl, B3.out⟩

theorem of_txt {S : ByteArray} {l : List UInt8} (h : bOf S = l) : S = ⟨l.toArray⟩ := by
  obtain ⟨d⟩ := S
  have e : d.toList = l := h
  rw [← e]
set_option maxRecDepth 100000 in
set_option maxHeartbeats 8000000 in
theorem renc_ok (x n : Nat) (A A2 : Option Addr) (c c2 : Nat) (C P : List (List UInt8)) (w : World) (hx : x < 64) (hn : n ≤ 6) (hC : HIn w A 67 c C) (hP : HIn w A2 n c2 P) :
    Calls Tryz.prog 27 #[.agg #[.int .i64 x, .slice A 67 c, .slice A2 n c2]] w fun ev w' => ev = .returned (.tuple #[.string ⟨(encB x C n P).toArray⟩, faultV 0]) ∧ Below w.heap.size w w' := by
  obtain ⟨sv, hsv9⟩ : ∃ y : Array Value, #[.int .i64 x, .slice A 67 c, .slice A2 n c2] = y := ⟨_, rfl⟩
  have Zsv : Hid (sv.size = 3) := Lib.hid (by rw [← hsv9]; rfl)
  have Isv : Hid ((Tryz.prog.info? 26).map (·.size) = some sv.size) := Lib.hid (by rw [Zsv.out]; kernel_rfl)
  obtain ⟨wv, hwv⟩ : ∃ y9 : World, ((w.alloc (.cells sv 26)).alloc (.cells #[.int .i64 0, .int .i64 0] 34)) = y9 := ⟨_, rfl⟩
  have HBv : Hid (Below w.heap.size w wv) := Lib.hid (by rw [← hwv]; exact (((Below.refl _ _).alloc (by simp <;> omega) _).alloc (by simp <;> omega) _))
  have HSV : Hid (wv.heap.size = w.heap.size + 2) := Lib.hid (by rw [← hwv]; simp)
  have RS : Hid (wv.heap[w.heap.size]? = some (.cells sv 26 (0, 0))) := Lib.hid (by rw [← hwv]; exact (((Below.refl (w.alloc (.cells sv 26)).heap.size (w.alloc (.cells sv 26))).alloc (Nat.le_refl _) _).block w.heap.size (by simp <;> omega)).trans (heap_at _ _ _ (by simp <;> omega)))
  have RF : Hid (wv.heap[(w.heap.size + 1)]? = some (.cells #[.int .i64 0, .int .i64 0] 34 (0, 0))) := Lib.hid (by rw [← hwv]; exact heap_at _ _ _ (by simp <;> omega))
  have HWV := Lib.hid hwv
  have hsvv := HSV.out
  have HMAY : Hid (∀ w', Calls Tryz.prog 38 #[.agg sv] w' fun ev w2 => ev = .returned (.bool true) ∧ Below w'.heap.size w' w2) := Lib.hid (fun w' => by
    have h9 := rmay_any x 67 n A A2 c c2 w'
    rw [show decide ((0 : Int) ≤ (x : Int) ∧ (x : Int) < 64 ∧ 67 = 67 ∧ n ≤ 6) = true from decide_eq_true ⟨by omega, by omega, rfl, by omega⟩, hsv9] at h9
    exact h9)
  have HKS : Hid (∀ w', Below wv.heap.size wv w' → w'.cell? ⟨w.heap.size, 0, none⟩ = some (.int .i64 x) ∧ w'.cell? ⟨w.heap.size, 1, none⟩ = some (.slice A 67 c) ∧ w'.cell? ⟨w.heap.size, 2, none⟩ = some (.slice A2 n c2)) := Lib.hid (fun w' hb => by
    have hg := (hb.block _ (by omega)).trans RS.out
    rw [← hsv9] at hg
    exact ⟨(cell_of_row w' _ 0 _ 26 (0, 0) hg).trans rfl, (cell_of_row w' _ 1 _ 26 (0, 0) hg).trans rfl, (cell_of_row w' _ 2 _ 26 (0, 0) hg).trans rfl⟩)
  have HC := Lib.hid (hC.below HBv.out)
  have HP := Lib.hid (hP.below HBv.out)
  have e1 : IntKind.u64.wrap (x : Int) = x := IntWalk.u64_in _ (by omega)
  have e2 : IntKind.u64.wrap (n : Int) = n := IntWalk.u64_in _ (by omega)
  obtain ⟨s0, hs0⟩ : ∃ s : ByteArray, txtB [UInt8.ofNat x] = s := ⟨_, rfl⟩
  have HVX : Hid (∀ w', Calls Tryz.prog 107 #[.int .u64 x] w' fun ev w2 => ev = .returned (.string s0) ∧ Below w'.heap.size w' w2) := Lib.hid (fun w' => by
    have := rvar_small x w' (by omega)
    rw [hs0] at this; exact this)
  have HS1 : Hid (bOf s0 = [UInt8.ofNat x] ++ (C.take 0).flatten) := Lib.hid (by rw [← hs0, bOf_txtB]; simp)
  have hz0 : s0.size = 1 := by rw [← hs0]; rfl
  rw [hsv9]
  clear hwv hsv9 hC hP hs0
  go_enter Tryz.func27, Tryz.ntmps27
  go_upto_region 1 with fail
  rw [HWV.out]
  go_wp2_with (refine wpList_load_row rfl 26 _ rfl w.heap.size rfl 26 sv (0, 0) _ RS.out Tryz.underlying26 rfl Isv.out ?_)
  refine (HMAY.out wv).mono ?_
  rintro ev w1 ⟨rfl, b1⟩
  have B1 := Lib.hid b1
  obtain ⟨x0, x1, x2⟩ := HKS.out w1 b1
  clear b1
  go_upto_region 3 with fail
  go_wp2_with fail
  refine (HVX.out w1).mono ?_
  rintro ev w2 ⟨rfl, b2⟩
  have B2 := Lib.hid (B1.out.trans (b2.mono B1.out.size))
  clear b2 x0 x1 x2
  go_wp2_with fail
  go_loopw [4, 5] (fun s k wr => ∃ (i : Nat) (sx : ByteArray), i ≤ 67 ∧ s = .string sx ∧ k = .int .i64 i ∧ Hid (bOf sx = [UInt8.ofNat x] ++ (C.take i).flatten) ∧ sx.size ≤ 3000 + 32 * i ∧ Hid (Below wv.heap.size wv wr)) (fun _ k _ => 67 - (intOf k).toNat)
  case atStart => exact ⟨0, _, Nat.zero_le _, rfl, rfl, HS1, by omega, B2⟩
  case round =>
    obtain ⟨i, sx, hi, rfl, rfl, HSX, hsx, HB⟩ := hrel
    obtain ⟨z0, z1, z2⟩ := HKS.out wr HB.out
    by_cases hlt : i < 67
    · obtain ⟨q, hq⟩ : ∃ q, C[i]? = some q := ⟨_, List.getElem?_eq_getElem (by have := HC.out.2.1; omega)⟩
      obtain ⟨g, o, rfl, gl, rp, pl⟩ := HC.out.row hq
      obtain ⟨vp, evp, Hvp, Zvp, Ivp, Ovp⟩ := row_of q pl
      obtain ⟨lvp, hlvp⟩ : ∃ y, bytesV q = y := ⟨_, rfl⟩
      have Elvp : Hid (lvp.toArray = vp) := Lib.hid (by rw [← hlvp]; exact Hvp.out)
      have Ilvp : Hid ((Tryz.prog.info? 23).map (·.size) = some lvp.length) := Lib.hid (by rw [← hlvp, bytesV_length, pl]; kernel_rfl)
      have HRP : Hid (wr.rangeAt g (o + i * 32) lvp) := Lib.hid (by rw [← hlvp]; exact rangeAt_below HB.out rp gl)
      have i0 : (0 : Int) ≤ i := by omega
      have i1 : (i : Int) < 67 := by omega
      obtain ⟨sq, hsq⟩ : ∃ s : ByteArray, txtB q = s := ⟨_, rfl⟩
      have HBY : Hid (Calls Tryz.prog 108 #[.agg vp] wr fun ev w' => ev = .returned (.string sq) ∧ Below wr.heap.size wr w') := Lib.hid (by
        have := bytes5_any q wr pl
        rw [evp, hsq] at this; exact this)
      have z9 : sq.size = 32 := by rw [← hsq, txtB_size, pl]
      have HN : Hid (bOf (sx ++ sq) = [UInt8.ofNat x] ++ (C.take (i + 1)).flatten) := Lib.hid (by rw [bOf_app, HSX.out, ← hsq, bOf_txtB, flat_snoc hq, List.append_assoc])
      have HNS : Hid ((sx ++ sq).size ≤ 3000 + 32 * (i + 1)) := Lib.hid (by rw [ByteArray.size_append]; omega)
      clear evp hlvp rp hq pl hsq
      go_upto_region 7 with fail
      go_wp2_with (refine wpList_load_mid rfl 23 _ rfl g (o + i * 32) rfl lvp _ HRP.out Tryz.underlying23 rfl Ilvp.out ?_; rw [Elvp.out])
      refine HBY.out.mono ?_
      rintro ev w2 ⟨rfl, b2⟩
      have B2 := Lib.hid (HB.out.trans (b2.mono HB.out.size))
      clear b2
      go_wp2_with fail
      go_roundw
      case rel => exact ⟨i + 1, sx ++ sq, by omega, rfl, by go_num, HN, HNS.out, B2⟩
      case measure => simp [intOf]; omega
    · obtain rfl : 67 = i := by omega
      rw [List.take_of_length_le (by have := HC.out.2.1; omega)] at HSX
      have HSX1 := HSX
      obtain ⟨s1, rfl⟩ : ∃ y, y = sx := ⟨_, rfl⟩
      have hs1z := hsx
      have HVN : Hid (Calls Tryz.prog 107 #[.int .u64 n] wr fun ev w' => ev = .returned (.string (txtB [UInt8.ofNat n])) ∧ Below wr.heap.size wr w') := Lib.hid (rvar_small n wr (by omega))
      obtain ⟨s2, hs2⟩ : ∃ s : ByteArray, txtB [UInt8.ofNat n] = s := ⟨_, rfl⟩
      rw [hs2] at HVN
      have z9 : s2.size = 1 := by rw [← hs2]; rfl
      have HS2 : Hid (bOf (s1 ++ s2) = ([UInt8.ofNat x] ++ C.flatten ++ [UInt8.ofNat n]) ++ (P.take 0).flatten) := Lib.hid (by rw [bOf_app, HSX1.out, ← hs2, bOf_txtB]; simp)
      have hs2z : (s1 ++ s2).size ≤ 3000 + 32 * 0 := by
        have h1 : s1.size = 2145 := by
          rw [← bOf_length, HSX1.out]
          have := flat_eq HC.out.1
          rw [HC.out.2.1] at this
          simp only [List.length_append, List.length_cons, List.length_nil, this]
        rw [ByteArray.size_append, z9, h1]; omega
      obtain ⟨wo, rfl⟩ : ∃ y, y = wr := ⟨_, rfl⟩
      have HBo := HB
      clear HSX hs2 hsx hi hlt HB
      go_wp2_with fail
      refine HVN.out.mono ?_
      rintro ev w6 ⟨rfl, b6⟩
      have B6 := Lib.hid (HBo.out.trans (b6.mono HBo.out.size))
      obtain ⟨y0, y1, y2⟩ := HKS.out w6 B6.out
      clear b6 z0 z1 z2
      go_wp2_with fail
      go_loopw [4, 6] (fun s k wr => ∃ (i : Nat) (sx : ByteArray), i ≤ n ∧ s = .string sx ∧ k = .int .i64 i ∧ Hid (bOf sx = ([UInt8.ofNat x] ++ C.flatten ++ [UInt8.ofNat n]) ++ (P.take i).flatten) ∧ sx.size ≤ 3000 + 32 * i ∧ Hid (Below wv.heap.size wv wr)) (fun _ k _ => n - (intOf k).toNat)
      case atStart => exact ⟨0, _, Nat.zero_le _, rfl, rfl, HS2, by omega, B6⟩
      case round =>
        obtain ⟨i, sx, hi, rfl, rfl, HSX, hsx, HB⟩ := hrel
        obtain ⟨z0, z1, z2⟩ := HKS.out wr HB.out
        by_cases hlt : i < n
        · obtain ⟨q, hq⟩ : ∃ q, P[i]? = some q := ⟨_, List.getElem?_eq_getElem (by have := HP.out.2.1; omega)⟩
          obtain ⟨g, o, rfl, gl, rp, pl⟩ := HP.out.row hq
          obtain ⟨vp, evp, Hvp, Zvp, Ivp, Ovp⟩ := row_of q pl
          obtain ⟨lvp, hlvp⟩ : ∃ y, bytesV q = y := ⟨_, rfl⟩
          have Elvp : Hid (lvp.toArray = vp) := Lib.hid (by rw [← hlvp]; exact Hvp.out)
          have Ilvp : Hid ((Tryz.prog.info? 23).map (·.size) = some lvp.length) := Lib.hid (by rw [← hlvp, bytesV_length, pl]; kernel_rfl)
          have HRP : Hid (wr.rangeAt g (o + i * 32) lvp) := Lib.hid (by rw [← hlvp]; exact rangeAt_below HB.out rp gl)
          have i0 : (0 : Int) ≤ i := by omega
          have i1 : (i : Int) < n := by omega
          obtain ⟨sq, hsq⟩ : ∃ s : ByteArray, txtB q = s := ⟨_, rfl⟩
          have HBY : Hid (Calls Tryz.prog 108 #[.agg vp] wr fun ev w' => ev = .returned (.string sq) ∧ Below wr.heap.size wr w') := Lib.hid (by
            have := bytes5_any q wr pl
            rw [evp, hsq] at this; exact this)
          have z9 : sq.size = 32 := by rw [← hsq, txtB_size, pl]
          have HN : Hid (bOf (sx ++ sq) = ([UInt8.ofNat x] ++ C.flatten ++ [UInt8.ofNat n]) ++ (P.take (i + 1)).flatten) := Lib.hid (by rw [bOf_app, HSX.out, ← hsq, bOf_txtB, flat_snoc hq, List.append_assoc])
          have HNS : Hid ((sx ++ sq).size ≤ 3000 + 32 * (i + 1)) := Lib.hid (by rw [ByteArray.size_append]; omega)
          clear evp hlvp rp hq pl hsq
          go_upto_region 12 with fail
          go_wp2_with (refine wpList_load_mid rfl 23 _ rfl g (o + i * 32) rfl lvp _ HRP.out Tryz.underlying23 rfl Ilvp.out ?_; rw [Elvp.out])
          refine HBY.out.mono ?_
          rintro ev w2 ⟨rfl, b2⟩
          have B2 := Lib.hid (HB.out.trans (b2.mono HB.out.size))
          clear b2
          go_wp2_with fail
          go_roundw
          case rel => exact ⟨i + 1, sx ++ sq, by omega, rfl, by go_num, HN, HNS.out, B2⟩
          case measure => simp [intOf]; omega
        · obtain rfl : n = i := by omega
          rw [List.take_of_length_le (by have := HP.out.2.1; omega)] at HSX
          have RF9 := Lib.hid ((HB.out.block _ (by omega)).trans RF.out)
          have HF1 := Lib.hid (HBv.out.trans (HB.out.mono HBv.out.size))
          have HST : Hid (sx = ⟨(encB x C n P).toArray⟩) := Lib.hid (of_txt (by rw [HSX.out]; rfl))
          clear HSX
          go_wp2_with (refine wpList_store_row rfl 34 _ _ rfl (w.heap.size + 1) #[.int .i64 0, .int .i64 0] rfl rfl 34 _ RF9.out (by kernel_rfl) rfl (by simp [Value.oneCell']) ?_)
          refine bodyPost_ret (v := .tuple #[.string sx, .agg #[.int .i64 0, .int .i64 0]]) (results_tmp_row rfl _ _ (w.heap.size + 1) 34 #[.int .i64 0, .int .i64 0] (0, 0) _ rfl (setRow_heap _ _ _ _ _ _ RF9.out) Tryz.underlying34 rfl (by kernel_rfl) _ rfl) rfl ⟨by rw [HST.out]; rfl, below_setRow HF1.out _ _ (by omega)⟩
set_option maxRecDepth 100000 in
set_option maxHeartbeats 8000000 in
theorem renc_bad (x : Int) (m n : Nat) (A A2 : Option Addr) (c c2 : Nat) (w : World) (hx : ¬ (0 ≤ x ∧ x < 64 ∧ m = 67 ∧ n ≤ 6)) :
    Calls Tryz.prog 27 #[.agg #[.int .i64 x, .slice A m c, .slice A2 n c2]] w fun ev w' => ev = .returned (.tuple #[.string ⟨#[]⟩, faultV 2]) ∧ Below w.heap.size w w' := by
  obtain ⟨vf, evf, HVF, Zvf, Ivf, Ovf⟩ := fault_of 2
  obtain ⟨sv, hsv9⟩ : ∃ y : Array Value, #[.int .i64 x, .slice A m c, .slice A2 n c2] = y := ⟨_, rfl⟩
  have Zsv : Hid (sv.size = 3) := Lib.hid (by rw [← hsv9]; rfl)
  have Isv : Hid ((Tryz.prog.info? 26).map (·.size) = some sv.size) := Lib.hid (by rw [Zsv.out]; kernel_rfl)
  obtain ⟨wv, hwv⟩ : ∃ y9 : World, ((w.alloc (.cells sv 26)).alloc (.cells #[.int .i64 0, .int .i64 0] 34)) = y9 := ⟨_, rfl⟩
  have HBv : Hid (Below w.heap.size w wv) := Lib.hid (by rw [← hwv]; exact (((Below.refl _ _).alloc (by simp <;> omega) _).alloc (by simp <;> omega) _))
  have HSV : Hid (wv.heap.size = w.heap.size + 2) := Lib.hid (by rw [← hwv]; simp)
  have RS : Hid (wv.heap[w.heap.size]? = some (.cells sv 26 (0, 0))) := Lib.hid (by rw [← hwv]; exact (((Below.refl (w.alloc (.cells sv 26)).heap.size (w.alloc (.cells sv 26))).alloc (Nat.le_refl _) _).block w.heap.size (by simp <;> omega)).trans (heap_at _ _ _ (by simp <;> omega)))
  have RF : Hid (wv.heap[(w.heap.size + 1)]? = some (.cells #[.int .i64 0, .int .i64 0] 34 (0, 0))) := Lib.hid (by rw [← hwv]; exact heap_at _ _ _ (by simp <;> omega))
  have HWV := Lib.hid hwv
  have hsvv := HSV.out
  have HMAY : Hid (∀ w', Calls Tryz.prog 38 #[.agg sv] w' fun ev w2 => ev = .returned (.bool false) ∧ Below w'.heap.size w' w2) := Lib.hid (fun w' => by
    have h9 := rmay_any x m n A A2 c c2 w'
    rw [show decide (0 ≤ x ∧ x < 64 ∧ m = 67 ∧ n ≤ 6) = false from decide_eq_false hx, hsv9] at h9
    exact h9)
  have PLAIN : Hid (∀ w, Calls Tryz.prog 17 #[.int .i64 2] w fun ev w' => ev = .returned (.agg vf) ∧ Below w.heap.size w w') := Lib.hid (fun w => by rw [← evf]; exact plain18 2 (by decide) (by decide) w)
  rw [hsv9, evf]
  clear hwv hsv9 hx evf
  go_enter Tryz.func27, Tryz.ntmps27
  go_upto_region 1 with fail
  rw [HWV.out]
  go_wp2_with (refine wpList_load_row rfl 26 _ rfl w.heap.size rfl 26 sv (0, 0) _ RS.out Tryz.underlying26 rfl Isv.out ?_)
  refine (HMAY.out wv).mono ?_
  rintro ev w1 ⟨rfl, b1⟩
  have B1 := Lib.hid b1
  clear b1
  go_wp2_with fail
  refine (PLAIN.out w1).mono ?_
  rintro ev w2 ⟨rfl, b2⟩
  have B2 := Lib.hid (B1.out.trans (b2.mono B1.out.size))
  have R9 := Lib.hid ((B2.out.block _ (by omega)).trans RF.out)
  have HF1 := Lib.hid (HBv.out.trans (B2.out.mono HBv.out.size))
  clear b2
  go_wp2_with (refine wpList_store_row rfl 34 _ _ rfl (w.heap.size + 1) vf rfl rfl 34 _ R9.out Ivf.out (by rw [Zvf.out]; rfl) Ovf.out ?_)
  refine bodyPost_ret (v := .tuple #[.string ⟨#[]⟩, .agg vf]) (results_tmp_row rfl _ _ (w.heap.size + 1) 34 vf (0, 0) _ rfl (setRow_heap _ _ _ _ _ _ R9.out) Tryz.underlying34 rfl Ivf.out _ rfl) rfl ⟨rfl, below_setRow HF1.out _ _ (by omega)⟩

end Go.Proofs.YtnpblpbcchminaaGreatDoor
