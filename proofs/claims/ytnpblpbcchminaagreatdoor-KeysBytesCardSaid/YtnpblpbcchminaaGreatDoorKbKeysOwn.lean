import Derived.Test.YtnpblpbcchminaaGreatDoorKbKeysTwo
/- keys.four, leaf, own, message. Condition: the table reads as listed. -/
namespace Go.Proofs.YtnpblpbcchminaaGreatDoor
open Go.ChangeShapes Go.WideShapes Go.ChangeAt Go.RowKit
set_option linter.unusedVariables false

set_option maxRecDepth 100000 in
set_option maxHeartbeats 8000000 in
theorem four_any (i : Nat) (w : World) (hi : i < 65536) :
    Calls Tryz.prog 124 #[.int .i64 i] w fun ev w' => ev = .returned (.string ⟨(fourB i).toArray⟩) ∧ Below w.heap.size w w' := by
  obtain ⟨s, hs⟩ : ∃ s : ByteArray, ⟨(fourB i).toArray⟩ = s := ⟨_, rfl⟩
  obtain ⟨x1, hx1⟩ : ∃ x : Int, x = ((UInt8.ofNat (i / 16777216)).toNat : Int) := ⟨_, rfl⟩
  obtain ⟨x2, hx2⟩ : ∃ x : Int, x = ((UInt8.ofNat (i / 65536)).toNat : Int) := ⟨_, rfl⟩
  obtain ⟨x3, hx3⟩ : ∃ x : Int, x = ((UInt8.ofNat (i / 256)).toNat : Int) := ⟨_, rfl⟩
  obtain ⟨x4, hx4⟩ : ∃ x : Int, x = ((UInt8.ofNat i).toNat : Int) := ⟨_, rfl⟩
  have hxr : (bytesV (fourB i)).toArray = #[.int .u8 x1, .int .u8 x2, .int .u8 x3, .int .u8 x4] := by rw [hx1, hx2, hx3, hx4]; rfl
  have kb : (convert 138 9 (.slice (some ⟨w.heap.size, 0, none⟩) 4 4)).run Tryz.prog (w.alloc (.cells #[.int .u8 x1, .int .u8 x2, .int .u8 x3, .int .u8 x4] 5)) = .ok (.string s) (w.alloc (.cells #[.int .u8 x1, .int .u8 x2, .int .u8 x3, .int .u8 x4] 5)) := by
    rw [← hs]
    exact bytes_back _ w.heap.size 0 4 (fourB i) rfl (range_row _ (heap_at _ _ _ rfl) hxr)
  have e1 : IntKind.u8.wrap ((i : Int) / 16777216) = x1 := by rw [hx1, IntKind.wrap_u8]; simp
  have e2 : IntKind.u8.wrap ((i : Int) / 65536) = x2 := by rw [hx2, IntKind.wrap_u8]; simp
  have e3 : IntKind.u8.wrap ((i : Int) / 256) = x3 := by rw [hx3, IntKind.wrap_u8]; simp
  have e4 : IntKind.u8.wrap (i : Int) = x4 := by rw [hx4, IntKind.wrap_u8]; simp
  rw [hs]
  clear hs hx1 hx2 hx3 hx4 hxr
  go_enter Tryz.func124, Tryz.ntmps124
  go_wp2
  go_ret
  exact ⟨rfl, (Below.refl _ _).alloc (Nat.le_refl _) _⟩

set_option maxRecDepth 100000 in
set_option maxHeartbeats 8000000 in
theorem kleaf_any (p : List UInt8) (w : World) (hp : p.length = 32) (hK : KTab 17 w) :
    Calls Tryz.prog 37 #[hv p] w fun ev w' => ev = .returned (hv (kleafB p)) ∧ Below w.heap.size w w' := by
  obtain ⟨v0, ev0, Hv0, Zv0, Iv0, Ov0⟩ := row_of p hp
  obtain ⟨vr, evr, Hvr, Zvr, Ivr, Ovr⟩ := row_of (kleafB p) (kleafB_length _)
  obtain ⟨s1, hs1⟩ : ∃ t : ByteArray, ⟨p.toArray⟩ = t := ⟨_, rfl⟩
  obtain ⟨wv, hwv⟩ : ∃ y9 : World, ((w.alloc (.cells v0 23)).alloc (.cells #[.int .u8 0, .int .u8 0, .int .u8 0, .int .u8 0, .int .u8 0, .int .u8 0, .int .u8 0, .int .u8 0, .int .u8 0, .int .u8 0, .int .u8 0, .int .u8 0, .int .u8 0, .int .u8 0, .int .u8 0, .int .u8 0, .int .u8 0, .int .u8 0, .int .u8 0, .int .u8 0, .int .u8 0, .int .u8 0, .int .u8 0, .int .u8 0, .int .u8 0, .int .u8 0, .int .u8 0, .int .u8 0, .int .u8 0, .int .u8 0, .int .u8 0, .int .u8 0] 23)) = y9 := ⟨_, rfl⟩
  have HBv : Hid (Below w.heap.size w wv) := Lib.hid (by rw [← hwv]; exact (((Below.refl _ _).alloc (by simp <;> omega) _).alloc (by simp <;> omega) _))
  have HSV : Hid (wv.heap.size = w.heap.size + 2) := Lib.hid (by rw [← hwv]; simp)
  have RA : Hid (wv.heap[w.heap.size]? = some (.cells v0 23 (0, 0))) := Lib.hid (by rw [← hwv]; exact (((Below.refl (w.alloc (.cells v0 23)).heap.size (w.alloc (.cells v0 23))).alloc (Nat.le_refl _) _).block w.heap.size (by simp <;> omega)).trans (heap_at _ _ _ (by simp <;> omega)))
  have RB : Hid (wv.heap[(w.heap.size + 1)]? = some (.cells #[.int .u8 0, .int .u8 0, .int .u8 0, .int .u8 0, .int .u8 0, .int .u8 0, .int .u8 0, .int .u8 0, .int .u8 0, .int .u8 0, .int .u8 0, .int .u8 0, .int .u8 0, .int .u8 0, .int .u8 0, .int .u8 0, .int .u8 0, .int .u8 0, .int .u8 0, .int .u8 0, .int .u8 0, .int .u8 0, .int .u8 0, .int .u8 0, .int .u8 0, .int .u8 0, .int .u8 0, .int .u8 0, .int .u8 0, .int .u8 0, .int .u8 0, .int .u8 0] 23 (0, 0))) := Lib.hid (by rw [← hwv]; exact heap_at _ _ _ (by simp <;> omega))
  have HWV := Lib.hid hwv
  have kb : (convert 138 9 (.slice (some ⟨w.heap.size, 0, none⟩) 32 32)).run Tryz.prog wv = .ok (.string s1) wv := by
    rw [← hs1]
    exact bytes_back _ w.heap.size 0 32 p hp (range_row _ RA.out Hv0.out)
  have HLF : Hid (Calls Tryz.prog 126 #[.string s1] wv fun ev w' => ev = .returned (.agg vr) ∧ Below wv.heap.size wv w') := Lib.hid (by
    have := hleaf_any s1 wv (by rw [← hs1]; show p.toArray.size ≤ _; simp [hp]) (ktab_below hK HBv.out hK.lt)
    rw [show leafH s1 = kleafB p by rw [← hs1]; rfl, evr] at this; exact this)
  rw [ev0, evr]
  clear hK hp ev0 evr hwv hs1
  go_enter Tryz.func37, Tryz.ntmps37
  go_upto_region 1 with fail
  rw [HWV.out]
  go_wp2_with fail
  refine HLF.out.mono ?_
  rintro ev w1 ⟨rfl, b1⟩
  have HG := Lib.hid ((b1.block _ (by have := HSV.out; omega)).trans RB.out)
  have HF1 := Lib.hid (HBv.out.trans (b1.mono HBv.out.size))
  clear b1
  go_wp2_with (refine wpList_store_row rfl 23 _ _ rfl (w.heap.size + 1) vr rfl rfl 23 _ HG.out Ivr.out (by rw [Zvr.out]; rfl) Ovr.out ?_)
  refine bodyPost_ret (v := .agg vr) (results_cell_row rfl _ _ (w.heap.size + 1) 23 vr (0, 0) _ rfl (setRow_heap _ _ _ _ _ _ HG.out) Tryz.underlying23 rfl Ivr.out) rfl ⟨rfl, below_setRow HF1.out _ _ (by omega)⟩

set_option maxRecDepth 100000 in
set_option maxHeartbeats 8000000 in
theorem msg_any (i : Nat) (t : ByteArray) (w : World) (hi : i < 65536) (ht : t.size ≤ 9223372036854775807) (hK : KTab 17 w) :
    Calls Tryz.prog 35 #[.int .i64 i, .string t] w fun ev w' => ev = .returned (hv (msgB i (bOf t))) ∧ Below w.heap.size w w' := by
  obtain ⟨vr, evr, Hvr, Zvr, Ivr, Ovr⟩ := row_of (msgB i (bOf t)) (msgB_length _ _)
  obtain ⟨s1, hs1⟩ : ∃ t : ByteArray, ⟨(fourB i).toArray⟩ = t := ⟨_, rfl⟩
  obtain ⟨wv, hwv⟩ : ∃ y9 : World, (w.alloc (.cells #[.int .u8 0, .int .u8 0, .int .u8 0, .int .u8 0, .int .u8 0, .int .u8 0, .int .u8 0, .int .u8 0, .int .u8 0, .int .u8 0, .int .u8 0, .int .u8 0, .int .u8 0, .int .u8 0, .int .u8 0, .int .u8 0, .int .u8 0, .int .u8 0, .int .u8 0, .int .u8 0, .int .u8 0, .int .u8 0, .int .u8 0, .int .u8 0, .int .u8 0, .int .u8 0, .int .u8 0, .int .u8 0, .int .u8 0, .int .u8 0, .int .u8 0, .int .u8 0] 23)) = y9 := ⟨_, rfl⟩
  have HBv : Hid (Below w.heap.size w wv) := Lib.hid (by rw [← hwv]; exact ((Below.refl _ _).alloc (by simp <;> omega) _))
  have HSV : Hid (wv.heap.size = w.heap.size + 1) := Lib.hid (by rw [← hwv]; simp)
  have RB : Hid (wv.heap[w.heap.size]? = some (.cells #[.int .u8 0, .int .u8 0, .int .u8 0, .int .u8 0, .int .u8 0, .int .u8 0, .int .u8 0, .int .u8 0, .int .u8 0, .int .u8 0, .int .u8 0, .int .u8 0, .int .u8 0, .int .u8 0, .int .u8 0, .int .u8 0, .int .u8 0, .int .u8 0, .int .u8 0, .int .u8 0, .int .u8 0, .int .u8 0, .int .u8 0, .int .u8 0, .int .u8 0, .int .u8 0, .int .u8 0, .int .u8 0, .int .u8 0, .int .u8 0, .int .u8 0, .int .u8 0] 23 (0, 0))) := Lib.hid (by rw [← hwv]; exact heap_at _ _ _ (by simp <;> omega))
  have HWV := Lib.hid hwv
  have HFO : Hid (Calls Tryz.prog 124 #[.int .i64 i] wv fun ev w' => ev = .returned (.string s1) ∧ Below wv.heap.size wv w') := Lib.hid (by rw [← hs1]; exact four_any i wv hi)
  have HSUM := sum_row_big (w := w) [⟨#[6]⟩, s1, t] 3 #[.string ⟨#[6]⟩, .string s1, .string t] rfl rfl (by omega) (by rw [← hs1]; simp [catB, bOf, fourB]; omega) (fun s hs => by
    simp only [List.mem_cons, List.not_mem_nil, or_false] at hs
    rcases hs with rfl | rfl | rfl
    · exact Nat.le_of_lt (by decide)
    · rw [← hs1]; exact Nat.le_of_lt (by show 4 < _; decide)
    · exact ht) hK (msgB i (bOf t)) (by rw [← hs1]; simp [catB, bOf, msgB]) vr evr
  rw [evr]
  clear hK hi ht evr hwv hs1
  go_enter Tryz.func35, Tryz.ntmps35
  go_upto_region 1 with fail
  rw [HWV.out]
  go_wp2_with fail
  refine HFO.out.mono ?_
  rintro ev w1 ⟨rfl, b1⟩
  have B1 := Lib.hid (HBv.out.trans (b1.mono HBv.out.size))
  have R1 := Lib.hid ((b1.block _ (by have := HSV.out; omega)).trans RB.out)
  have hs1 : wv.heap.size ≤ w1.heap.size := b1.size
  clear b1
  obtain ⟨wx, hwx⟩ : ∃ x, w1.alloc (.cells #[.string ⟨#[6]⟩, .string s1, .string t] 9) = x := ⟨_, rfl⟩
  have HX : Hid (Below w1.heap.size w1 wx) := Lib.hid (by rw [← hwx]; exact (Below.refl _ _).alloc (Nat.le_refl _) _)
  have RX : Hid (wx.heap[w1.heap.size]? = some (.cells #[.string ⟨#[6]⟩, .string s1, .string t] 9 (0, 0))) := Lib.hid (by rw [← hwx]; exact heap_at _ _ _ rfl)
  have HWX := Lib.hid hwx
  clear hwx
  go_wp2_with fail
  rw [HWX.out]
  refine (HSUM.out wx w1.heap.size (B1.out.trans (HX.out.mono B1.out.size)) RX.out).mono ?_
  rintro ev w2 ⟨rfl, b2⟩
  have B2 := Lib.hid (HX.out.trans (b2.mono HX.out.size))
  have HG := Lib.hid ((B2.out.block _ (by have := HSV.out; omega)).trans R1.out)
  have HF1 := Lib.hid (B1.out.trans (B2.out.mono B1.out.size))
  clear b2
  go_wp2_with (refine wpList_store_row rfl 23 _ _ rfl w.heap.size vr rfl rfl 23 _ HG.out Ivr.out (by rw [Zvr.out]; rfl) Ovr.out ?_)
  refine bodyPost_ret (v := .agg vr) (results_cell_row rfl _ _ w.heap.size 23 vr (0, 0) _ rfl (setRow_heap _ _ _ _ _ _ HG.out) Tryz.underlying23 rfl Ivr.out) rfl ⟨rfl, below_setRow HF1.out _ _ (Nat.le_refl _)⟩

set_option maxRecDepth 100000 in
set_option maxHeartbeats 8000000 in
theorem own_any (b : Nat) (s : List UInt8) (i : Nat) (w : World) (hs : s.length = 32) (hr : w.rangeAt b 0 (bytesV s)) (hb : b < w.heap.size) (hi : i < 65536) (hK : KTab 17 w) :
    Calls Tryz.prog 44 #[.pointer (some ⟨b, 0, none⟩), .int .i64 i] w fun ev w' => ev = .returned (hv (ownB s i)) ∧ Below w.heap.size w w' := by
  obtain ⟨vr, evr, Hvr, Zvr, Ivr, Ovr⟩ := row_of (ownB s i) (ownB_length _ _)
  obtain ⟨s1, hs1⟩ : ∃ t : ByteArray, ⟨s.toArray⟩ = t := ⟨_, rfl⟩
  obtain ⟨s2, hs2⟩ : ∃ t : ByteArray, ⟨(fourB i).toArray⟩ = t := ⟨_, rfl⟩
  obtain ⟨wv, hwv⟩ : ∃ y9 : World, (w.alloc (.cells #[.int .u8 0, .int .u8 0, .int .u8 0, .int .u8 0, .int .u8 0, .int .u8 0, .int .u8 0, .int .u8 0, .int .u8 0, .int .u8 0, .int .u8 0, .int .u8 0, .int .u8 0, .int .u8 0, .int .u8 0, .int .u8 0, .int .u8 0, .int .u8 0, .int .u8 0, .int .u8 0, .int .u8 0, .int .u8 0, .int .u8 0, .int .u8 0, .int .u8 0, .int .u8 0, .int .u8 0, .int .u8 0, .int .u8 0, .int .u8 0, .int .u8 0, .int .u8 0] 23)) = y9 := ⟨_, rfl⟩
  have HBv : Hid (Below w.heap.size w wv) := Lib.hid (by rw [← hwv]; exact ((Below.refl _ _).alloc (by simp <;> omega) _))
  have HSV : Hid (wv.heap.size = w.heap.size + 1) := Lib.hid (by rw [← hwv]; simp)
  have RB : Hid (wv.heap[w.heap.size]? = some (.cells #[.int .u8 0, .int .u8 0, .int .u8 0, .int .u8 0, .int .u8 0, .int .u8 0, .int .u8 0, .int .u8 0, .int .u8 0, .int .u8 0, .int .u8 0, .int .u8 0, .int .u8 0, .int .u8 0, .int .u8 0, .int .u8 0, .int .u8 0, .int .u8 0, .int .u8 0, .int .u8 0, .int .u8 0, .int .u8 0, .int .u8 0, .int .u8 0, .int .u8 0, .int .u8 0, .int .u8 0, .int .u8 0, .int .u8 0, .int .u8 0, .int .u8 0, .int .u8 0] 23 (0, 0))) := Lib.hid (by rw [← hwv]; exact heap_at _ _ _ (by simp <;> omega))
  have HWV := Lib.hid hwv
  have HFO : Hid (∀ w, Calls Tryz.prog 124 #[.int .i64 i] w fun ev w' => ev = .returned (.string s2) ∧ Below w.heap.size w w') := Lib.hid (fun w => by rw [← hs2]; exact four_any i w hi)
  have HSUM := sum_row (w := w) [⟨#[5]⟩, s1, s2] 3 #[.string ⟨#[5]⟩, .string s1, .string s2] rfl rfl (by omega) (by rw [← hs1, ← hs2]; simp [catB, bOf, fourB, hs]) hK (ownB s i) (by rw [← hs1, ← hs2]; simp [catB, bOf, ownB]) vr evr
  have KB : Hid (∀ w', But (· = w.heap.size) wv w' → (convert 138 9 (.slice (some ⟨b, 0, none⟩) 32 32)).run Tryz.prog w' = .ok (.string s1) w') := Lib.hid (fun w' h => by
    rw [← hs1]
    exact bytes_back w' b 0 32 s hs (rangeAt_below (HBv.out.trans (But.to_below h HBv.out.size (fun k hk q => by omega))) hr hb))
  rw [evr]
  clear hK hs hr hi evr hwv hs1 hs2
  go_enter Tryz.func44, Tryz.ntmps44
  go_upto_region 1 with fail
  rw [HWV.out]
  go_wp2_with fail
  refine wp_region_held_drew (S := But (· = w.heap.size) wv) (by kernel_rfl) (But.refl _ _).drew (fun hHeld => ?_)
  refine tk (i := 0) (v := ?v1) rfl ?y1 ?r1
  case y1 => (intro w hSw; (try dsimp only at hSw); go_simp; (try with_reducible rfl))
  try simp only [pu]
  refine tk (i := 1) (v := ?v2) rfl ?y2 ?r2
  case y2 => (intro w hSw; (try dsimp only at hSw); go_simp; (try with_reducible rfl))
  try simp only [pu]
  refine tk (i := 2) (v := ?v3) rfl ?y3 ?r3
  case y3 => (intro w hSw; (try dsimp only at hSw); go_simp; (try with_reducible rfl))
  try simp only [pu]
  refine tk (i := 3) (v := ?v4) rfl ?y4 ?r4
  case y4 => (intro w hSw; (try dsimp only at hSw); go_simp; (try with_reducible rfl))
  try simp only [pu]
  refine tk (i := 4) (v := ?v5) rfl ?y5 ?r5
  case y5 => (intro w hSw; (try dsimp only at hSw); have z0 := KB.out w hSw; go_simp; (try with_reducible rfl))
  try simp only [pu]
  refine tk (i := 5) (v := ?v6) rfl ?y6 ?r6
  case y6 => (intro w hSw; (try dsimp only at hSw); go_simp; (try with_reducible rfl))
  try simp only [pu]
  refine wpAnyH_ready (rs := [6]) (by kernel_rfl) (by simp) ?_
  refine AllReadyH.cons (i := 6) rfl (fun K2 hK2 => ?_) AllReadyH.nil
  go_simp
  go_at_call 124
  refine (HFO.out wv.drew).mono ?_
  rintro ev w701 ⟨rfl, bw701⟩
  try go_wp2_with fail
  obtain ⟨Kw701, fw701⟩ := st_call ((But.refl (· = w.heap.size) wv).drew) bw701
  have Kw701 := Lib.hid Kw701
  have Tw701_0 := Lib.hid (fw701 _ _ (show wv.drew.heap[w.heap.size]? = _ from RB.out))
  clear bw701 fw701
  refine hK2.out _ _ Kw701.out (fun hHeld2 => ?_)
  clear hK2 K2
  try simp only [pu]
  refine wpAnyH_ready (rs := [7]) (by kernel_rfl) (by simp) ?_
  refine AllReadyH.cons (i := 7) rfl (fun K2 hK2 => ?_) AllReadyH.nil
  go_simp
  obtain ⟨w702, hw702⟩ : ∃ x, (w701.alloc (.cells #[.string ⟨#[5]⟩, .string s1, .string s2] 9)) = x := ⟨_, rfl⟩
  obtain ⟨g702, hg702⟩ : ∃ x, w701.heap.size = x := ⟨_, rfl⟩
  obtain ⟨Kw702, Tw702_1, qw702, fw702⟩ := st_alloc Kw701.out hw702 hg702
  rw [hw702, hg702]; clear hw702 hg702
  have Kw702 := Lib.hid Kw702
  have Tw702_1 := Lib.hid Tw702_1
  obtain ⟨Tw702_0, dw702_0⟩ := fw702 _ _ Tw701_0.out
  have Tw702_0 := Lib.hid Tw702_0
  clear fw702
  refine hK2.out _ _ Kw702.out (fun hHeld2 => ?_)
  clear hK2 K2
  try simp only [pu]
  refine wpAnyH_ready (rs := [8]) (by kernel_rfl) (by simp) ?_
  refine AllReadyH.cons (i := 8) rfl (fun K2 hK2 => ?_) AllReadyH.nil
  go_simp
  go_at_call 123
  refine (HSUM.out w702 g702 (HBv.out.trans (But.to_below Kw702.out HBv.out.size (fun k hk q => by omega))) Tw702_1.out).mono ?_
  rintro ev w703 ⟨rfl, bw703⟩
  try go_wp2_with fail
  obtain ⟨Kw703, fw703⟩ := st_call Kw702.out bw703
  have Kw703 := Lib.hid Kw703
  have Tw703_0 := Lib.hid (fw703 _ _ Tw702_0.out)
  have Tw703_1 := Lib.hid (fw703 _ _ Tw702_1.out)
  clear bw703 fw703
  refine hK2.out _ _ Kw703.out (fun hHeld2 => ?_)
  clear hK2 K2
  try simp only [pu]
  refine wpAnyH_ready (rs := [9]) (by kernel_rfl) (by simp) ?_
  refine AllReadyH.cons (i := 9) rfl (fun K2 hK2 => ?_) AllReadyH.nil
  rw [if_pos (by rfl)]
  refine wp_store_row 23 _ _ rfl w.heap.size vr rfl rfl 23 _ Tw703_0.out Ivr.out (by rw [Zvr.out]; rfl) Ovr.out ?_
  obtain ⟨w704, hw704⟩ : ∃ x, w703.setRow w.heap.size vr = x := ⟨_, rfl⟩
  obtain ⟨Kw704, Tw704_0, fw704⟩ := st_row Kw703.out hw704 (fun _ => rfl) Tw703_0.out
  have Kw704 := Lib.hid Kw704
  have Tw704_0 := Lib.hid Tw704_0
  have Tw704_1 := Lib.hid (fw704 _ _ (by omega) Tw703_1.out)
  clear fw704
  rw [hw704]
  clear hw704
  refine hK2.out _ _ Kw704.out (fun hHeld2 => ?_)
  clear hK2 K2
  try simp only [pu]
  refine wpAnyH_done (by kernel_rfl) ?_ _
  go_wp2
  refine bodyPost_ret (v := .agg vr) (results_cell_row rfl _ _ w.heap.size 23 vr (0, 0) _ rfl Tw704_0.out Tryz.underlying23 rfl Ivr.out) rfl ⟨rfl, (HBv.out.trans (But.to_below Kw704.out HBv.out.size (fun k hk q => by omega)))⟩

end Go.Proofs.YtnpblpbcchminaaGreatDoor
