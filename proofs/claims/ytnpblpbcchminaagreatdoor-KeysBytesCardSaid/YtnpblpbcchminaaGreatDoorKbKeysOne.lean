import Derived.Test.YtnpblpbcchminaaGreatDoorKbKeysChain
/- onetime.begin, read, end. Condition: the table reads as listed. -/
namespace Go.Proofs.YtnpblpbcchminaaGreatDoor
open Go.ChangeShapes Go.WideShapes Go.ChangeAt Go.RowKit
set_option linter.unusedVariables false

/-- SHA of the texts in a row -/
theorem sum_row_big {w : World} (l : List ByteArray) (n : Nat) (c : Array Value) (hn : l.length = n) (hc : c = (l.map Value.string).toArray) (h6 : n ≤ 1000000) (hl : (catB l).length ≤ 9223372036854776000) (h63 : ∀ s ∈ l, s.size ≤ 9223372036854775807) (hK : KTab 17 w) (r : List UInt8) (hr : shaB (catB l) = r) (vr : Array Value) (hv' : hv r = .agg vr) :
    Hid (∀ (w' : World) (g : Nat), Below w.heap.size w w' → w'.heap[g]? = some (.cells c 9 (0, 0)) → Calls Tryz.prog 123 #[.slice (some ⟨g, 0, none⟩) n n] w' fun ev w2 => ev = .returned (.agg vr) ∧ Below w'.heap.size w' w2) := Lib.hid (fun w' g hb hg => by
  subst hn
  have := sum_big (some ⟨g, 0, none⟩) l.length l w' (trd_at l hg rfl hc) hl h63 h6 (ktab_below hK hb hK.lt)
  rw [hr, hv'] at this
  exact this)
theorem sum_row {w : World} (l : List ByteArray) (n : Nat) (c : Array Value) (hn : l.length = n) (hc : c = (l.map Value.string).toArray) (h6 : n ≤ 1000000) (hl : (catB l).length ≤ 140737488355328) (hK : KTab 17 w) (r : List UInt8) (hr : shaB (catB l) = r) (vr : Array Value) (hv' : hv r = .agg vr) :
    Hid (∀ (w' : World) (g : Nat), Below w.heap.size w w' → w'.heap[g]? = some (.cells c 9 (0, 0)) → Calls Tryz.prog 123 #[.slice (some ⟨g, 0, none⟩) n n] w' fun ev w2 => ev = .returned (.agg vr) ∧ Below w'.heap.size w' w2) :=
  sum_row_big l n c hn hc h6 (by omega) (fun s h => by have := catB_mem l s h; omega) hK r hr vr hv'
set_option maxRecDepth 100000 in
set_option maxHeartbeats 8000000 in
theorem begin_any (s : List UInt8) (i : Nat) (w : World) (hs : s.length = 32) (hi : i < 256) (hK : KTab 17 w) :
    Calls Tryz.prog 136 #[hv s, .int .i64 i] w fun ev w' => ev = .returned (hv (begB s i)) ∧ Below w.heap.size w w' := by
  obtain ⟨v0, ev0, Hv0, Zv0, Iv0, Ov0⟩ := row_of s hs
  obtain ⟨vr, evr, Hvr, Zvr, Ivr, Ovr⟩ := row_of (begB s i) (begB_length _ _)
  obtain ⟨x1, hx1⟩ : ∃ x : Int, x = ((UInt8.ofNat (i / 256)).toNat : Int) := ⟨_, rfl⟩
  obtain ⟨x2, hx2⟩ : ∃ x : Int, x = ((UInt8.ofNat i).toNat : Int) := ⟨_, rfl⟩
  have HX12 : Hid ((bytesV [UInt8.ofNat (i / 256), UInt8.ofNat i]).toArray = #[.int .u8 x1, .int .u8 x2]) := Lib.hid (by rw [hx1, hx2]; rfl)
  obtain ⟨s1, hs1⟩ : ∃ t : ByteArray, ⟨s.toArray⟩ = t := ⟨_, rfl⟩
  obtain ⟨s2, hs2⟩ : ∃ t : ByteArray, ⟨[UInt8.ofNat (i / 256), UInt8.ofNat i].toArray⟩ = t := ⟨_, rfl⟩
  obtain ⟨wv, hwv⟩ : ∃ y9 : World, ((w.alloc (.cells v0 23)).alloc (.cells #[.int .u8 0, .int .u8 0, .int .u8 0, .int .u8 0, .int .u8 0, .int .u8 0, .int .u8 0, .int .u8 0, .int .u8 0, .int .u8 0, .int .u8 0, .int .u8 0, .int .u8 0, .int .u8 0, .int .u8 0, .int .u8 0, .int .u8 0, .int .u8 0, .int .u8 0, .int .u8 0, .int .u8 0, .int .u8 0, .int .u8 0, .int .u8 0, .int .u8 0, .int .u8 0, .int .u8 0, .int .u8 0, .int .u8 0, .int .u8 0, .int .u8 0, .int .u8 0] 23)) = y9 := ⟨_, rfl⟩
  have HBv : Hid (Below w.heap.size w wv) := Lib.hid (by rw [← hwv]; exact (((Below.refl _ _).alloc (by simp <;> omega) _).alloc (by simp <;> omega) _))
  have HSV : Hid (wv.heap.size = w.heap.size + 2) := Lib.hid (by rw [← hwv]; simp)
  have RA : Hid (wv.heap[w.heap.size]? = some (.cells v0 23 (0, 0))) := Lib.hid (by rw [← hwv]; exact (((Below.refl (w.alloc (.cells v0 23)).heap.size (w.alloc (.cells v0 23))).alloc (Nat.le_refl _) _).block w.heap.size (by simp <;> omega)).trans (heap_at _ _ _ (by simp <;> omega)))
  have RB : Hid (wv.heap[(w.heap.size + 1)]? = some (.cells #[.int .u8 0, .int .u8 0, .int .u8 0, .int .u8 0, .int .u8 0, .int .u8 0, .int .u8 0, .int .u8 0, .int .u8 0, .int .u8 0, .int .u8 0, .int .u8 0, .int .u8 0, .int .u8 0, .int .u8 0, .int .u8 0, .int .u8 0, .int .u8 0, .int .u8 0, .int .u8 0, .int .u8 0, .int .u8 0, .int .u8 0, .int .u8 0, .int .u8 0, .int .u8 0, .int .u8 0, .int .u8 0, .int .u8 0, .int .u8 0, .int .u8 0, .int .u8 0] 23 (0, 0))) := Lib.hid (by rw [← hwv]; exact heap_at _ _ _ (by simp <;> omega))
  have HWV := Lib.hid hwv
  have HSUM := sum_row (w := w) [⟨#[3]⟩, s1, s2] 3 #[.string ⟨#[3]⟩, .string s1, .string s2] rfl rfl (by omega) (by rw [← hs1, ← hs2]; simp [catB, bOf, hs]) hK (begB s i) (by rw [← hs1, ← hs2]; simp [catB, bOf, begB]) vr evr
  have KB : Hid (∀ w', But (· = (w.heap.size + 1)) wv w' → (convert 138 9 (.slice (some ⟨w.heap.size, 0, none⟩) 32 32)).run Tryz.prog w' = .ok (.string s1) w') := Lib.hid (fun w' h => by
    rw [← hs1]
    exact bytes_back w' w.heap.size 0 32 s hs (range_row s ((h.same _ (by have := HSV.out; omega) (by omega)).trans RA.out) Hv0.out))
  have e1 : IntKind.u8.wrap ((i : Int) / 256) = x1 := by rw [hx1, IntKind.wrap_u8]; simp
  have e2 : IntKind.u8.wrap (i : Int) = x2 := by rw [hx2, IntKind.wrap_u8]; simp
  rw [ev0, evr]
  clear hK hs ev0 evr hwv hx1 hx2 hs1
  go_enter Tryz.func136, Tryz.ntmps136
  go_upto_region 1 with fail
  rw [HWV.out]
  go_wp2_with fail
  refine wp_region_held_drew (S := But (· = (w.heap.size + 1)) wv) (by kernel_rfl) (But.refl _ _).drew (fun hHeld => ?_)
  refine tk (i := 0) (v := ?v1) rfl ?y1 ?r1
  case y1 => (intro w hSw; (try dsimp only at hSw); go_simp; (try with_reducible rfl))
  try simp only [pu]
  refine tk (i := 1) (v := ?v2) rfl ?y2 ?r2
  case y2 => (intro w hSw; (try dsimp only at hSw); have z0 := KB.out w hSw; go_simp; (try with_reducible rfl))
  try simp only [pu]
  refine tk (i := 2) (v := ?v3) rfl ?y3 ?r3
  case y3 => (intro w hSw; (try dsimp only at hSw); go_simp; (try with_reducible rfl))
  try simp only [pu]
  refine tk (i := 3) (v := ?v4) rfl ?y4 ?r4
  case y4 => (intro w hSw; (try dsimp only at hSw); go_simp; (try with_reducible rfl))
  try simp only [pu]
  refine tk (i := 4) (v := ?v5) rfl ?y5 ?r5
  case y5 => (intro w hSw; (try dsimp only at hSw); go_simp; (try with_reducible rfl))
  try simp only [pu]
  refine tk (i := 5) (v := ?v6) rfl ?y6 ?r6
  case y6 => (intro w hSw; (try dsimp only at hSw); go_simp; (try with_reducible rfl))
  try simp only [pu]
  refine tk (i := 6) (v := ?v7) rfl ?y7 ?r7
  case y7 => (intro w hSw; (try dsimp only at hSw); go_simp; (try with_reducible rfl))
  try simp only [pu]
  refine wpAnyH_ready (rs := [7]) (by kernel_rfl) (by simp) ?_
  refine AllReadyH.cons (i := 7) rfl (fun K2 hK2 => ?_) AllReadyH.nil
  go_simp
  obtain ⟨w701, hw701⟩ : ∃ x, (wv.alloc (.cells #[.int .u8 x1, .int .u8 x2] 5)).drew = x := ⟨_, rfl⟩
  obtain ⟨g701, hg701⟩ : ∃ x, wv.heap.size = x := ⟨_, rfl⟩
  obtain ⟨Kw701, Tw701_2, qw701, fw701⟩ := st_alloc ((But.refl (· = (w.heap.size + 1)) wv).drew) hw701 hg701
  rw [hw701, hg701]; clear hw701 hg701
  have Kw701 := Lib.hid Kw701
  have Tw701_2 := Lib.hid Tw701_2
  obtain ⟨Tw701_0, dw701_0⟩ := fw701 _ _ (show wv.drew.heap[w.heap.size]? = _ from RA.out)
  have Tw701_0 := Lib.hid Tw701_0
  obtain ⟨Tw701_1, dw701_1⟩ := fw701 _ _ (show wv.drew.heap[(w.heap.size + 1)]? = _ from RB.out)
  have Tw701_1 := Lib.hid Tw701_1
  clear fw701
  refine hK2.out _ _ Kw701.out (fun hHeld2 => ?_)
  clear hK2 K2
  try simp only [pu]
  refine wpAnyH_ready (rs := [8]) (by kernel_rfl) (by simp) ?_
  refine AllReadyH.cons (i := 8) rfl (fun K2 hK2 => ?_) AllReadyH.nil
  have z9 := bytes_back w701 g701 0 2 [UInt8.ofNat (i / 256), UInt8.ofNat i] rfl (range_row _ Tw701_2.out HX12.out)
  go_simp
  refine hK2.out _ _ Kw701.out (fun hHeld2 => ?_)
  clear hK2 K2
  try simp only [pu]
  refine wpAnyH_ready (rs := [9]) (by kernel_rfl) (by simp) ?_
  refine AllReadyH.cons (i := 9) rfl (fun K2 hK2 => ?_) AllReadyH.nil
  go_simp
  obtain ⟨w702, hw702⟩ : ∃ x, (w701.alloc (.cells #[.string ⟨#[3]⟩, .string s1, .string s2] 9)) = x := ⟨_, rfl⟩
  obtain ⟨g702, hg702⟩ : ∃ x, w701.heap.size = x := ⟨_, rfl⟩
  obtain ⟨Kw702, Tw702_3, qw702, fw702⟩ := st_alloc Kw701.out hw702 hg702
  rw [hw702, hg702]; clear hw702 hg702
  have Kw702 := Lib.hid Kw702
  have Tw702_3 := Lib.hid Tw702_3
  obtain ⟨Tw702_0, dw702_0⟩ := fw702 _ _ Tw701_0.out
  have Tw702_0 := Lib.hid Tw702_0
  obtain ⟨Tw702_1, dw702_1⟩ := fw702 _ _ Tw701_1.out
  have Tw702_1 := Lib.hid Tw702_1
  obtain ⟨Tw702_2, dw702_2⟩ := fw702 _ _ Tw701_2.out
  have Tw702_2 := Lib.hid Tw702_2
  clear fw702
  refine hK2.out _ _ Kw702.out (fun hHeld2 => ?_)
  clear hK2 K2
  try simp only [pu]
  refine wpAnyH_ready (rs := [10]) (by kernel_rfl) (by simp) ?_
  refine AllReadyH.cons (i := 10) rfl (fun K2 hK2 => ?_) AllReadyH.nil
  go_simp
  go_at_call 123
  refine (HSUM.out w702 g702 (HBv.out.trans (But.to_below Kw702.out HBv.out.size (fun k hk q => by omega))) Tw702_3.out).mono ?_
  rintro ev w703 ⟨rfl, bw703⟩
  try go_wp2_with fail
  obtain ⟨Kw703, fw703⟩ := st_call Kw702.out bw703
  have Kw703 := Lib.hid Kw703
  have Tw703_0 := Lib.hid (fw703 _ _ Tw702_0.out)
  have Tw703_1 := Lib.hid (fw703 _ _ Tw702_1.out)
  have Tw703_2 := Lib.hid (fw703 _ _ Tw702_2.out)
  have Tw703_3 := Lib.hid (fw703 _ _ Tw702_3.out)
  clear bw703 fw703
  refine hK2.out _ _ Kw703.out (fun hHeld2 => ?_)
  clear hK2 K2
  try simp only [pu]
  refine wpAnyH_ready (rs := [11]) (by kernel_rfl) (by simp) ?_
  refine AllReadyH.cons (i := 11) rfl (fun K2 hK2 => ?_) AllReadyH.nil
  rw [if_pos (by rfl)]
  refine wp_store_row 23 _ _ rfl (w.heap.size + 1) vr rfl rfl 23 _ Tw703_1.out Ivr.out (by rw [Zvr.out]; rfl) Ovr.out ?_
  obtain ⟨w704, hw704⟩ : ∃ x, w703.setRow (w.heap.size + 1) vr = x := ⟨_, rfl⟩
  obtain ⟨Kw704, Tw704_1, fw704⟩ := st_row Kw703.out hw704 (fun _ => rfl) Tw703_1.out
  have Kw704 := Lib.hid Kw704
  have Tw704_1 := Lib.hid Tw704_1
  have Tw704_0 := Lib.hid (fw704 _ _ (by omega) Tw703_0.out)
  have Tw704_2 := Lib.hid (fw704 _ _ (by omega) Tw703_2.out)
  have Tw704_3 := Lib.hid (fw704 _ _ (by omega) Tw703_3.out)
  clear fw704
  rw [hw704]
  clear hw704
  refine hK2.out _ _ Kw704.out (fun hHeld2 => ?_)
  clear hK2 K2
  try simp only [pu]
  refine wpAnyH_done (by kernel_rfl) ?_ _
  go_wp2
  refine bodyPost_ret (v := .agg vr) (results_cell_row rfl _ _ (w.heap.size + 1) 23 vr (0, 0) _ rfl Tw704_1.out Tryz.underlying23 rfl Ivr.out) rfl ⟨rfl, (HBv.out.trans (But.to_below Kw704.out HBv.out.size (fun k hk q => by omega)))⟩

theorem zero67 : Tryz.zeroCells132 = ((List.replicate 67 (0 : Int)).map (Value.int .i64)).toArray := by kernel_rfl
/-- the digits so far -/
def drow (m : List UInt8) (i : Nat) : List Int := ((nibB m).take i).map Int.ofNat ++ List.replicate (67 - i) 0
theorem drow_zero (m : List UInt8) : drow m 0 = List.replicate 67 0 := by simp [drow]
theorem drow_length {m : List UInt8} {i : Nat} (hm : m.length = 32) (hi : i ≤ 64) : (drow m i).length = 67 := by
  unfold drow
  rw [List.length_append, List.length_map, List.length_take, nibB_length, List.length_replicate]; omega
theorem drow_set {m : List UInt8} {i : Nat} (hm : m.length = 32) (hi : i < 64) (x : Nat) (hx : (nibB m)[i]? = some x) : (drow m i).set i (x : Int) = drow m (i + 1) := by
  have hl : ((nibB m).take i).length = i := by rw [List.length_take, nibB_length]; omega
  unfold drow
  rw [List.set_append_right _ _ (by rw [List.length_map]; omega), List.take_add_one, hx]
  simp only [List.length_map, hl, Nat.sub_self]
  rw [show 67 - i = (67 - (i + 1)) + 1 by omega, List.replicate_succ, List.set_cons_zero]
  simp
theorem drow_at {m : List UInt8} {i : Nat} (hm : m.length = 32) (hi : i < 64) (x : Nat) (hx : (nibB m)[i]? = some x) : (drow m (i + 1))[i]? = some (x : Int) := by
  have hl : ((nibB m).take (i + 1)).length = i + 1 := by rw [List.length_take, nibB_length]; omega
  unfold drow
  rw [List.getElem?_append_left (by rw [List.length_map]; omega), List.getElem?_map, List.getElem?_take_of_lt (by omega), hx]; rfl
/-- the last three -/
def trow (m : List UInt8) (j : Nat) : List Int := (nibB m).map Int.ofNat ++ (if j = 0 then [0, 0, 0] else if j = 1 then [0, 0, ((lackB (nibB m) % 16 : Nat) : Int)] else if j = 2 then [0, ((lackB (nibB m) / 16 % 16 : Nat) : Int), ((lackB (nibB m) % 16 : Nat) : Int)] else [((lackB (nibB m) / 256 : Nat) : Int), ((lackB (nibB m) / 16 % 16 : Nat) : Int), ((lackB (nibB m) % 16 : Nat) : Int)])
theorem drow_trow {m : List UInt8} (hm : m.length = 32) : drow m 64 = trow m 0 := by
  unfold drow trow
  rw [List.take_of_length_le (by rw [nibB_length]; omega)]; rfl
theorem trow_digB (m : List UInt8) : trow m 3 = (digB m).map Int.ofNat := by simp [trow, digB]
theorem trow_set {m : List UInt8} {j : Nat} (hm : m.length = 32) (hj : j < 3) (x : Nat) (hx : x = if j = 0 then lackB (nibB m) % 16 else if j = 1 then lackB (nibB m) / 16 % 16 else lackB (nibB m) / 256) : (trow m j).set (66 - j) (x : Int) = trow m (j + 1) := by
  have hl : ((nibB m).map Int.ofNat).length = 64 := by rw [List.length_map, nibB_length]; omega
  unfold trow
  rw [List.set_append_right _ _ (by omega), hl]
  obtain rfl | rfl | rfl : j = 0 ∨ j = 1 ∨ j = 2 := by omega
  all_goals (simp at hx; subst hx; rfl)
theorem trow_length {m : List UInt8} {j : Nat} (hm : m.length = 32) : (trow m j).length = 67 := by
  unfold trow
  rw [List.length_append, List.length_map, nibB_length, hm]
  split
  · rfl
  · split
    · rfl
    · split <;> rfl
theorem and_i64 (a b : Nat) (ha : a < 4294967296) (hb : b < 4294967296) : bits .and .i64 (a : Int) (b : Int) = ((a &&& b : Nat) : Int) :=
  (bits_nat .i64 32 (by decide) (fun n h h' => IntWalk.i64_in n (by simp at h'; omega)) a b ha hb).1
theorem land15 (n : Nat) : n &&& 15 = n % 16 := Nat.and_two_pow_sub_one_eq_mod n 4
set_option maxRecDepth 100000 in
set_option maxHeartbeats 8000000 in
theorem read_any (m : List UInt8) (w : World) (hm : m.length = 32) :
    Calls Tryz.prog 120 #[hv m] w fun ev w' => ev = .returned (.agg (((digB m).map Int.ofNat).map (Value.int .i64)).toArray) ∧ Below w.heap.size w w' := by
  obtain ⟨v0, ev0, Hv0, Zv0, Iv0, Ov0⟩ := row_of m hm
  obtain ⟨wv, hwv⟩ : ∃ y9 : World, (((w.alloc (.cells v0 23)).alloc (.cells Tryz.zeroCells132 132)).alloc (.cells Tryz.zeroCells132 132)) = y9 := ⟨_, rfl⟩
  have HBv : Hid (Below w.heap.size w wv) := Lib.hid (by rw [← hwv]; exact ((((Below.refl _ _).alloc (by simp <;> omega) _).alloc (by simp <;> omega) _).alloc (by simp <;> omega) _))
  have HSV : Hid (wv.heap.size = w.heap.size + 3) := Lib.hid (by rw [← hwv]; simp)
  have RA : Hid (wv.heap[w.heap.size]? = some (.cells v0 23 (0, 0))) := Lib.hid (by rw [← hwv]; exact ((((Below.refl (w.alloc (.cells v0 23)).heap.size (w.alloc (.cells v0 23))).alloc (Nat.le_refl _) _).alloc (by simp <;> omega) _).block w.heap.size (by simp <;> omega)).trans (heap_at _ _ _ (by simp <;> omega)))
  have RB : Hid (wv.heap[(w.heap.size + 1)]? = some (.cells Tryz.zeroCells132 132 (0, 0))) := Lib.hid (by rw [← hwv]; exact (((Below.refl ((w.alloc (.cells v0 23)).alloc (.cells Tryz.zeroCells132 132)).heap.size ((w.alloc (.cells v0 23)).alloc (.cells Tryz.zeroCells132 132))).alloc (Nat.le_refl _) _).block (w.heap.size + 1) (by simp <;> omega)).trans (heap_at _ _ _ (by simp <;> omega)))
  have RC : Hid (wv.heap[(w.heap.size + 2)]? = some (.cells Tryz.zeroCells132 132 (0, 0))) := Lib.hid (by rw [← hwv]; exact heap_at _ _ _ (by simp <;> omega))
  have HWV := Lib.hid hwv
  have HM := Lib.hid hm
  have RI : Hid (IRow wv (w.heap.size + 1 + 1) .i64 132 (drow m 0)) := Lib.hid (by rw [drow_zero]; exact RC.out.trans (by rw [zero67]))
  obtain ⟨dv, hdv⟩ : ∃ y, (((digB m).map Int.ofNat).map (Value.int .i64)).toArray = y := ⟨_, rfl⟩
  have Zdv : Hid (dv.size = 67) := Lib.hid (by rw [← hdv]; simp [digB_length HM.out])
  have Idv : Hid ((Tryz.prog.info? 132).map (·.size) = some dv.size) := Lib.hid (by rw [Zdv.out]; kernel_rfl)
  have Odv : Hid (dv.all (·.oneCell') = true) := Lib.hid (by rw [← hdv]; simp [Value.oneCell'])
  have HDV := Lib.hid hdv
  rw [ev0, hdv]
  clear hm ev0 hwv RC hdv
  go_enter Tryz.func120, Tryz.ntmps120
  go_upto_region 2 with fail
  rw [HWV.out]
  go_wp2_with fail
  go_loopw [4, 7] (fun s c wr => ∃ i : Nat, i ≤ 64 ∧ s = .int .i64 (lackB ((nibB m).take i) : Nat) ∧ c = .int .i64 i ∧ Hid (IRow wr (w.heap.size + 1 + 1) .i64 132 (drow m i)) ∧ Hid (But (· = w.heap.size + 1 + 1) wv wr)) (fun _ c _ => 64 - (intOf c).toNat)
  case atStart => exact ⟨0, by omega, rfl, rfl, RI, Lib.hid (But.refl _ _)⟩
  case round =>
    obtain ⟨i, hi, rfl, rfl, HR, HB⟩ := hrel
    by_cases hlt : i < 64
    · obtain ⟨x, hx⟩ : ∃ x, m[i / 2]? = some x := ⟨_, List.getElem?_eq_getElem (by have := HM.out; omega)⟩
      have hn := nib_at m i x hx
      obtain ⟨d, hd⟩ : ∃ d, (if i % 2 = 0 then x.toNat / 16 else x.toNat % 16) = d := ⟨_, rfl⟩
      rw [hd] at hn
      have hxl := x.toNat_lt
      have hd15 : d ≤ 15 := by rw [← hd]; split <;> omega
      have hls := lackB_snoc ((nibB m).take i) d
      have hle := lackB_le ((nibB m).take i)
      rw [List.length_take] at hle
      have hts : (nibB m).take (i + 1) = (nibB m).take i ++ [d] := by rw [List.take_add_one, hn]; rfl
      rw [← hts] at hls
      obtain ⟨s, hs⟩ : ∃ s, lackB ((nibB m).take i) = s := ⟨_, rfl⟩
      rw [hs] at hls hle ⊢
      have c0 : wr.cell? ⟨w.heap.size, i / 2, none⟩ = some (.int .u8 (x.toNat : Int)) := by
        rw [cell_of_row wr w.heap.size (i / 2) v0 23 (0, 0) ((HB.out.same _ (by have := HSV.out; omega) (by omega)).trans RA.out), ← Hv0.out]
        rw [List.getElem?_toArray]; exact bytesV_get hx
      have i0 : (0 : Int) ≤ i := by omega
      have i1 : (i : Int) < 64 := by omega
      have hb : bits .and .u8 ((x.toNat : Int) / 2 ^ (4 * (1 - i % 2))) 15 = (d : Int) := by
        rcases (by omega : i % 2 = 0 ∨ i % 2 = 1) with q | q
        · rw [q, if_pos rfl] at hd
          rw [q]
          have := and_u8 (x.toNat / 16) 15 (by omega) (by omega)
          rw [land15, Nat.mod_eq_of_lt (by omega)] at this
          have e : (x.toNat : Int) / 2 ^ (4 * (1 - 0)) = ((x.toNat / 16 : Nat) : Int) := by simp
          rw [e]
          exact this.trans (by rw [hd])
        · rw [q, if_neg (by omega)] at hd
          rw [q]
          have := and_u8 x.toNat 15 (by omega) (by omega)
          rw [land15, hd] at this
          simpa using this
      have cc := HR.out.cell (j := i) (x := (drow m i).getD i 0) (by rw [List.getD_eq_getElem?_getD, List.getElem?_eq_getElem (by rw [drow_length HM.out (by omega)]; omega)]; rfl)
      obtain ⟨old, hold⟩ : ∃ y, (drow m i).getD i 0 = y := ⟨_, rfl⟩
      rw [hold] at cc
      have cs := HR.out.frozen i
      have HD := Lib.hid (And.intro hn (And.intro hts hls))
      clear hold hn hts hls hd hs hx hxl
      have hs9 : s ≤ 960 := by omega
      clear hle
      have hw : wrap64 (d : Int) = d := IntWalk.wrap64_in _ (by omega)
      have hw2 : IntKind.i64.wrap (15 - (d : Int)) = 15 - d := IntWalk.i64_in _ (by omega)
      have hw3 : IntKind.i64.wrap ((s : Int) + (15 - (d : Int))) = s + (15 - d) := IntWalk.i64_in _ (by omega)
      go_upto_region 7 with fail
      obtain ⟨w1, hw1⟩ : ∃ y, wr.setCell ⟨w.heap.size + 1 + 1, i, none⟩ (.int .i64 (d : Int)) = y := ⟨_, rfl⟩
      have HR1 : Hid (IRow w1 (w.heap.size + 1 + 1) .i64 132 (drow m (i + 1))) := Lib.hid (by rw [← hw1]; exact (HR.out.set i d).congr (drow_set HM.out (by omega) d HD.out.1))
      have HB1 : Hid (But (· = w.heap.size + 1 + 1) wv w1) := Lib.hid (by rw [← hw1]; exact HB.out.setCell _ _ _ (fun _ => rfl))
      have c1 := HR1.out.cell (drow_at HM.out (by omega) d HD.out.1)
      rw [hw1]
      clear hw1 cc cs hb
      go_wp2_with fail
      go_roundw
      case rel => exact ⟨i + 1, by omega, by rw [HD.out.2.2]; congr 1; omega, by go_num, HR1, HB1⟩
      case measure => simp [intOf]; omega
    · obtain rfl : i = 64 := by omega
      rw [drow_trow HM.out] at HR
      have hle := lackB_le (nibB m)
      rw [nibB_length, HM.out] at hle
      have HLK : Hid (lackB ((nibB m).take 64) = lackB (nibB m)) := Lib.hid (by rw [List.take_of_length_le (by rw [nibB_length, HM.out]; omega)])
      rw [HLK.out]
      obtain ⟨s, hs⟩ : ∃ s, lackB (nibB m) = s := ⟨_, rfl⟩
      rw [hs] at hle ⊢
      have HS := Lib.hid hs
      have HR := Lib.hid HR.out
      have HB := Lib.hid HB.out
      obtain ⟨wo, rfl⟩ : ∃ x, x = wr := ⟨_, rfl⟩
      clear hs hlt hi HLK
      go_wp2_with fail
      go_loopw [30] (fun c wr => ∃ j : Nat, j ≤ 3 ∧ c = .int .i64 j ∧ Hid (IRow wr (w.heap.size + 1 + 1) .i64 132 (trow m j)) ∧ Hid (But (· = w.heap.size + 1 + 1) wv wr)) (fun c _ => 3 - (intOf c).toNat)
      case atStart => exact ⟨0, by omega, rfl, HR, HB⟩
      case round =>
        obtain ⟨j, hj, rfl, HR, HB⟩ := hrel
        by_cases hlt : j < 3
        · have j0 : (0 : Int) ≤ j := by omega
          have j1 : (j : Int) < 3 := by omega
          have hb : bits .and .i64 ((s : Int) / 2 ^ (4 * j)) 15 = ((if j = 0 then s % 16 else if j = 1 then s / 16 % 16 else s / 256 : Nat) : Int) := by
            have key : ∀ y : Nat, y < 1000 → bits .and .i64 (y : Int) 15 = ((y % 16 : Nat) : Int) := fun y hy => by
              have := and_i64 y 15 (by omega) (by omega)
              rw [land15] at this
              exact this
            obtain rfl | rfl | rfl : j = 0 ∨ j = 1 ∨ j = 2 := by omega
            · simpa using key s (by omega)
            · have := key (s / 16) (by omega); simpa using this
            · have := key (s / 256) (by omega); rw [Nat.mod_eq_of_lt (by omega)] at this; simpa using this
          obtain ⟨d, hd⟩ : ∃ d, (if j = 0 then s % 16 else if j = 1 then s / 16 % 16 else s / 256) = d := ⟨_, rfl⟩
          rw [hd] at hb
          have cc := HR.out.cell (j := 66 - j) (x := (trow m j).getD (66 - j) 0) (by rw [List.getD_eq_getElem?_getD, List.getElem?_eq_getElem (by rw [trow_length HM.out]; omega)]; rfl)
          obtain ⟨old, hold⟩ : ∃ y, (trow m j).getD (66 - j) 0 = y := ⟨_, rfl⟩
          rw [hold] at cc
          have cs := HR.out.frozen (66 - j)
          have HD : Hid (d = if j = 0 then lackB (nibB m) % 16 else if j = 1 then lackB (nibB m) / 16 % 16 else lackB (nibB m) / 256) := Lib.hid (by rw [HS.out]; exact hd.symm)
          have k0 : (66 : Int) - j = ((66 - j : Nat) : Int) := by omega
          have k1 : ((66 - j : Nat) : Int) < 67 := by omega
          clear hold hd hle
          go_upto_region 13 with fail
          obtain ⟨w1, hw1⟩ : ∃ y, wr.setCell ⟨w.heap.size + 1 + 1, 66 - j, none⟩ (.int .i64 (d : Int)) = y := ⟨_, rfl⟩
          have HR1 : Hid (IRow w1 (w.heap.size + 1 + 1) .i64 132 (trow m (j + 1))) := Lib.hid (by rw [← hw1]; exact (HR.out.set (66 - j) d).congr (trow_set HM.out (by omega) d HD.out))
          have HB1 : Hid (But (· = w.heap.size + 1 + 1) wv w1) := Lib.hid (by rw [← hw1]; exact HB.out.setCell _ _ _ (fun _ => rfl))
          rw [hw1]
          clear hw1 cc cs hb
          go_wp2_with fail
          go_roundw
          case rel => exact ⟨j + 1, by omega, by go_num, HR1, HB1⟩
          case measure => simp [intOf]; omega
        · obtain rfl : j = 3 := by omega
          have HQ := Lib.hid (HR.out.congr (trow_digB m))
          have RQ : Hid (wr.heap[w.heap.size + 1 + 1]? = some (.cells dv 132 (0, 0))) := Lib.hid (by rw [← HDV.out]; exact HQ.out)
          have RB' : Hid (wr.heap[w.heap.size + 1]? = some (.cells Tryz.zeroCells132 132 (0, 0))) := Lib.hid ((HB.out.same _ (by have := HSV.out; omega) (by omega)).trans RB.out)
          clear hlt hj hle
          go_wp2_with (first
            | (refine wpList_load_row rfl 132 _ rfl (w.heap.size + 1 + 1) rfl 132 dv (0, 0) _ RQ.out Tryz.underlying132 rfl Idv.out ?_)
            | (refine wpList_store_row_any rfl 132 _ _ rfl (w.heap.size + 1) dv rfl rfl 132 _ RB'.out Idv.out (by rw [Zdv.out, zero67]; rfl) Odv.out ?_; intro w4 hbN hgN hsN; have B4 := Lib.hid hbN; have R4 := Lib.hid hgN; clear hbN hgN hsN))
          refine bodyPost_ret (v := .agg dv) (results_cell_row rfl _ _ (w.heap.size + 1) 132 dv (0, 0) _ rfl R4.out Tryz.underlying132 rfl Idv.out) rfl ⟨rfl, HBv.out.trans ?_⟩
          exact (HB.out.to_below HBv.out.size (fun k hk q => by omega)).trans (B4.out.to_below (by have := HB.out.size; have := HBv.out.size; omega) (fun k hk q => by omega))

theorem flat_snoc {L : List (List UInt8)} {i : Nat} {h : List UInt8} (hi : L[i]? = some h) : (L.take (i + 1)).flatten = (L.take i).flatten ++ h := by rw [List.take_add_one, hi]; simp
theorem flat_len {L : List (List UInt8)} (h32 : H32 L) : ∀ i, ((L.take i).flatten).length ≤ 32 * i
  | 0 => by simp
  | i + 1 => by
    have ih := flat_len h32 i
    rcases h : L[i]? with _ | x
    · rw [List.take_add_one, h]; simp at ih ⊢; omega
    · rw [flat_snoc h, List.length_append, h32.at h]; omega
/-- a digest takes new bytes -/
theorem write_new (base D hb gb o cap n : Nat) (xs ys : List UInt8) (w0 w : World) (hD : ∃ q done rest rv, DigAt base D hb w0 xs q done rest rv) (hb' : Below w0.heap.size w0 w) (hg : w0.heap.size ≤ gb) (hy : w.rangeAt gb o (bytesV ys)) (hn : ys.length = n) (hyc : n ≤ cap) (hcap : cap ≤ 9223372036854775807)
    (hbase : base ≤ w0.heap.size) (htot : xs.length + n ≤ 281474976710656) (hK : KTab 17 w) (hKb : 17 < base) :
    Calls Tryz.prog 186 #[.pointer (some ⟨D, 0, none⟩), .slice (some ⟨gb, o, none⟩) n cap] w fun ev w' => ev = .returned (.tuple #[]) ∧ (∃ q done rest rv, DigAt base D hb w' (xs ++ ys) q done rest rv) ∧ Below base w w' := by
  subst hn
  obtain ⟨q, done, rest, rv, h⟩ := hD
  have hl := h.dg.lt
  exact write_any base D hb gb o cap q xs ys done rest rv w ⟨h.all, h.len, h.short, h.dg.below hb' hl.1 hl.2, own_below h.own hb' (Nat.le_refl _), h.far, h.baseD, h.baseH⟩ hy hyc hcap (by omega) (by omega) (fun q => by have := (h.own.lt gb q).2; omega) (by have := hb'.size; omega) (by omega) hK hKb
set_option maxRecDepth 100000 in
set_option maxHeartbeats 8000000 in
theorem end_any (A : Option Addr) (m c : Nat) (L : List (List UInt8)) (w : World) (hL : HIn w A m c L) (hm : m ≤ 1000000000) (hK : KTab 17 w) :
    Calls Tryz.prog 122 #[.slice A m c] w fun ev w' => ev = .returned (hv (endB L)) ∧ Below w.heap.size w w' := by
  have HK := Lib.hid hK
  have HKl := Lib.hid hK.lt
  have HL := Lib.hid hL
  obtain ⟨vr, evr, Hvr, Zvr, Ivr, Ovr⟩ := row_of (endB L) (endB_length L)
  obtain ⟨wv, hwv⟩ : ∃ y9 : World, (w.alloc (.cells #[.int .u8 0, .int .u8 0, .int .u8 0, .int .u8 0, .int .u8 0, .int .u8 0, .int .u8 0, .int .u8 0, .int .u8 0, .int .u8 0, .int .u8 0, .int .u8 0, .int .u8 0, .int .u8 0, .int .u8 0, .int .u8 0, .int .u8 0, .int .u8 0, .int .u8 0, .int .u8 0, .int .u8 0, .int .u8 0, .int .u8 0, .int .u8 0, .int .u8 0, .int .u8 0, .int .u8 0, .int .u8 0, .int .u8 0, .int .u8 0, .int .u8 0, .int .u8 0] 23)) = y9 := ⟨_, rfl⟩
  have HBv : Hid (Below w.heap.size w wv) := Lib.hid (by rw [← hwv]; exact ((Below.refl _ _).alloc (by simp <;> omega) _))
  have HSV : Hid (wv.heap.size = w.heap.size + 1) := Lib.hid (by rw [← hwv]; simp)
  have RB : Hid (wv.heap[w.heap.size]? = some (.cells #[.int .u8 0, .int .u8 0, .int .u8 0, .int .u8 0, .int .u8 0, .int .u8 0, .int .u8 0, .int .u8 0, .int .u8 0, .int .u8 0, .int .u8 0, .int .u8 0, .int .u8 0, .int .u8 0, .int .u8 0, .int .u8 0, .int .u8 0, .int .u8 0, .int .u8 0, .int .u8 0, .int .u8 0, .int .u8 0, .int .u8 0, .int .u8 0, .int .u8 0, .int .u8 0, .int .u8 0, .int .u8 0, .int .u8 0, .int .u8 0, .int .u8 0, .int .u8 0] 23 (0, 0))) := Lib.hid (by rw [← hwv]; exact heap_at _ _ _ (by simp <;> omega))
  have HWV := Lib.hid hwv
  have hK1 := Lib.hid (ktab_below hK HBv.out hK.lt)
  rw [evr]
  have EVR := Lib.hid evr
  clear hK hL evr hwv
  go_enter Tryz.func122, Tryz.ntmps122
  go_upto_region 1 with fail
  rw [HWV.out]
  go_wp2_with fail
  refine (new_any wv).mono ?_
  rintro ev w1 ⟨D, hb, rfl, hD1, hB1⟩
  have HD1 := Lib.hid (show ∃ q done rest rv, DigAt wv.heap.size D hb w1 [] q done rest rv from ⟨_, _, _, _, hD1⟩)
  have HB1 := Lib.hid (HBv.out.trans (hB1.mono HBv.out.size))
  have hs1 := hB1.size
  have HR1 := Lib.hid ((hB1.block _ (by have := HSV.out; omega)).trans RB.out)
  have HKW := Lib.hid (fun (w' : World) (h : Below w.heap.size w w') => ktab_below HK.out h HKl.out)
  have HKV := Lib.hid (show 17 < wv.heap.size by have := HKl.out; have := HSV.out; omega)
  obtain ⟨wx, hwx⟩ : ∃ x, w1.alloc (.cells #[.int .u8 4] 5) = x := ⟨_, rfl⟩
  have HX : Hid (Below w1.heap.size w1 wx) := Lib.hid (by rw [← hwx]; exact (Below.refl _ _).alloc (Nat.le_refl _) _)
  have RX : Hid (wx.heap[w1.heap.size]? = some (.cells #[.int .u8 4] 5 (0, 0))) := Lib.hid (by rw [← hwx]; exact heap_at _ _ _ rfl)
  have HWR := Lib.hid (write_new wv.heap.size D hb w1.heap.size 0 1 1 [] [4] w1 wx HD1.out HX.out (Nat.le_refl _) (range_row [4] RX.out rfl) rfl (Nat.le_refl _) (by omega) hs1 (by simp) (HKW.out wx (HB1.out.trans (HX.out.mono HB1.out.size))) HKV.out)
  have HWX := Lib.hid hwx
  clear hD1 hB1 hwx
  go_wp2_with fail
  rw [HWX.out]
  refine HWR.out.mono ?_
  rintro ev w2 ⟨rfl, hD2, hB2⟩
  have HD2 := Lib.hid hD2
  have hs2 : wv.heap.size ≤ w2.heap.size := by have := hB2.size; have := HX.out.size; omega
  have HB2 := Lib.hid (HB1.out.trans ((HX.out.mono HB1.out.size).trans (hB2.mono HBv.out.size)))
  have HR2 := Lib.hid ((hB2.block _ (by have := HSV.out; omega)).trans ((HX.out.block _ (by have := HSV.out; omega)).trans HR1.out))
  clear hD2 hB2 hs1
  go_wp2_with fail
  go_loopw [12] (fun k wr => ∃ i : Nat, i ≤ m ∧ k = .int .i64 i ∧ Hid (∃ q done rest rv, DigAt wv.heap.size D hb wr (4 :: (L.take i).flatten) q done rest rv) ∧ Hid (Below w.heap.size w wr) ∧ Hid (wr.heap[w.heap.size]? = some (.cells #[.int .u8 0, .int .u8 0, .int .u8 0, .int .u8 0, .int .u8 0, .int .u8 0, .int .u8 0, .int .u8 0, .int .u8 0, .int .u8 0, .int .u8 0, .int .u8 0, .int .u8 0, .int .u8 0, .int .u8 0, .int .u8 0, .int .u8 0, .int .u8 0, .int .u8 0, .int .u8 0, .int .u8 0, .int .u8 0, .int .u8 0, .int .u8 0, .int .u8 0, .int .u8 0, .int .u8 0, .int .u8 0, .int .u8 0, .int .u8 0, .int .u8 0, .int .u8 0] 23 (0, 0))) ∧ wv.heap.size ≤ wr.heap.size) (fun k _ => m - (intOf k).toNat)
  case atStart => exact ⟨0, Nat.zero_le _, rfl, HD2, HB2, HR2, hs2⟩
  case round =>
    obtain ⟨i, hi, rfl, HD, HB, HR, hsr⟩ := hrel
    by_cases hlt : i < m
    · obtain ⟨p, hp⟩ : ∃ p, L[i]? = some p := ⟨_, List.getElem?_eq_getElem (by have := HL.out.2.1; omega)⟩
      obtain ⟨g, o, rfl, gl, rp, pl⟩ := HL.out.row hp
      obtain ⟨vp, evp, Hvp, Zvp, Ivp, Ovp⟩ := row_of p pl
      obtain ⟨lvp, hlvp⟩ : ∃ q, bytesV p = q := ⟨_, rfl⟩
      have Elvp : Hid (lvp.toArray = vp) := Lib.hid (by rw [← hlvp]; exact Hvp.out)
      have Ilvp : Hid ((Tryz.prog.info? 23).map (·.size) = some lvp.length) := Lib.hid (by rw [← hlvp, bytesV_length, pl]; kernel_rfl)
      have HRP : Hid (wr.rangeAt g (o + i * 32) lvp) := Lib.hid (by rw [← hlvp]; exact rangeAt_below HB.out rp gl)
      have i0 : (0 : Int) ≤ i := by omega
      have i1 : (i : Int) < m := by omega
      have HF := Lib.hid (flat_snoc hp)
      have HFL := Lib.hid (flat_len HL.out.1 i)
      have HPL := Lib.hid pl
      clear evp hlvp rp gl hp pl
      go_upto_region 6 with (first
        | (refine wpList_load_mid rfl 23 _ rfl g (o + i * 32) rfl lvp _ HRP.out Tryz.underlying23 rfl Ilvp.out ?_; rw [Elvp.out])
        | (refine wpList_store_row_any rfl 23 _ _ rfl wr.heap.size vp rfl rfl 23 _ (heap_at _ _ _ rfl) Ivp.out (by rw [Zvp.out]; rfl) Ovp.out ?_; intro w3 hbN hgN hsN; have B3 : Hid (Below wr.heap.size wr w3) := Lib.hid (((Below.refl _ wr).alloc (Nat.le_refl _) _).trans (hbN.to_below (by simp) (fun k hk q => by omega))); have R5 := Lib.hid hgN; clear hbN hgN hsN))
      have HWR3 := Lib.hid (write_new wv.heap.size D hb wr.heap.size 0 32 32 _ p wr w3 HD.out B3.out (Nat.le_refl _) (range_row p R5.out Hvp.out) HPL.out (Nat.le_refl _) (by omega) hsr (by have := HFL.out; simp only [List.length_cons]; omega) (HKW.out w3 (HB.out.trans (B3.out.mono HB.out.size))) HKV.out)
      go_wp2_with fail
      refine HWR3.out.mono ?_
      rintro ev w4 ⟨rfl, hD4, hB4⟩
      have HD4 := Lib.hid hD4
      have HB4 := Lib.hid (HB.out.trans ((B3.out.mono HB.out.size).trans (hB4.mono HBv.out.size)))
      have HR4 := Lib.hid ((hB4.block _ (by have := HSV.out; omega)).trans ((B3.out.block _ (by have := HSV.out; omega)).trans HR.out))
      have hs4 : wv.heap.size ≤ w4.heap.size := by have := hB4.size; have := B3.out.size; omega
      clear hD4 hB4
      go_wp2_with fail
      go_roundw
      case rel => exact ⟨i + 1, by omega, by go_num, by rw [HF.out, ← List.cons_append]; exact HD4, HB4, HR4, hs4⟩
      case measure => simp [intOf]; omega
    · obtain rfl : m = i := by omega
      have HT4 : Hid (4 :: (L.take m).flatten = 4 :: L.flatten) := Lib.hid (by rw [List.take_of_length_le (by have := HL.out.2.1; omega)])
      have HFL := Lib.hid (flat_len HL.out.1 m)
      obtain ⟨q, done, rest, rv, hD⟩ := HD.out
      rw [HT4.out] at hD
      have DS := Lib.hid (digsum_any wv.heap.size D hb q (4 :: L.flatten) done rest rv wr hD hsr (by have h1 := congrArg List.length HT4.out; have := HFL.out; simp only [List.length_cons] at h1 ⊢; omega) (HKW.out wr HB.out) HKV.out)
      have HEB : Hid (hv (shaB (4 :: L.flatten)) = .agg vr) := Lib.hid EVR.out
      clear hD
      go_wp2_with fail
      refine DS.out.mono ?_
      rintro ev w3 ⟨rfl, hB3⟩
      rw [HEB.out]
      have HG := Lib.hid ((hB3.block _ (by have := HSV.out; omega)).trans HR.out)
      have HF := Lib.hid (HB.out.trans (hB3.mono HB.out.size))
      clear hB3
      go_wp2_with (refine wpList_store_row rfl 23 _ _ rfl w.heap.size vr rfl rfl 23 _ HG.out Ivr.out (by rw [Zvr.out]; rfl) Ovr.out ?_)
      refine bodyPost_ret (v := .agg vr) (results_cell_row rfl _ _ w.heap.size 23 vr (0, 0) _ rfl (setRow_heap _ _ _ _ _ _ HG.out) Tryz.underlying23 rfl Ivr.out) rfl ⟨rfl, below_setRow HF.out _ _ (Nat.le_refl _)⟩

end Go.Proofs.YtnpblpbcchminaaGreatDoor
