import Derived.Test.YtnpblpbcchminaaDoorSameHashes
import Derived.Test.YtnpblpbcchminaaDoorMem
import Derived.Test.YtnpblpbcchminaaDoorKeysEncAny
import Derived.Test.YtnpblpbcchminaaDoorKeysBytes
import Derived.Test.YtnpblpbcchminaaDoorKeysEvalC
import Derived.Test.YtnpblpbcchminaaDoorKeysEvalA
/- keys.New of a height that may not be; Sign, Public, Left of a key that is not there; what bytes are no signature. Condition: the table reads as listed. -/
namespace Go.Proofs.YtnpblpbcchminaaDoor
open Go.ChangeShapes Go.WideShapes Go.ChangeAt Go.RowKit
set_option linter.unusedVariables false

set_option maxRecDepth 100000 in
set_option maxHeartbeats 8000000 in
theorem new_neg (a : Nat → Addr) (B : Nat) (s : List UInt8) (w : World) (hE : Env B a w) (hs : s.length = 32) :
    Calls Tryd.prog 7 #[hv s, .int .i64 (-1)] w fun ev w' => ev = .returned (.tuple #[.pointer none, errV a 2]) ∧ Below w.heap.size w w' := by
  obtain ⟨v0, ev0, Hv0, Zv0, Iv0, Ov0⟩ := row_of s hs
  obtain ⟨wv, hwv⟩ : ∃ y9 : World, (w.alloc (.cells v0 23)) = y9 := ⟨_, rfl⟩
  have HBv : Hid (Below w.heap.size w wv) := Lib.hid (by rw [← hwv]; exact ((Below.refl _ _).alloc (by simp <;> omega) _))
  have HSV : Hid (wv.heap.size = w.heap.size + 1) := Lib.hid (by rw [← hwv]; simp)
  have RA : Hid (wv.heap[w.heap.size]? = some (.cells v0 23 (0, 0))) := Lib.hid (by rw [← hwv]; exact heap_at _ _ _ (by simp <;> omega))
  have HWV := Lib.hid hwv
  have KEI : Hid (∀ w', But (fun _ => False) wv w' → w'.cell? ⟨0, 0, none⟩ = some (errV a 2)) := Lib.hid (fun w' hw => hw.cell ((hE.step HBv.out).laid.e2) (fun e => e))
  unfold errV at KEI
  rw [ev0]
  clear hE hs ev0 hwv
  go_enter Tryd.func7, Tryd.ntmps7
  go_upto_region 1 with fail
  rw [HWV.out]
  go_upto_region 2 with fail
  refine wp_region_held_drew (S := But (fun _ => False) wv) (by kernel_rfl) (But.refl _ _).drew (fun hHeld => ?_)
  refine tk (i := 0) (v := ?v1) rfl ?y1 ?r1
  case y1 => (intro w hSw; (try dsimp only at hSw); have q9 := KEI.out w hSw; go_simp; (try with_reducible rfl))
  try simp only [pu]
  refine tk (i := 1) (v := ?v2) rfl ?y2 ?r2
  case y2 => (intro w hSw; (try dsimp only at hSw); go_simp; (try with_reducible rfl))
  try simp only [pu]
  refine tk (i := 2) (v := ?v3) rfl ?y3 ?r3
  case y3 => (intro w hSw; (try dsimp only at hSw); go_simp; (try with_reducible rfl))
  try simp only [pu]
  refine wpAnyH_done (by kernel_rfl) ?_ _
  have KE := Lib.hid ((But.refl (fun _ => False) wv).drew)
  go_wp2
  refine bodyPost_ret (v := .tuple #[.pointer none, errV a 2]) (by simp [results, Tryd.results7, go_sem, errV]) rfl ⟨rfl, HBv.out.trans ((But.to_below KE.out (Nat.le_refl _) (fun _ _ q => q)).mono HBv.out.size)⟩

set_option maxRecDepth 100000 in
set_option maxHeartbeats 8000000 in
theorem new_big (a : Nat → Addr) (B : Nat) (s : List UInt8) (w : World) (hE : Env B a w) (hs : s.length = 32) :
    Calls Tryd.prog 7 #[hv s, .int .i64 7] w fun ev w' => ev = .returned (.tuple #[.pointer none, errV a 2]) ∧ Below w.heap.size w w' := by
  obtain ⟨v0, ev0, Hv0, Zv0, Iv0, Ov0⟩ := row_of s hs
  obtain ⟨wv, hwv⟩ : ∃ y9 : World, (w.alloc (.cells v0 23)) = y9 := ⟨_, rfl⟩
  have HBv : Hid (Below w.heap.size w wv) := Lib.hid (by rw [← hwv]; exact ((Below.refl _ _).alloc (by simp <;> omega) _))
  have HSV : Hid (wv.heap.size = w.heap.size + 1) := Lib.hid (by rw [← hwv]; simp)
  have RA : Hid (wv.heap[w.heap.size]? = some (.cells v0 23 (0, 0))) := Lib.hid (by rw [← hwv]; exact heap_at _ _ _ (by simp <;> omega))
  have HWV := Lib.hid hwv
  have KEI : Hid (∀ w', But (fun _ => False) wv w' → w'.cell? ⟨0, 0, none⟩ = some (errV a 2)) := Lib.hid (fun w' hw => hw.cell ((hE.step HBv.out).laid.e2) (fun e => e))
  unfold errV at KEI
  rw [ev0]
  clear hE hs ev0 hwv
  go_enter Tryd.func7, Tryd.ntmps7
  go_upto_region 1 with fail
  rw [HWV.out]
  go_upto_region 2 with fail
  refine wp_region_held_drew (S := But (fun _ => False) wv) (by kernel_rfl) (But.refl _ _).drew (fun hHeld => ?_)
  refine tk (i := 0) (v := ?v4) rfl ?y4 ?r4
  case y4 => (intro w hSw; (try dsimp only at hSw); have q9 := KEI.out w hSw; go_simp; (try with_reducible rfl))
  try simp only [pu]
  refine tk (i := 1) (v := ?v5) rfl ?y5 ?r5
  case y5 => (intro w hSw; (try dsimp only at hSw); go_simp; (try with_reducible rfl))
  try simp only [pu]
  refine tk (i := 2) (v := ?v6) rfl ?y6 ?r6
  case y6 => (intro w hSw; (try dsimp only at hSw); go_simp; (try with_reducible rfl))
  try simp only [pu]
  refine wpAnyH_done (by kernel_rfl) ?_ _
  have KE := Lib.hid ((But.refl (fun _ => False) wv).drew)
  go_wp2
  refine bodyPost_ret (v := .tuple #[.pointer none, errV a 2]) (by simp [results, Tryd.results7, go_sem, errV]) rfl ⟨rfl, HBv.out.trans ((But.to_below KE.out (Nat.le_refl _) (fun _ _ q => q)).mono HBv.out.size)⟩

set_option maxRecDepth 100000 in
set_option maxHeartbeats 8000000 in
theorem sign_nil (a : Nat → Addr) (B : Nat) (t : ByteArray) (w : World) (hE : Env B a w) :
    Calls Tryd.prog 9 #[.pointer none, .string t] w fun ev w' => ev = .returned (.tuple #[.agg #[.int .i64 0, .slice none 0 0, .slice none 0 0], errV a 1]) ∧ Below w.heap.size w w' := by
  obtain ⟨wv, hwv⟩ : ∃ y9 : World, (w.alloc (.cells #[.int .i64 0, .slice none 0 0, .slice none 0 0] 35)) = y9 := ⟨_, rfl⟩
  have HBv : Hid (Below w.heap.size w wv) := Lib.hid (by rw [← hwv]; exact ((Below.refl _ _).alloc (by simp <;> omega) _))
  have HSV : Hid (wv.heap.size = w.heap.size + 1) := Lib.hid (by rw [← hwv]; simp)
  have RZ : Hid (wv.heap[w.heap.size]? = some (.cells #[.int .i64 0, .slice none 0 0, .slice none 0 0] 35 (0, 0))) := Lib.hid (by rw [← hwv]; exact heap_at _ _ _ (by simp <;> omega))
  have HWV := Lib.hid hwv
  have hsv := HSV.out
  obtain ⟨sv, hsv9⟩ : ∃ y : Array Value, #[.int .i64 0, .slice none 0 0, .slice none 0 0] = y := ⟨_, rfl⟩
  have Zsv : Hid (sv.size = 3) := Lib.hid (by rw [← hsv9]; rfl)
  have Isv : Hid ((Tryd.prog.info? 35).map (·.size) = some sv.size) := Lib.hid (by rw [Zsv.out]; kernel_rfl)
  have Osv : Hid (sv.all (·.oneCell') = true) := Lib.hid (by rw [← hsv9]; simp [Value.oneCell'])
  have HSV9 := Lib.hid hsv9.symm
  have hg : 1 < w.heap.size := block_of_cell hE.laid.e1
  have KE : Hid (∀ w', But (· = w.heap.size) wv w' → w'.cell? ⟨1, 0, none⟩ = some (errV a 1)) := Lib.hid (fun w' hw => hw.cell ((hE.step HBv.out).laid.e1) (fun e => by omega))
  unfold errV at KE
  clear hE hsv9 hwv
  go_enter Tryd.func9, Tryd.ntmps9
  go_upto_region 1 with fail
  rw [HWV.out]
  go_upto_region 2 with fail
  refine wp_region_held_drew (S := But (· = w.heap.size) wv) (by kernel_rfl) (But.refl _ _).drew (fun hHeld => ?_)
  refine tw (i := 0) rfl (show YieldsIf _ _ _ _ (.agg sv) _ from .inl ⟨by rfl, fun w h => by rw [HSV9.out]; kernel_rfl⟩) ?_
  try simp only [pu]
  refine tk (i := 1) (v := ?v8) rfl ?y8 ?r8
  case y8 => (intro w hSw; (try dsimp only at hSw); have q9 := KE.out w hSw; go_simp; (try with_reducible rfl))
  try simp only [pu]
  refine wpAnyH_ready (rs := [2]) (by kernel_rfl) (by simp) ?_
  refine AllReadyH.cons (i := 2) rfl (fun K2 hK2 => ?_) AllReadyH.nil
  rw [if_pos (by rfl)]
  refine wp_store_row 35 _ _ rfl w.heap.size sv rfl rfl 35 _ (show wv.drew.heap[w.heap.size]? = _ from RZ.out) Isv.out (by rw [Zsv.out]; rfl) Osv.out ?_
  obtain ⟨w701, hw701⟩ : ∃ x, wv.drew.setRow w.heap.size sv = x := ⟨_, rfl⟩
  obtain ⟨Kw701, Tw701_0, fw701⟩ := st_row ((But.refl (· = w.heap.size) wv).drew) hw701 (fun _ => rfl) (show wv.drew.heap[w.heap.size]? = _ from RZ.out)
  have Kw701 := Lib.hid Kw701
  have Tw701_0 := Lib.hid Tw701_0
  clear fw701
  rw [hw701]
  clear hw701
  refine hK2.out _ _ Kw701.out (fun hHeld2 => ?_)
  clear hK2 K2
  try simp only [pu]
  refine tk (i := 3) (v := ?v9) rfl ?y9 ?r9
  case y9 => (intro w hSw; (try dsimp only at hSw); go_simp; (try with_reducible rfl))
  try simp only [pu]
  refine wpAnyH_done (by kernel_rfl) ?_ _
  go_wp2
  refine bodyPost_ret (v := .tuple #[.agg sv, errV a 1]) (results_row_tmp rfl _ _ w.heap.size 35 sv (0, 0) _ rfl Tw701_0.out Tryd.underlying35 rfl Isv.out _ rfl) rfl ⟨by rw [← HSV9.out], But.to_below Kw701.out HBv.out.size (fun k hk q => by omega) |> (HBv.out.trans ·)⟩

set_option maxRecDepth 100000 in
set_option maxHeartbeats 8000000 in
theorem pub_nil (w : World) : Calls Tryd.prog 8 #[.pointer none] w fun ev w' => ev = .returned (hv zeroH) ∧ Below w.heap.size w w' := by
  obtain ⟨wv, hwv⟩ : ∃ y9 : World, (w.alloc (.cells #[.int .u8 0, .int .u8 0, .int .u8 0, .int .u8 0, .int .u8 0, .int .u8 0, .int .u8 0, .int .u8 0, .int .u8 0, .int .u8 0, .int .u8 0, .int .u8 0, .int .u8 0, .int .u8 0, .int .u8 0, .int .u8 0, .int .u8 0, .int .u8 0, .int .u8 0, .int .u8 0, .int .u8 0, .int .u8 0, .int .u8 0, .int .u8 0, .int .u8 0, .int .u8 0, .int .u8 0, .int .u8 0, .int .u8 0, .int .u8 0, .int .u8 0, .int .u8 0] 23)) = y9 := ⟨_, rfl⟩
  have HBv : Hid (Below w.heap.size w wv) := Lib.hid (by rw [← hwv]; exact ((Below.refl _ _).alloc (by simp <;> omega) _))
  have HSV : Hid (wv.heap.size = w.heap.size + 1) := Lib.hid (by rw [← hwv]; simp)
  have RB : Hid (wv.heap[w.heap.size]? = some (.cells #[.int .u8 0, .int .u8 0, .int .u8 0, .int .u8 0, .int .u8 0, .int .u8 0, .int .u8 0, .int .u8 0, .int .u8 0, .int .u8 0, .int .u8 0, .int .u8 0, .int .u8 0, .int .u8 0, .int .u8 0, .int .u8 0, .int .u8 0, .int .u8 0, .int .u8 0, .int .u8 0, .int .u8 0, .int .u8 0, .int .u8 0, .int .u8 0, .int .u8 0, .int .u8 0, .int .u8 0, .int .u8 0, .int .u8 0, .int .u8 0, .int .u8 0, .int .u8 0] 23 (0, 0))) := Lib.hid (by rw [← hwv]; exact heap_at _ _ _ (by simp <;> omega))
  have HWV := Lib.hid hwv
  obtain ⟨vz, evz, Hvz, Zvz, Ivz, Ovz⟩ := row_of zeroH zeroH_length
  have hvz : vz = #[.int .u8 0, .int .u8 0, .int .u8 0, .int .u8 0, .int .u8 0, .int .u8 0, .int .u8 0, .int .u8 0, .int .u8 0, .int .u8 0, .int .u8 0, .int .u8 0, .int .u8 0, .int .u8 0, .int .u8 0, .int .u8 0, .int .u8 0, .int .u8 0, .int .u8 0, .int .u8 0, .int .u8 0, .int .u8 0, .int .u8 0, .int .u8 0, .int .u8 0, .int .u8 0, .int .u8 0, .int .u8 0, .int .u8 0, .int .u8 0, .int .u8 0, .int .u8 0] := by rw [zeroH_v] at evz; cases evz; rfl
  rw [evz]
  clear hwv evz
  go_enter Tryd.func8, Tryd.ntmps8
  go_upto_region 1 with fail
  rw [HWV.out]
  go_wp2_with (refine wpList_store_row_any rfl 23 _ _ rfl w.heap.size vz rfl (by rw [hvz]; rfl) 23 _ RB.out Ivz.out (by rw [Zvz.out]; rfl) Ovz.out ?_; intro w6 hbN hgN hsN; have B6 := Lib.hid hbN; have R6 := Lib.hid hgN; clear hbN hgN hsN)
  refine bodyPost_ret (v := .agg vz) (results_cell_row rfl _ _ w.heap.size 23 vz (0, 0) _ rfl R6.out Tryd.underlying23 rfl Ivz.out) rfl ⟨rfl, HBv.out.trans (B6.out.to_below HBv.out.size (fun k hk q => by omega))⟩
set_option maxRecDepth 100000 in
set_option maxHeartbeats 8000000 in
theorem left_nil (w : World) : Calls Tryd.prog 12 #[.pointer none] w fun ev w' => ev = .returned (.int .i64 0) ∧ Below w.heap.size w w' := by
  go_enter Tryd.func12, Tryd.ntmps12
  go_wp2
  go_ret
  exact ⟨rfl, Below.refl _ _⟩

theorem dec_nil : ¬ (decS ⟨#[]⟩).ok ⟨#[]⟩ := fun h => by
  have e := enc_dec h
  have hl := congrArg List.length e
  simp [encB, bOf] at hl
/-- one byte more is none -/
theorem dec_more {S : ByteArray} {x n : Nat} {C P : List (List UInt8)} (b : UInt8) (hx : x < 64) (hn : n ≤ 6) (hC : H32 C) (hc : C.length = 67) (hP : H32 P) (hp : P.length = n) (hS : bOf S = encB x C n P ++ [b]) : ¬ (decS S).ok S := fun h => by
  have e := enc_dec h
  have l1 := flat_eq hC
  have l2 := flat_eq hP
  have hc2 : (List.range 67).map (hsS S (decS S).o1) = (List.range 67).map (hsS S (decS S).o1) := rfl
  have m1 := flat_eq (L := (List.range 67).map (hsS S (decS S).o1)) (fun z hz => by
    obtain ⟨k, -, rfl⟩ := List.mem_map.1 hz
    exact hsS_length _ _ _)
  have m2 := flat_eq (L := (List.range (decS S).n).map (hsS S (decS S).o3)) (fun z hz => by
    obtain ⟨k, -, rfl⟩ := List.mem_map.1 hz
    exact hsS_length _ _ _)
  have hl := congrArg List.length (hS.symm.trans e)
  rw [hc] at l1
  rw [hp] at l2
  simp only [List.length_map, List.length_range] at m1 m2
  simp only [encB, List.length_append, List.length_cons, List.length_nil, l1, l2, m1, m2] at hl
  omega
/-- a number of 64 is none -/
theorem dec_64 {S : ByteArray} {r : List UInt8} (hS : bOf S = 64 :: r) : ¬ (decS S).ok S := fun h => by
  have hx := h.2.2
  have e := enc_dec h
  rw [hS] at e
  have h0 : (64 : UInt8) = UInt8.ofNat (decS S).i := by
    have := congrArg (fun l => l[0]?) e
    simpa [encB] using this
  have h1 := congrArg UInt8.toNat h0
  rw [ofNat_small (by omega)] at h1
  have : (64 : UInt8).toNat = 64 := rfl
  omega

end Go.Proofs.YtnpblpbcchminaaDoor

/- The values behind KeysNames, joined. Condition: the table reads as listed. -/
namespace Go.Proofs.YtnpblpbcchminaaDoor
open Go.ChangeShapes Go.WideShapes Go.ChangeAt Go.RowKit
set_option maxRecDepth 1000000
set_option maxHeartbeats 4000000
set_option linter.unusedVariables false

theorem leaves_eq : leavesK zeroH 1 = [leaf0L, leaf1L] := by
  have e : leavesK zeroH 1 = [kleafB (pubB (ownB zeroH 0)), kleafB (pubB (ownB zeroH 1))] := rfl
  rw [e, show zeroH = List.replicate 32 0 from rfl, own0_eq, own1_eq, pub0_eq, pub1_eq, leaf0_eq, leaf1_eq]
theorem path_eq : pathK [leaf0L, leaf1L] 1 0 = [leaf1L] := by decide +kernel
def rootL : List UInt8 := [123, 221, 191, 147, 149, 163, 198, 7, 214, 188, 39, 52, 184, 67, 55, 100, 140, 179, 201, 142, 52, 143, 136, 12, 37, 7, 47, 120, 51, 180, 39, 73]
theorem root_eq : rootK [leaf0L, leaf1L] 1 = rootL := by
  have e : rootK [leaf0L, leaf1L] 1 = nodeH leaf0L leaf1L := rfl
  rw [e, nodeH_eq, shaF_eq]
  decide +kernel
theorem rootr_ne : nodeH (kleafB (recB (msgB 0 [98]) (sigB (ownB zeroH 0) (msgB 0 [97])))) leaf1L ≠ rootL := by
  rw [show zeroH = List.replicate 32 0 from rfl, own0_eq, msga_eq, msgb_eq, recL_eq, leafr_eq, nodeH_eq, shaF_eq]
  decide +kernel
theorem root_nz : rootL ≠ zeroH := by decide +kernel
theorem root_32 : rootL.length = 32 := by decide +kernel
theorem says_two (h q : List UInt8) : Says nodeH 0 (2 ^ 1 - 1) h [q] (nodeH h q) := by
  refine Says.step nodeH (fun f z => ?_) (show Says nodeH (0 / 2) ((2 ^ 1 - 1) / 2) (nodeH h q) [] (nodeH h q) from ⟨0, by simp, bot_one _ (by simp)⟩)
  rw [bot_even _ (by omega) (by omega) (by omega)]
  exact z
end Go.Proofs.YtnpblpbcchminaaDoor

