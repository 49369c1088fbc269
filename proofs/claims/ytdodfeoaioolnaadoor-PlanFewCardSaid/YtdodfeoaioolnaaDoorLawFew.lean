/- The law PlanFew: a path, and a proof, has few parts and needs few tiles. Condition: the package-level variables read as listed. -/
import Derived.Test.YtdodfeoaioolnaaDoorPlanAlive
import Derived.Test.YtdodfeoaioolnaaDoorFewAny
namespace Go.Proofs.YtdodfeoaioolnaaDoor
open Go.ChangeShapes Go.WideShapes Go.ChangeAt Go.RowKit
set_option linter.unusedVariables false
theorem few_list (l : List (Int × Int)) (size all : Nat) (v : Value) (w : World) (hP : PRd w v (l.map coverS)) (hh : ∀ s ∈ l, Half s.1 s.2) (hin : SpansIn l size) (hsa : size ≤ all) (hs : all ≤ 9223372036854775808) (h1 : 1 ≤ size) (hl : (l.length : Int) ≤ lgI size + 1) (ht : (treesN l : Int) ≤ 2 * (lgI size + 1)) :
    Calls Tryd.prog 15 #[v, .int .u64 (size : Int), .int .u64 (all : Int)] w fun ev w' => ev = .returned (.bool true) ∧ Below w.heap.size w w' := by
  have e : lgI (size : Int) = (lg size : Int) := by unfold lgI; rw [Int.toNat_natCast]
  rw [e] at hl ht
  refine few_any _ size all v w hP ?_ h1 (by omega) hs (by rw [List.length_map]; omega) (by rw [flat_len]; omega)
  intro p hp c hc
  obtain ⟨s, hs', rfl⟩ := List.mem_map.1 hp
  have := hin s hs'
  exact cover_in (hh s hs') (by omega) c hc
theorem few_path (ix : Int) (size all : Nat) (v : Value) (w : World) (h0 : 0 ≤ ix) (h1 : ix < size) (hP : PRd w v ((pathL 64 ix 0 size).map coverS)) (hsa : size ≤ all) (hs : all ≤ 9223372036854775808) :
    Calls Tryd.prog 15 #[v, .int .u64 (size : Int), .int .u64 (all : Int)] w fun ev w' => ev = .returned (.bool true) ∧ Below w.heap.size w w' := by
  have hr := Half.root (n := (size : Int)) (by omega) (by omega)
  have hp : (size : Int) - 0 ≤ pow2 64 := by rw [pow2_64]; omega
  have a1 := pathL_log 64 ix 0 size (by omega) hp
  have a2 := path_few 64 ix 0 size hr h0 h1 hp
  have hz : (0 : Int) ≤ lgI (size : Int) := by unfold lgI; omega
  rw [Int.sub_zero] at a1 a2
  exact few_list _ size all v w hP (fun s hs' => path_half 64 ix 0 size s hr h0 h1 hp hs') (path_spansIn ix size h0 h1 (by omega)) hsa hs (by omega) (by omega) (by omega)
theorem few_proof (ix : Int) (size all : Nat) (v : Value) (w : World) (h0 : 0 < ix) (h1 : ix ≤ size) (hP : PRd w v ((proofL 64 ix 0 size).map coverS)) (hsa : size ≤ all) (hs : all ≤ 9223372036854775808) :
    Calls Tryd.prog 15 #[v, .int .u64 (size : Int), .int .u64 (all : Int)] w fun ev w' => ev = .returned (.bool true) ∧ Below w.heap.size w w' := by
  have hr := Half.root (n := (size : Int)) (by omega) (by omega)
  have hp : (size : Int) - 0 ≤ pow2 64 := by rw [pow2_64]; omega
  have a1 := proofL_log 64 ix 0 size h0 h1 hp
  have a2 := proof_few 64 ix 0 size hr h0 h1 hp
  rw [Int.sub_zero] at a1 a2
  exact few_list _ size all v w hP (fun s hs' => proof_half 64 ix 0 size s hr h0 h1 hp hs') (proof_spansIn ix size h0 h1 (by omega)) hsa hs (by omega) (by omega) (by omega)
set_option maxRecDepth 100000 in
set_option maxHeartbeats 4000000 in
theorem few_out (a : Nat → Addr) (B : Nat) (ix old x y sz al : Int) (w : World) (hE : EnvP B a w) (q0 : 0 ≤ ix) (q1 : ix < 18446744073709551616) (q2 : 0 ≤ old) (q3 : old < 18446744073709551616) (q8 : 0 ≤ sz) (q9 : sz < 18446744073709551616) (r0 : 0 ≤ al) (r1 : al < 18446744073709551616) (hb : 9223372036854775808 < sz ∨ 9223372036854775808 < al ∨ al < sz) :
    Calls Tryd.prog 4 #[.agg #[.int .u64 ix, .int .u64 old, .int .u64 x, .int .u64 y, .int .u64 sz], .int .u64 al] w fun ev w' => ev = .returned (.bool true) ∧ Below w.heap.size w w' := by
  have HE := Lib.hid hE
  obtain ⟨wz, hwz⟩ : ∃ z, w.alloc (.cells #[.int .u64 ix, .int .u64 old, .int .u64 x, .int .u64 y, .int .u64 sz] 41) = z := ⟨_, rfl⟩
  have bz : Gr w wz := by rw [← hwz]; exact (Gr.refl _).alloc _
  have KZ : Hid (∀ w', Gr wz w' → w'.cell? ⟨w.heap.size, 0, none⟩ = some (.int .u64 ix) ∧ w'.cell? ⟨w.heap.size, 1, none⟩ = some (.int .u64 old) ∧ w'.cell? ⟨w.heap.size, 4, none⟩ = some (.int .u64 sz)) := Lib.hid (fun w' h => by
    have hl : w.heap.size < wz.heap.size := by rw [← hwz]; simp
    have hr : w'.heap[w.heap.size]? = some (.cells #[.int .u64 ix, .int .u64 old, .int .u64 x, .int .u64 y, .int .u64 sz] 41 (0, 0)) := (h.block _ hl).trans (by rw [← hwz]; exact heap_at _ _ _ rfl)
    exact ⟨by rw [cell_of_row _ _ 0 _ _ _ hr]; rfl, by rw [cell_of_row _ _ 1 _ _ _ hr]; rfl, by rw [cell_of_row _ _ 4 _ _ _ hr]; rfl⟩)
  have HWZ := Lib.hid hwz
  clear hwz hE
  by_cases h1 : 9223372036854775808 < sz
  · clear hb
    go_enter Tryd.func4, Tryd.ntmps4
    go_upto_region 1 with fail
    rw [HWZ.out]
    obtain ⟨c0, c1, c4⟩ := KZ.out wz (Gr.refl _)
    go_wp2_with fail
    refine (alive15 a B wz (show EnvP B a wz from HE.out.step (show Gr w wz from (by repeat (first | exact Gr.refl _ | (refine Gr.step ?_ (by assumption)) | (refine Gr.alloc ?_ _) | (refine Gr.drew ?_)))))).mono ?_
    rintro ev wd ⟨rfl, bd⟩
    go_wp2
    go_ret
    exact ⟨rfl, show Gr w _ from (by repeat (first | exact Gr.refl _ | (refine Gr.step ?_ (by assumption)) | (refine Gr.alloc ?_ _) | (refine Gr.drew ?_)))⟩
  · by_cases h2 : 9223372036854775808 < al
    · clear hb
      go_enter Tryd.func4, Tryd.ntmps4
      go_upto_region 1 with fail
      rw [HWZ.out]
      obtain ⟨c0, c1, c4⟩ := KZ.out wz (Gr.refl _)
      go_wp2_with fail
      refine (alive15 a B wz (show EnvP B a wz from HE.out.step (show Gr w wz from (by repeat (first | exact Gr.refl _ | (refine Gr.step ?_ (by assumption)) | (refine Gr.alloc ?_ _) | (refine Gr.drew ?_)))))).mono ?_
      rintro ev wd ⟨rfl, bd⟩
      go_wp2
      go_ret
      exact ⟨rfl, show Gr w _ from (by repeat (first | exact Gr.refl _ | (refine Gr.step ?_ (by assumption)) | (refine Gr.alloc ?_ _) | (refine Gr.drew ?_)))⟩
    · have h3 : al < sz := by omega
      clear hb
      go_enter Tryd.func4, Tryd.ntmps4
      go_upto_region 1 with fail
      rw [HWZ.out]
      obtain ⟨c0, c1, c4⟩ := KZ.out wz (Gr.refl _)
      go_wp2_with fail
      refine (alive15 a B wz (show EnvP B a wz from HE.out.step (show Gr w wz from (by repeat (first | exact Gr.refl _ | (refine Gr.step ?_ (by assumption)) | (refine Gr.alloc ?_ _) | (refine Gr.drew ?_)))))).mono ?_
      rintro ev wd ⟨rfl, bd⟩
      go_wp2
      go_ret
      exact ⟨rfl, show Gr w _ from (by repeat (first | exact Gr.refl _ | (refine Gr.step ?_ (by assumption)) | (refine Gr.alloc ?_ _) | (refine Gr.drew ?_)))⟩
set_option maxRecDepth 100000 in
set_option maxHeartbeats 4000000 in
theorem few_nn (a : Nat → Addr) (B : Nat) (ix old x y sz al : Int) (w : World) (hE : EnvP B a w) (q0 : 0 ≤ ix) (q1 : ix < 18446744073709551616) (q2 : 0 ≤ old) (q3 : old < 18446744073709551616) (q8 : 0 ≤ sz) (q9 : sz < 18446744073709551616) (r0 : 0 ≤ al) (r1 : al < 18446744073709551616) (hb1 : sz ≤ 9223372036854775808) (hb2 : al ≤ 9223372036854775808) (hb3 : sz ≤ al) (hbad1 : 9223372036854775808 < sz ∨ sz ≤ ix) (hbad2 : 9223372036854775808 < sz ∨ old = 0 ∨ sz < old) :
    Calls Tryd.prog 4 #[.agg #[.int .u64 ix, .int .u64 old, .int .u64 x, .int .u64 y, .int .u64 sz], .int .u64 al] w fun ev w' => ev = .returned (.bool true) ∧ Below w.heap.size w w' := by
  have HE := Lib.hid hE
  obtain ⟨wz, hwz⟩ : ∃ z, w.alloc (.cells #[.int .u64 ix, .int .u64 old, .int .u64 x, .int .u64 y, .int .u64 sz] 41) = z := ⟨_, rfl⟩
  have bz : Gr w wz := by rw [← hwz]; exact (Gr.refl _).alloc _
  have KZ : Hid (∀ w', Gr wz w' → w'.cell? ⟨w.heap.size, 0, none⟩ = some (.int .u64 ix) ∧ w'.cell? ⟨w.heap.size, 1, none⟩ = some (.int .u64 old) ∧ w'.cell? ⟨w.heap.size, 4, none⟩ = some (.int .u64 sz)) := Lib.hid (fun w' h => by
    have hl : w.heap.size < wz.heap.size := by rw [← hwz]; simp
    have hr : w'.heap[w.heap.size]? = some (.cells #[.int .u64 ix, .int .u64 old, .int .u64 x, .int .u64 y, .int .u64 sz] 41 (0, 0)) := (h.block _ hl).trans (by rw [← hwz]; exact heap_at _ _ _ rfl)
    exact ⟨by rw [cell_of_row _ _ 0 _ _ _ hr]; rfl, by rw [cell_of_row _ _ 1 _ _ _ hr]; rfl, by rw [cell_of_row _ _ 4 _ _ _ hr]; rfl⟩)
  have HWZ := Lib.hid hwz
  clear hwz hE
  go_enter Tryd.func4, Tryd.ntmps4
  go_upto_region 1 with fail
  rw [HWZ.out]
  obtain ⟨c0, c1, c4⟩ := KZ.out wz (Gr.refl _)
  go_wp2_with fail
  refine (plan_path_fail a B ix sz wz (show EnvP B a wz from HE.out.step (show Gr w wz from (by repeat (first | exact Gr.refl _ | (refine Gr.step ?_ (by assumption)) | (refine Gr.alloc ?_ _) | (refine Gr.drew ?_))))).laid q0 q1 q8 q9 hbad1).mono ?_
  rintro ev wc ⟨rfl, bc⟩
  have KC := Lib.hid (show Gr wz wc from (by repeat (first | exact Gr.refl _ | (refine Gr.step ?_ (by assumption)) | (refine Gr.alloc ?_ _) | (refine Gr.drew ?_))))
  clear c0 c1 c4
  obtain ⟨c0, c1, c4⟩ := KZ.out wc KC.out
  unfold errV
  go_wp2_with fail
  refine (plan_proof_fail a B old sz wc (show EnvP B a wc from HE.out.step (show Gr w wc from (by repeat (first | exact Gr.refl _ | (refine Gr.step ?_ (by assumption)) | (refine Gr.alloc ?_ _) | (refine Gr.drew ?_))))).laid q2 q3 q8 q9 hbad2).mono ?_
  rintro ev wd ⟨rfl, bd⟩
  have KD := Lib.hid (show Gr wz wd from (by repeat (first | exact Gr.refl _ | (refine Gr.step ?_ (by assumption)) | (refine Gr.alloc ?_ _) | (refine Gr.drew ?_))))
  clear c0 c1 c4
  obtain ⟨c0, c1, c4⟩ := KZ.out wd KD.out
  unfold errV
  go_wp2_with fail
  refine (alive15 a B wd (show EnvP B a wd from HE.out.step (show Gr w wd from (by repeat (first | exact Gr.refl _ | (refine Gr.step ?_ (by assumption)) | (refine Gr.alloc ?_ _) | (refine Gr.drew ?_)))))).mono ?_
  rintro ev we ⟨rfl, be⟩
  go_wp2
  go_ret
  exact ⟨rfl, show Gr w _ from (by repeat (first | exact Gr.refl _ | (refine Gr.step ?_ (by assumption)) | (refine Gr.alloc ?_ _) | (refine Gr.drew ?_)))⟩
set_option maxRecDepth 100000 in
set_option maxHeartbeats 4000000 in
theorem few_ny (a : Nat → Addr) (B : Nat) (ix old x y sz al : Int) (w : World) (hE : EnvP B a w) (q0 : 0 ≤ ix) (q1 : ix < 18446744073709551616) (q2 : 0 ≤ old) (q3 : old < 18446744073709551616) (q8 : 0 ≤ sz) (q9 : sz < 18446744073709551616) (r0 : 0 ≤ al) (r1 : al < 18446744073709551616) (hb1 : sz ≤ 9223372036854775808) (hb2 : al ≤ 9223372036854775808) (hb3 : sz ≤ al) (hbad1 : 9223372036854775808 < sz ∨ sz ≤ ix) (hok2 : 0 < old) (hok3 : old ≤ sz) :
    Calls Tryd.prog 4 #[.agg #[.int .u64 ix, .int .u64 old, .int .u64 x, .int .u64 y, .int .u64 sz], .int .u64 al] w fun ev w' => ev = .returned (.bool true) ∧ Below w.heap.size w w' := by
  have HE := Lib.hid hE
  obtain ⟨wz, hwz⟩ : ∃ z, w.alloc (.cells #[.int .u64 ix, .int .u64 old, .int .u64 x, .int .u64 y, .int .u64 sz] 41) = z := ⟨_, rfl⟩
  have bz : Gr w wz := by rw [← hwz]; exact (Gr.refl _).alloc _
  have KZ : Hid (∀ w', Gr wz w' → w'.cell? ⟨w.heap.size, 0, none⟩ = some (.int .u64 ix) ∧ w'.cell? ⟨w.heap.size, 1, none⟩ = some (.int .u64 old) ∧ w'.cell? ⟨w.heap.size, 4, none⟩ = some (.int .u64 sz)) := Lib.hid (fun w' h => by
    have hl : w.heap.size < wz.heap.size := by rw [← hwz]; simp
    have hr : w'.heap[w.heap.size]? = some (.cells #[.int .u64 ix, .int .u64 old, .int .u64 x, .int .u64 y, .int .u64 sz] 41 (0, 0)) := (h.block _ hl).trans (by rw [← hwz]; exact heap_at _ _ _ rfl)
    exact ⟨by rw [cell_of_row _ _ 0 _ _ _ hr]; rfl, by rw [cell_of_row _ _ 1 _ _ _ hr]; rfl, by rw [cell_of_row _ _ 4 _ _ _ hr]; rfl⟩)
  have HWZ := Lib.hid hwz
  clear hwz hE
  have HF2 : Hid (∀ v w, PRd w v ((proofL 64 old 0 sz).map coverS) → Calls Tryd.prog 15 #[v, .int .u64 sz, .int .u64 al] w fun ev w' => ev = .returned (.bool true) ∧ Below w.heap.size w w') := Lib.hid (fun v w h => by
    have := few_proof old sz.toNat al.toNat v w hok2 (by omega) (by rw [Int.toNat_of_nonneg q8]; exact h) (by omega) (by omega)
    rwa [Int.toNat_of_nonneg q8, Int.toNat_of_nonneg r0] at this)
  go_enter Tryd.func4, Tryd.ntmps4
  go_upto_region 1 with fail
  rw [HWZ.out]
  obtain ⟨c0, c1, c4⟩ := KZ.out wz (Gr.refl _)
  go_wp2_with fail
  refine (plan_path_fail a B ix sz wz (show EnvP B a wz from HE.out.step (show Gr w wz from (by repeat (first | exact Gr.refl _ | (refine Gr.step ?_ (by assumption)) | (refine Gr.alloc ?_ _) | (refine Gr.drew ?_))))).laid q0 q1 q8 q9 hbad1).mono ?_
  rintro ev wc ⟨rfl, bc⟩
  have KC := Lib.hid (show Gr wz wc from (by repeat (first | exact Gr.refl _ | (refine Gr.step ?_ (by assumption)) | (refine Gr.alloc ?_ _) | (refine Gr.drew ?_))))
  clear c0 c1 c4
  obtain ⟨c0, c1, c4⟩ := KZ.out wc KC.out
  unfold errV
  go_wp2_with fail
  refine (plan_proof_ok old sz wc (show EnvP B a wc from HE.out.step (show Gr w wc from (by repeat (first | exact Gr.refl _ | (refine Gr.step ?_ (by assumption)) | (refine Gr.alloc ?_ _) | (refine Gr.drew ?_))))).tz (show EnvP B a wc from HE.out.step (show Gr w wc from (by repeat (first | exact Gr.refl _ | (refine Gr.step ?_ (by assumption)) | (refine Gr.alloc ?_ _) | (refine Gr.drew ?_))))).lo (by omega) (by omega) (by omega)).mono ?_
  rintro ev wd ⟨v2, vs2, rfl, o2, p2, _, bd⟩
  have R2 := Lib.hid (prd_hold o2 p2 (by simp))
  clear o2 p2
  have KD := Lib.hid (show Gr wz wd from (by repeat (first | exact Gr.refl _ | (refine Gr.step ?_ (by assumption)) | (refine Gr.alloc ?_ _) | (refine Gr.drew ?_))))
  clear c0 c1 c4
  obtain ⟨c0, c1, c4⟩ := KZ.out wd KD.out
  go_wp2_with fail
  refine (HF2.out v2 wd R2.out).mono ?_
  rintro ev we ⟨rfl, be⟩
  go_wp2_with fail
  refine (alive15 a B we (show EnvP B a we from HE.out.step (show Gr w we from (by repeat (first | exact Gr.refl _ | (refine Gr.step ?_ (by assumption)) | (refine Gr.alloc ?_ _) | (refine Gr.drew ?_)))))).mono ?_
  rintro ev wf ⟨rfl, bf⟩
  go_wp2
  go_ret
  exact ⟨rfl, show Gr w _ from (by repeat (first | exact Gr.refl _ | (refine Gr.step ?_ (by assumption)) | (refine Gr.alloc ?_ _) | (refine Gr.drew ?_)))⟩
set_option maxRecDepth 100000 in
set_option maxHeartbeats 4000000 in
theorem few_yn (a : Nat → Addr) (B : Nat) (ix old x y sz al : Int) (w : World) (hE : EnvP B a w) (q0 : 0 ≤ ix) (q1 : ix < 18446744073709551616) (q2 : 0 ≤ old) (q3 : old < 18446744073709551616) (q8 : 0 ≤ sz) (q9 : sz < 18446744073709551616) (r0 : 0 ≤ al) (r1 : al < 18446744073709551616) (hb1 : sz ≤ 9223372036854775808) (hb2 : al ≤ 9223372036854775808) (hb3 : sz ≤ al) (hok1 : ix < sz) (hbad2 : 9223372036854775808 < sz ∨ old = 0 ∨ sz < old) :
    Calls Tryd.prog 4 #[.agg #[.int .u64 ix, .int .u64 old, .int .u64 x, .int .u64 y, .int .u64 sz], .int .u64 al] w fun ev w' => ev = .returned (.bool true) ∧ Below w.heap.size w w' := by
  have HE := Lib.hid hE
  obtain ⟨wz, hwz⟩ : ∃ z, w.alloc (.cells #[.int .u64 ix, .int .u64 old, .int .u64 x, .int .u64 y, .int .u64 sz] 41) = z := ⟨_, rfl⟩
  have bz : Gr w wz := by rw [← hwz]; exact (Gr.refl _).alloc _
  have KZ : Hid (∀ w', Gr wz w' → w'.cell? ⟨w.heap.size, 0, none⟩ = some (.int .u64 ix) ∧ w'.cell? ⟨w.heap.size, 1, none⟩ = some (.int .u64 old) ∧ w'.cell? ⟨w.heap.size, 4, none⟩ = some (.int .u64 sz)) := Lib.hid (fun w' h => by
    have hl : w.heap.size < wz.heap.size := by rw [← hwz]; simp
    have hr : w'.heap[w.heap.size]? = some (.cells #[.int .u64 ix, .int .u64 old, .int .u64 x, .int .u64 y, .int .u64 sz] 41 (0, 0)) := (h.block _ hl).trans (by rw [← hwz]; exact heap_at _ _ _ rfl)
    exact ⟨by rw [cell_of_row _ _ 0 _ _ _ hr]; rfl, by rw [cell_of_row _ _ 1 _ _ _ hr]; rfl, by rw [cell_of_row _ _ 4 _ _ _ hr]; rfl⟩)
  have HWZ := Lib.hid hwz
  clear hwz hE
  have HF1 : Hid (∀ v w, PRd w v ((pathL 64 ix 0 sz).map coverS) → Calls Tryd.prog 15 #[v, .int .u64 sz, .int .u64 al] w fun ev w' => ev = .returned (.bool true) ∧ Below w.heap.size w w') := Lib.hid (fun v w h => by
    have := few_path ix sz.toNat al.toNat v w q0 (by omega) (by rw [Int.toNat_of_nonneg q8]; exact h) (by omega) (by omega)
    rwa [Int.toNat_of_nonneg q8, Int.toNat_of_nonneg r0] at this)
  go_enter Tryd.func4, Tryd.ntmps4
  go_upto_region 1 with fail
  rw [HWZ.out]
  obtain ⟨c0, c1, c4⟩ := KZ.out wz (Gr.refl _)
  go_wp2_with fail
  refine (plan_path_ok ix sz wz (show EnvP B a wz from HE.out.step (show Gr w wz from (by repeat (first | exact Gr.refl _ | (refine Gr.step ?_ (by assumption)) | (refine Gr.alloc ?_ _) | (refine Gr.drew ?_))))).tz (show EnvP B a wz from HE.out.step (show Gr w wz from (by repeat (first | exact Gr.refl _ | (refine Gr.step ?_ (by assumption)) | (refine Gr.alloc ?_ _) | (refine Gr.drew ?_))))).lo (by omega) (by omega) (by omega)).mono ?_
  rintro ev wb ⟨v1, vs1, rfl, o1, p1, _, bb⟩
  have R1 := Lib.hid (prd_hold o1 p1 (by simp))
  clear o1 p1
  have KB := Lib.hid (show Gr wz wb from (by repeat (first | exact Gr.refl _ | (refine Gr.step ?_ (by assumption)) | (refine Gr.alloc ?_ _) | (refine Gr.drew ?_))))
  clear c0 c1 c4
  obtain ⟨c0, c1, c4⟩ := KZ.out wb KB.out
  go_wp2_with fail
  refine (HF1.out v1 wb R1.out).mono ?_
  rintro ev wc ⟨rfl, bc⟩
  have KC := Lib.hid (show Gr wz wc from (by repeat (first | exact Gr.refl _ | (refine Gr.step ?_ (by assumption)) | (refine Gr.alloc ?_ _) | (refine Gr.drew ?_))))
  clear c0 c1 c4
  obtain ⟨c0, c1, c4⟩ := KZ.out wc KC.out
  go_wp2_with fail
  refine (plan_proof_fail a B old sz wc (show EnvP B a wc from HE.out.step (show Gr w wc from (by repeat (first | exact Gr.refl _ | (refine Gr.step ?_ (by assumption)) | (refine Gr.alloc ?_ _) | (refine Gr.drew ?_))))).laid q2 q3 q8 q9 hbad2).mono ?_
  rintro ev wd ⟨rfl, bd⟩
  have KD := Lib.hid (show Gr wz wd from (by repeat (first | exact Gr.refl _ | (refine Gr.step ?_ (by assumption)) | (refine Gr.alloc ?_ _) | (refine Gr.drew ?_))))
  clear c0 c1 c4
  obtain ⟨c0, c1, c4⟩ := KZ.out wd KD.out
  unfold errV
  go_wp2_with fail
  refine (alive15 a B wd (show EnvP B a wd from HE.out.step (show Gr w wd from (by repeat (first | exact Gr.refl _ | (refine Gr.step ?_ (by assumption)) | (refine Gr.alloc ?_ _) | (refine Gr.drew ?_)))))).mono ?_
  rintro ev we ⟨rfl, be⟩
  go_wp2
  go_ret
  exact ⟨rfl, show Gr w _ from (by repeat (first | exact Gr.refl _ | (refine Gr.step ?_ (by assumption)) | (refine Gr.alloc ?_ _) | (refine Gr.drew ?_)))⟩
set_option maxRecDepth 100000 in
set_option maxHeartbeats 4000000 in
theorem few_yy (a : Nat → Addr) (B : Nat) (ix old x y sz al : Int) (w : World) (hE : EnvP B a w) (q0 : 0 ≤ ix) (q1 : ix < 18446744073709551616) (q2 : 0 ≤ old) (q3 : old < 18446744073709551616) (q8 : 0 ≤ sz) (q9 : sz < 18446744073709551616) (r0 : 0 ≤ al) (r1 : al < 18446744073709551616) (hb1 : sz ≤ 9223372036854775808) (hb2 : al ≤ 9223372036854775808) (hb3 : sz ≤ al) (hok1 : ix < sz) (hok2 : 0 < old) (hok3 : old ≤ sz) :
    Calls Tryd.prog 4 #[.agg #[.int .u64 ix, .int .u64 old, .int .u64 x, .int .u64 y, .int .u64 sz], .int .u64 al] w fun ev w' => ev = .returned (.bool true) ∧ Below w.heap.size w w' := by
  have HE := Lib.hid hE
  obtain ⟨wz, hwz⟩ : ∃ z, w.alloc (.cells #[.int .u64 ix, .int .u64 old, .int .u64 x, .int .u64 y, .int .u64 sz] 41) = z := ⟨_, rfl⟩
  have bz : Gr w wz := by rw [← hwz]; exact (Gr.refl _).alloc _
  have KZ : Hid (∀ w', Gr wz w' → w'.cell? ⟨w.heap.size, 0, none⟩ = some (.int .u64 ix) ∧ w'.cell? ⟨w.heap.size, 1, none⟩ = some (.int .u64 old) ∧ w'.cell? ⟨w.heap.size, 4, none⟩ = some (.int .u64 sz)) := Lib.hid (fun w' h => by
    have hl : w.heap.size < wz.heap.size := by rw [← hwz]; simp
    have hr : w'.heap[w.heap.size]? = some (.cells #[.int .u64 ix, .int .u64 old, .int .u64 x, .int .u64 y, .int .u64 sz] 41 (0, 0)) := (h.block _ hl).trans (by rw [← hwz]; exact heap_at _ _ _ rfl)
    exact ⟨by rw [cell_of_row _ _ 0 _ _ _ hr]; rfl, by rw [cell_of_row _ _ 1 _ _ _ hr]; rfl, by rw [cell_of_row _ _ 4 _ _ _ hr]; rfl⟩)
  have HWZ := Lib.hid hwz
  clear hwz hE
  have HF1 : Hid (∀ v w, PRd w v ((pathL 64 ix 0 sz).map coverS) → Calls Tryd.prog 15 #[v, .int .u64 sz, .int .u64 al] w fun ev w' => ev = .returned (.bool true) ∧ Below w.heap.size w w') := Lib.hid (fun v w h => by
    have := few_path ix sz.toNat al.toNat v w q0 (by omega) (by rw [Int.toNat_of_nonneg q8]; exact h) (by omega) (by omega)
    rwa [Int.toNat_of_nonneg q8, Int.toNat_of_nonneg r0] at this)
  have HF2 : Hid (∀ v w, PRd w v ((proofL 64 old 0 sz).map coverS) → Calls Tryd.prog 15 #[v, .int .u64 sz, .int .u64 al] w fun ev w' => ev = .returned (.bool true) ∧ Below w.heap.size w w') := Lib.hid (fun v w h => by
    have := few_proof old sz.toNat al.toNat v w hok2 (by omega) (by rw [Int.toNat_of_nonneg q8]; exact h) (by omega) (by omega)
    rwa [Int.toNat_of_nonneg q8, Int.toNat_of_nonneg r0] at this)
  go_enter Tryd.func4, Tryd.ntmps4
  go_upto_region 1 with fail
  rw [HWZ.out]
  obtain ⟨c0, c1, c4⟩ := KZ.out wz (Gr.refl _)
  go_wp2_with fail
  refine (plan_path_ok ix sz wz (show EnvP B a wz from HE.out.step (show Gr w wz from (by repeat (first | exact Gr.refl _ | (refine Gr.step ?_ (by assumption)) | (refine Gr.alloc ?_ _) | (refine Gr.drew ?_))))).tz (show EnvP B a wz from HE.out.step (show Gr w wz from (by repeat (first | exact Gr.refl _ | (refine Gr.step ?_ (by assumption)) | (refine Gr.alloc ?_ _) | (refine Gr.drew ?_))))).lo (by omega) (by omega) (by omega)).mono ?_
  rintro ev wb ⟨v1, vs1, rfl, o1, p1, _, bb⟩
  have R1 := Lib.hid (prd_hold o1 p1 (by simp))
  clear o1 p1
  have KB := Lib.hid (show Gr wz wb from (by repeat (first | exact Gr.refl _ | (refine Gr.step ?_ (by assumption)) | (refine Gr.alloc ?_ _) | (refine Gr.drew ?_))))
  clear c0 c1 c4
  obtain ⟨c0, c1, c4⟩ := KZ.out wb KB.out
  go_wp2_with fail
  refine (HF1.out v1 wb R1.out).mono ?_
  rintro ev wc ⟨rfl, bc⟩
  have KC := Lib.hid (show Gr wz wc from (by repeat (first | exact Gr.refl _ | (refine Gr.step ?_ (by assumption)) | (refine Gr.alloc ?_ _) | (refine Gr.drew ?_))))
  clear c0 c1 c4
  obtain ⟨c0, c1, c4⟩ := KZ.out wc KC.out
  go_wp2_with fail
  refine (plan_proof_ok old sz wc (show EnvP B a wc from HE.out.step (show Gr w wc from (by repeat (first | exact Gr.refl _ | (refine Gr.step ?_ (by assumption)) | (refine Gr.alloc ?_ _) | (refine Gr.drew ?_))))).tz (show EnvP B a wc from HE.out.step (show Gr w wc from (by repeat (first | exact Gr.refl _ | (refine Gr.step ?_ (by assumption)) | (refine Gr.alloc ?_ _) | (refine Gr.drew ?_))))).lo (by omega) (by omega) (by omega)).mono ?_
  rintro ev wd ⟨v2, vs2, rfl, o2, p2, _, bd⟩
  have R2 := Lib.hid (prd_hold o2 p2 (by simp))
  clear o2 p2
  have KD := Lib.hid (show Gr wz wd from (by repeat (first | exact Gr.refl _ | (refine Gr.step ?_ (by assumption)) | (refine Gr.alloc ?_ _) | (refine Gr.drew ?_))))
  clear c0 c1 c4
  obtain ⟨c0, c1, c4⟩ := KZ.out wd KD.out
  go_wp2_with fail
  refine (HF2.out v2 wd R2.out).mono ?_
  rintro ev we ⟨rfl, be⟩
  go_wp2_with fail
  refine (alive15 a B we (show EnvP B a we from HE.out.step (show Gr w we from (by repeat (first | exact Gr.refl _ | (refine Gr.step ?_ (by assumption)) | (refine Gr.alloc ?_ _) | (refine Gr.drew ?_)))))).mono ?_
  rintro ev wf ⟨rfl, bf⟩
  go_wp2
  go_ret
  exact ⟨rfl, show Gr w _ from (by repeat (first | exact Gr.refl _ | (refine Gr.step ?_ (by assumption)) | (refine Gr.alloc ?_ _) | (refine Gr.drew ?_)))⟩
theorem few_law (a : Nat → Addr) (B : Nat) (ix old x y sz al : Int) (w : World) (hE : EnvP B a w) (q0 : 0 ≤ ix) (q1 : ix < 18446744073709551616) (q2 : 0 ≤ old) (q3 : old < 18446744073709551616) (q8 : 0 ≤ sz) (q9 : sz < 18446744073709551616) (r0 : 0 ≤ al) (r1 : al < 18446744073709551616) :
    Calls Tryd.prog 4 #[.agg #[.int .u64 ix, .int .u64 old, .int .u64 x, .int .u64 y, .int .u64 sz], .int .u64 al] w fun ev w' => ev = .returned (.bool true) ∧ Below w.heap.size w w' := by
  by_cases hb : 9223372036854775808 < sz ∨ 9223372036854775808 < al ∨ al < sz
  · exact few_out a B ix old x y sz al w hE q0 q1 q2 q3 q8 q9 r0 r1 hb
  · by_cases h1 : ix < sz
    · by_cases h2 : 0 < old ∧ old ≤ sz
      · exact few_yy a B ix old x y sz al w hE q0 q1 q2 q3 q8 q9 r0 r1 (by omega) (by omega) (by omega) h1 h2.1 h2.2
      · exact few_yn a B ix old x y sz al w hE q0 q1 q2 q3 q8 q9 r0 r1 (by omega) (by omega) (by omega) h1 (by omega)
    · by_cases h2 : 0 < old ∧ old ≤ sz
      · exact few_ny a B ix old x y sz al w hE q0 q1 q2 q3 q8 q9 r0 r1 (by omega) (by omega) (by omega) (by omega) h2.1 h2.2
      · exact few_nn a B ix old x y sz al w hE q0 q1 q2 q3 q8 q9 r0 r1 (by omega) (by omega) (by omega) (by omega) (by omega)
end Go.Proofs.YtdodfeoaioolnaaDoor
