/- keys.Verify where it answers an error. Condition: the table reads as listed. -/
import Derived.Test.YtnpblpbcchminaaDoorSameHashes
import Derived.Test.YtnpblpbcchminaaDoorMem
import Derived.Test.YtnpblpbcchminaaDoorKeysVer
import Derived.Test.YtnpblpbcchminaaDoorKeysMay
import Derived.Test.YtnpblpbcchminaaDoorVerifyNone
namespace Go.Proofs.YtnpblpbcchminaaDoor
open Go.ChangeShapes Go.WideShapes Go.ChangeAt Go.RowKit
set_option linter.unusedVariables false

set_option maxRecDepth 100000 in
set_option maxHeartbeats 8000000 in
theorem kver_neg (a : Nat → Addr) (B : Nat) (p : List UInt8) (hh : Int) (x : Int) (m n : Nat) (t : ByteArray) (A A2 : Option Addr) (c c2 : Nat) (w : World) (hE : Env B a w) (hp : p.length = 32) (h0 : hh < 0) :
    Calls Tryd.prog 13 #[hv p, .int .i64 hh, .string t, .agg #[.int .i64 x, .slice A m c, .slice A2 n c2]] w fun ev w' => ev = .returned (errV a 2) ∧ Below w.heap.size w w' := by
  obtain ⟨v0, ev0, Hv0, Zv0, Iv0, Ov0⟩ := row_of p hp
  obtain ⟨sv, hsv9⟩ : ∃ y : Array Value, #[.int .i64 x, .slice A m c, .slice A2 n c2] = y := ⟨_, rfl⟩
  have Zsv : Hid (sv.size = 3) := Lib.hid (by rw [← hsv9]; rfl)
  have Isv : Hid ((Tryd.prog.info? 35).map (·.size) = some sv.size) := Lib.hid (by rw [Zsv.out]; kernel_rfl)
  obtain ⟨wv, hwv⟩ : ∃ y9 : World, ((w.alloc (.cells v0 23)).alloc (.cells sv 35)) = y9 := ⟨_, rfl⟩
  have HBv : Hid (Below w.heap.size w wv) := Lib.hid (by rw [← hwv]; exact (((Below.refl _ _).alloc (by simp <;> omega) _).alloc (by simp <;> omega) _))
  have HSV : Hid (wv.heap.size = w.heap.size + 2) := Lib.hid (by rw [← hwv]; simp)
  have RV : Hid (wv.heap[w.heap.size]? = some (.cells v0 23 (0, 0))) := Lib.hid (by rw [← hwv]; exact (((Below.refl (w.alloc (.cells v0 23)).heap.size (w.alloc (.cells v0 23))).alloc (Nat.le_refl _) _).block w.heap.size (by simp <;> omega)).trans (heap_at _ _ _ (by simp <;> omega)))
  have RS0 : Hid (wv.heap[(w.heap.size + 1)]? = some (.cells sv 35 (0, 0))) := Lib.hid (by rw [← hwv]; exact heap_at _ _ _ (by simp <;> omega))
  have HWV := Lib.hid hwv
  have hsvv := HSV.out
  have RS : Hid (wv.heap[w.heap.size + 1]? = some (.cells sv 35 (0, 0))) := RS0
  have KSA : ∀ w' : World, w'.heap[w.heap.size + 1]? = some (.cells sv 35 (0, 0)) → w'.cell? ⟨w.heap.size + 1, 0, none⟩ = some (.int .i64 x) ∧ w'.cell? ⟨w.heap.size + 1, 1, none⟩ = some (.slice A m c) ∧ w'.cell? ⟨w.heap.size + 1, 2, none⟩ = some (.slice A2 n c2) := fun w' hg => by
    rw [← hsv9] at hg
    exact ⟨(cell_of_row w' _ 0 _ 35 (0, 0) hg).trans rfl, (cell_of_row w' _ 1 _ 35 (0, 0) hg).trans rfl, (cell_of_row w' _ 2 _ 35 (0, 0) hg).trans rfl⟩
  have KS : Hid (∀ w', But (fun _ => False) wv w' → w'.cell? ⟨w.heap.size + 1, 0, none⟩ = some (.int .i64 x) ∧ w'.cell? ⟨w.heap.size + 1, 1, none⟩ = some (.slice A m c) ∧ w'.cell? ⟨w.heap.size + 1, 2, none⟩ = some (.slice A2 n c2)) := Lib.hid (fun w' hw => KSA w' ((hw.same _ (by omega) (fun q => q)).trans RS.out))
  have HE := Lib.hid (hE.step HBv.out)
  have g3 : decide (hh < 0) = true := by simp; omega
  rw [ev0, hsv9]
  clear KSA hwv hsv9 hE hp ev0 h0
  go_enter Tryd.func13, Tryd.ntmps13
  go_upto_region 1 with fail
  rw [HWV.out]
  refine wp_region_held_drew (S := But (fun _ => False) wv) (by kernel_rfl) (But.refl _ _).drew (fun hHeld => ?_)
  refine tk (i := 0) (v := ?v1) rfl ?y1 ?r1
  case y1 => (intro w hSw; (try dsimp only at hSw); go_simp; (try with_reducible rfl))
  try simp only [pu]
  refine tk (i := 1) (v := ?v2) rfl ?y2 ?r2
  case y2 => (intro w hSw; (try dsimp only at hSw); go_simp; (try with_reducible rfl))
  try simp only [pu]
  refine tk (i := 2) (v := ?v3) rfl ?y3 ?r3
  case y3 => (intro w hSw; (try dsimp only at hSw); go_simp; (try with_reducible rfl))
  try simp only [pu]
  refine ts (i := 3) rfl ?_
  try simp only [pu]
  refine ts (i := 4) rfl ?_
  try simp only [pu]
  refine tk (i := 5) (v := ?v6) rfl ?y6 ?r6
  case y6 => (intro w hSw; (try dsimp only at hSw); go_simp; (try with_reducible rfl))
  try simp only [pu]
  refine tk (i := 6) (v := ?v7) rfl ?y7 ?r7
  case y7 => (intro w hSw; (try dsimp only at hSw); go_simp; (try with_reducible rfl))
  try simp only [pu]
  refine ts (i := 7) rfl ?_
  try simp only [pu]
  refine ts (i := 8) rfl ?_
  try simp only [pu]
  refine ts (i := 9) rfl ?_
  try simp only [pu]
  refine tk (i := 10) (v := ?v11) rfl ?y11 ?r11
  case y11 => (intro w hSw; (try dsimp only at hSw); go_simp; (try with_reducible rfl))
  try simp only [pu]
  refine tk (i := 11) (v := ?v12) rfl ?y12 ?r12
  case y12 => (intro w hSw; (try dsimp only at hSw); go_simp; (try with_reducible rfl))
  try simp only [pu]
  refine ts (i := 12) rfl ?_
  try simp only [pu]
  refine ts (i := 13) rfl ?_
  try simp only [pu]
  refine ts (i := 14) rfl ?_
  try simp only [pu]
  refine ts (i := 15) rfl ?_
  try simp only [pu]
  refine ts (i := 16) rfl ?_
  try simp only [pu]
  refine tk (i := 17) (v := ?v18) rfl ?y18 ?r18
  case y18 => (intro w hSw; (try dsimp only at hSw); go_simp; (try with_reducible rfl))
  try simp only [pu]
  refine tk (i := 18) (v := ?v19) rfl ?y19 ?r19
  case y19 => (intro w hSw; (try dsimp only at hSw); go_simp; (try with_reducible rfl))
  try simp only [pu]
  refine ts (i := 19) rfl ?_
  try simp only [pu]
  refine ts (i := 20) rfl ?_
  try simp only [pu]
  refine ts (i := 21) rfl ?_
  try simp only [pu]
  refine ts (i := 22) rfl ?_
  try simp only [pu]
  refine ts (i := 23) rfl ?_
  try simp only [pu]
  refine tk (i := 24) (v := ?v25) rfl ?y25 ?r25
  case y25 => (intro w hSw; (try dsimp only at hSw); go_simp; (try with_reducible rfl))
  try simp only [pu]
  refine wpAnyH_done (by kernel_rfl) ?_ _
  obtain ⟨w1, hnw1⟩ : ∃ y9 : World, wv.drew = y9 := ⟨_, rfl⟩
  have Bw1 : Hid (Below wv.heap.size wv w1) := Lib.hid (by rw [← hnw1]; exact But.to_below ((But.refl (fun _ => False) wv).drew) (Nat.le_refl _) (fun _ _ q => q))
  rw [hnw1]
  clear hnw1 hHeld
  try clear hHeld2
  have z9 := (HE.out.step Bw1.out).laid.e2
  unfold errV at z9
  go_wp2_with fail
  go_ret
  exact ⟨rfl, HBv.out.trans (Bw1.out.mono HBv.out.size)⟩

set_option maxRecDepth 100000 in
set_option maxHeartbeats 8000000 in
theorem kver_big (a : Nat → Addr) (B : Nat) (p : List UInt8) (hh : Int) (x : Int) (m n : Nat) (t : ByteArray) (A A2 : Option Addr) (c c2 : Nat) (w : World) (hE : Env B a w) (hp : p.length = 32) (h0 : 6 < hh) :
    Calls Tryd.prog 13 #[hv p, .int .i64 hh, .string t, .agg #[.int .i64 x, .slice A m c, .slice A2 n c2]] w fun ev w' => ev = .returned (errV a 2) ∧ Below w.heap.size w w' := by
  obtain ⟨v0, ev0, Hv0, Zv0, Iv0, Ov0⟩ := row_of p hp
  obtain ⟨sv, hsv9⟩ : ∃ y : Array Value, #[.int .i64 x, .slice A m c, .slice A2 n c2] = y := ⟨_, rfl⟩
  have Zsv : Hid (sv.size = 3) := Lib.hid (by rw [← hsv9]; rfl)
  have Isv : Hid ((Tryd.prog.info? 35).map (·.size) = some sv.size) := Lib.hid (by rw [Zsv.out]; kernel_rfl)
  obtain ⟨wv, hwv⟩ : ∃ y9 : World, ((w.alloc (.cells v0 23)).alloc (.cells sv 35)) = y9 := ⟨_, rfl⟩
  have HBv : Hid (Below w.heap.size w wv) := Lib.hid (by rw [← hwv]; exact (((Below.refl _ _).alloc (by simp <;> omega) _).alloc (by simp <;> omega) _))
  have HSV : Hid (wv.heap.size = w.heap.size + 2) := Lib.hid (by rw [← hwv]; simp)
  have RV : Hid (wv.heap[w.heap.size]? = some (.cells v0 23 (0, 0))) := Lib.hid (by rw [← hwv]; exact (((Below.refl (w.alloc (.cells v0 23)).heap.size (w.alloc (.cells v0 23))).alloc (Nat.le_refl _) _).block w.heap.size (by simp <;> omega)).trans (heap_at _ _ _ (by simp <;> omega)))
  have RS0 : Hid (wv.heap[(w.heap.size + 1)]? = some (.cells sv 35 (0, 0))) := Lib.hid (by rw [← hwv]; exact heap_at _ _ _ (by simp <;> omega))
  have HWV := Lib.hid hwv
  have hsvv := HSV.out
  have RS : Hid (wv.heap[w.heap.size + 1]? = some (.cells sv 35 (0, 0))) := RS0
  have KSA : ∀ w' : World, w'.heap[w.heap.size + 1]? = some (.cells sv 35 (0, 0)) → w'.cell? ⟨w.heap.size + 1, 0, none⟩ = some (.int .i64 x) ∧ w'.cell? ⟨w.heap.size + 1, 1, none⟩ = some (.slice A m c) ∧ w'.cell? ⟨w.heap.size + 1, 2, none⟩ = some (.slice A2 n c2) := fun w' hg => by
    rw [← hsv9] at hg
    exact ⟨(cell_of_row w' _ 0 _ 35 (0, 0) hg).trans rfl, (cell_of_row w' _ 1 _ 35 (0, 0) hg).trans rfl, (cell_of_row w' _ 2 _ 35 (0, 0) hg).trans rfl⟩
  have KS : Hid (∀ w', But (fun _ => False) wv w' → w'.cell? ⟨w.heap.size + 1, 0, none⟩ = some (.int .i64 x) ∧ w'.cell? ⟨w.heap.size + 1, 1, none⟩ = some (.slice A m c) ∧ w'.cell? ⟨w.heap.size + 1, 2, none⟩ = some (.slice A2 n c2)) := Lib.hid (fun w' hw => KSA w' ((hw.same _ (by omega) (fun q => q)).trans RS.out))
  have HE := Lib.hid (hE.step HBv.out)
  have g3 : decide (hh < 0) = false := by simp; omega
  have g2 : decide ((6 : Int) < hh) = true := by simp; omega
  rw [ev0, hsv9]
  clear KSA hwv hsv9 hE hp ev0 h0
  go_enter Tryd.func13, Tryd.ntmps13
  go_upto_region 1 with fail
  rw [HWV.out]
  refine wp_region_held_drew (S := But (fun _ => False) wv) (by kernel_rfl) (But.refl _ _).drew (fun hHeld => ?_)
  refine tk (i := 0) (v := ?v26) rfl ?y26 ?r26
  case y26 => (intro w hSw; (try dsimp only at hSw); go_simp; (try with_reducible rfl))
  try simp only [pu]
  refine tk (i := 1) (v := ?v27) rfl ?y27 ?r27
  case y27 => (intro w hSw; (try dsimp only at hSw); go_simp; (try with_reducible rfl))
  try simp only [pu]
  refine tk (i := 2) (v := ?v28) rfl ?y28 ?r28
  case y28 => (intro w hSw; (try dsimp only at hSw); go_simp; (try with_reducible rfl))
  try simp only [pu]
  refine tk (i := 3) (v := ?v29) rfl ?y29 ?r29
  case y29 => (intro w hSw; (try dsimp only at hSw); go_simp; (try with_reducible rfl))
  try simp only [pu]
  refine tk (i := 4) (v := ?v30) rfl ?y30 ?r30
  case y30 => (intro w hSw; (try dsimp only at hSw); go_simp; (try with_reducible rfl))
  try simp only [pu]
  refine tk (i := 5) (v := ?v31) rfl ?y31 ?r31
  case y31 => (intro w hSw; (try dsimp only at hSw); go_simp; (try with_reducible rfl))
  try simp only [pu]
  refine tk (i := 6) (v := ?v32) rfl ?y32 ?r32
  case y32 => (intro w hSw; (try dsimp only at hSw); go_simp; (try with_reducible rfl))
  try simp only [pu]
  refine ts (i := 7) rfl ?_
  try simp only [pu]
  refine ts (i := 8) rfl ?_
  try simp only [pu]
  refine ts (i := 9) rfl ?_
  try simp only [pu]
  refine tk (i := 10) (v := ?v36) rfl ?y36 ?r36
  case y36 => (intro w hSw; (try dsimp only at hSw); go_simp; (try with_reducible rfl))
  try simp only [pu]
  refine tk (i := 11) (v := ?v37) rfl ?y37 ?r37
  case y37 => (intro w hSw; (try dsimp only at hSw); go_simp; (try with_reducible rfl))
  try simp only [pu]
  refine ts (i := 12) rfl ?_
  try simp only [pu]
  refine ts (i := 13) rfl ?_
  try simp only [pu]
  refine ts (i := 14) rfl ?_
  try simp only [pu]
  refine ts (i := 15) rfl ?_
  try simp only [pu]
  refine ts (i := 16) rfl ?_
  try simp only [pu]
  refine tk (i := 17) (v := ?v43) rfl ?y43 ?r43
  case y43 => (intro w hSw; (try dsimp only at hSw); go_simp; (try with_reducible rfl))
  try simp only [pu]
  refine tk (i := 18) (v := ?v44) rfl ?y44 ?r44
  case y44 => (intro w hSw; (try dsimp only at hSw); go_simp; (try with_reducible rfl))
  try simp only [pu]
  refine ts (i := 19) rfl ?_
  try simp only [pu]
  refine ts (i := 20) rfl ?_
  try simp only [pu]
  refine ts (i := 21) rfl ?_
  try simp only [pu]
  refine ts (i := 22) rfl ?_
  try simp only [pu]
  refine ts (i := 23) rfl ?_
  try simp only [pu]
  refine tk (i := 24) (v := ?v50) rfl ?y50 ?r50
  case y50 => (intro w hSw; (try dsimp only at hSw); go_simp; (try with_reducible rfl))
  try simp only [pu]
  refine wpAnyH_done (by kernel_rfl) ?_ _
  obtain ⟨w1, hnw1⟩ : ∃ y9 : World, wv.drew = y9 := ⟨_, rfl⟩
  have Bw1 : Hid (Below wv.heap.size wv w1) := Lib.hid (by rw [← hnw1]; exact But.to_below ((But.refl (fun _ => False) wv).drew) (Nat.le_refl _) (fun _ _ q => q))
  rw [hnw1]
  clear hnw1 hHeld
  try clear hHeld2
  have z9 := (HE.out.step Bw1.out).laid.e2
  unfold errV at z9
  go_wp2_with fail
  go_ret
  exact ⟨rfl, HBv.out.trans (Bw1.out.mono HBv.out.size)⟩

set_option maxRecDepth 100000 in
set_option maxHeartbeats 8000000 in
theorem kver_may (a : Nat → Addr) (B : Nat) (p : List UInt8) (h : Nat) (x : Int) (m n : Nat) (t : ByteArray) (A A2 : Option Addr) (c c2 : Nat) (w : World) (hE : Env B a w) (hp : p.length = 32) (h6 : h ≤ 6) (hmy : ¬ (0 ≤ x ∧ x < 64 ∧ m = 67 ∧ n ≤ 6)) :
    Calls Tryd.prog 13 #[hv p, .int .i64 (h : Int), .string t, .agg #[.int .i64 x, .slice A m c, .slice A2 n c2]] w fun ev w' => ev = .returned (errV a 2) ∧ Below w.heap.size w w' := by
  obtain ⟨v0, ev0, Hv0, Zv0, Iv0, Ov0⟩ := row_of p hp
  obtain ⟨sv, hsv9⟩ : ∃ y : Array Value, #[.int .i64 x, .slice A m c, .slice A2 n c2] = y := ⟨_, rfl⟩
  have Zsv : Hid (sv.size = 3) := Lib.hid (by rw [← hsv9]; rfl)
  have Isv : Hid ((Tryd.prog.info? 35).map (·.size) = some sv.size) := Lib.hid (by rw [Zsv.out]; kernel_rfl)
  obtain ⟨wv, hwv⟩ : ∃ y9 : World, ((w.alloc (.cells v0 23)).alloc (.cells sv 35)) = y9 := ⟨_, rfl⟩
  have HBv : Hid (Below w.heap.size w wv) := Lib.hid (by rw [← hwv]; exact (((Below.refl _ _).alloc (by simp <;> omega) _).alloc (by simp <;> omega) _))
  have HSV : Hid (wv.heap.size = w.heap.size + 2) := Lib.hid (by rw [← hwv]; simp)
  have RV : Hid (wv.heap[w.heap.size]? = some (.cells v0 23 (0, 0))) := Lib.hid (by rw [← hwv]; exact (((Below.refl (w.alloc (.cells v0 23)).heap.size (w.alloc (.cells v0 23))).alloc (Nat.le_refl _) _).block w.heap.size (by simp <;> omega)).trans (heap_at _ _ _ (by simp <;> omega)))
  have RS0 : Hid (wv.heap[(w.heap.size + 1)]? = some (.cells sv 35 (0, 0))) := Lib.hid (by rw [← hwv]; exact heap_at _ _ _ (by simp <;> omega))
  have HWV := Lib.hid hwv
  have hsvv := HSV.out
  have RS : Hid (wv.heap[w.heap.size + 1]? = some (.cells sv 35 (0, 0))) := RS0
  have HMAY : Hid (∀ w', Calls Tryd.prog 27 #[.agg sv] w' fun ev w2 => ev = .returned (.bool false) ∧ Below w'.heap.size w' w2) := Lib.hid (fun w' => by
    have h9 := may_any x m n A A2 c c2 w'
    rw [show decide (0 ≤ x ∧ x < 64 ∧ m = 67 ∧ n ≤ 6) = false from decide_eq_false hmy, hsv9] at h9
    exact h9)
  have KSA : ∀ w' : World, w'.heap[w.heap.size + 1]? = some (.cells sv 35 (0, 0)) → w'.cell? ⟨w.heap.size + 1, 0, none⟩ = some (.int .i64 x) ∧ w'.cell? ⟨w.heap.size + 1, 1, none⟩ = some (.slice A m c) ∧ w'.cell? ⟨w.heap.size + 1, 2, none⟩ = some (.slice A2 n c2) := fun w' hg => by
    rw [← hsv9] at hg
    exact ⟨(cell_of_row w' _ 0 _ 35 (0, 0) hg).trans rfl, (cell_of_row w' _ 1 _ 35 (0, 0) hg).trans rfl, (cell_of_row w' _ 2 _ 35 (0, 0) hg).trans rfl⟩
  have KS : Hid (∀ w', But (fun _ => False) wv w' → w'.cell? ⟨w.heap.size + 1, 0, none⟩ = some (.int .i64 x) ∧ w'.cell? ⟨w.heap.size + 1, 1, none⟩ = some (.slice A m c) ∧ w'.cell? ⟨w.heap.size + 1, 2, none⟩ = some (.slice A2 n c2)) := Lib.hid (fun w' hw => KSA w' ((hw.same _ (by omega) (fun q => q)).trans RS.out))
  have HE := Lib.hid (hE.step HBv.out)
  have g2 : decide ((6 : Int) < h) = false := by simp; omega
  have g3 : decide ((h : Int) < 0) = false := by simp
  have k0 : (0 : Int) ≤ h := by omega
  rw [ev0, hsv9]
  clear KSA hwv hsv9 hE hp ev0 hmy h6
  go_enter Tryd.func13, Tryd.ntmps13
  go_upto_region 1 with fail
  rw [HWV.out]
  refine wp_region_held_drew (S := But (fun _ => False) wv) (by kernel_rfl) (But.refl _ _).drew (fun hHeld => ?_)
  refine tk (i := 0) (v := ?v51) rfl ?y51 ?r51
  case y51 => (intro w hSw; (try dsimp only at hSw); go_simp; (try with_reducible rfl))
  try simp only [pu]
  refine tk (i := 1) (v := ?v52) rfl ?y52 ?r52
  case y52 => (intro w hSw; (try dsimp only at hSw); go_simp; (try with_reducible rfl))
  try simp only [pu]
  refine tk (i := 2) (v := ?v53) rfl ?y53 ?r53
  case y53 => (intro w hSw; (try dsimp only at hSw); go_simp; (try with_reducible rfl))
  try simp only [pu]
  refine tk (i := 3) (v := ?v54) rfl ?y54 ?r54
  case y54 => (intro w hSw; (try dsimp only at hSw); go_simp; (try with_reducible rfl))
  try simp only [pu]
  refine tk (i := 4) (v := ?v55) rfl ?y55 ?r55
  case y55 => (intro w hSw; (try dsimp only at hSw); go_simp; (try with_reducible rfl))
  try simp only [pu]
  refine tk (i := 5) (v := ?v56) rfl ?y56 ?r56
  case y56 => (intro w hSw; (try dsimp only at hSw); go_simp; (try with_reducible rfl))
  try simp only [pu]
  refine tk (i := 6) (v := ?v57) rfl ?y57 ?r57
  case y57 => (intro w hSw; (try dsimp only at hSw); go_simp; (try with_reducible rfl))
  try simp only [pu]
  refine tw (i := 7) rfl (yieldsIf_load_row (by rfl) 35 _ (by rfl) (w.heap.size + 1) (by rfl) 35 sv (0, 0) _ (fun w h => (h.same _ (by omega) (fun q => q)).trans RS.out) Tryd.underlying35 (by rfl) Isv.out) ?_
  try simp only [pu]
  refine wpAnyH_ready (rs := [8]) (by kernel_rfl) (by simp) ?_
  refine AllReadyH.cons (i := 8) rfl (fun K2 hK2 => ?_) AllReadyH.nil
  go_simp
  go_at_call 27
  refine (HMAY.out wv.drew).mono ?_
  rintro ev w701 ⟨rfl, bw701⟩
  try go_wp2_with fail
  obtain ⟨Kw701, fw701⟩ := st_call ((But.refl (fun _ => False) wv).drew) bw701
  have Kw701 := Lib.hid Kw701
  clear bw701 fw701
  refine hK2.out _ _ Kw701.out (fun hHeld2 => ?_)
  clear hK2 K2
  try simp only [pu]
  refine tk (i := 9) (v := ?v59) rfl ?y59 ?r59
  case y59 => (intro w hSw; (try dsimp only at hSw); go_simp; (try with_reducible rfl))
  try simp only [pu]
  refine tk (i := 10) (v := ?v60) rfl ?y60 ?r60
  case y60 => (intro w hSw; (try dsimp only at hSw); go_simp; (try with_reducible rfl))
  try simp only [pu]
  refine tk (i := 11) (v := ?v61) rfl ?y61 ?r61
  case y61 => (intro w hSw; (try dsimp only at hSw); go_simp; (try with_reducible rfl))
  try simp only [pu]
  refine ts (i := 12) rfl ?_
  try simp only [pu]
  refine ts (i := 13) rfl ?_
  try simp only [pu]
  refine ts (i := 14) rfl ?_
  try simp only [pu]
  refine ts (i := 15) rfl ?_
  try simp only [pu]
  refine ts (i := 16) rfl ?_
  try simp only [pu]
  refine tk (i := 17) (v := ?v67) rfl ?y67 ?r67
  case y67 => (intro w hSw; (try dsimp only at hSw); go_simp; (try with_reducible rfl))
  try simp only [pu]
  refine tk (i := 18) (v := ?v68) rfl ?y68 ?r68
  case y68 => (intro w hSw; (try dsimp only at hSw); go_simp; (try with_reducible rfl))
  try simp only [pu]
  refine ts (i := 19) rfl ?_
  try simp only [pu]
  refine ts (i := 20) rfl ?_
  try simp only [pu]
  refine ts (i := 21) rfl ?_
  try simp only [pu]
  refine ts (i := 22) rfl ?_
  try simp only [pu]
  refine ts (i := 23) rfl ?_
  try simp only [pu]
  refine tk (i := 24) (v := ?v74) rfl ?y74 ?r74
  case y74 => (intro w hSw; (try dsimp only at hSw); go_simp; (try with_reducible rfl))
  try simp only [pu]
  refine wpAnyH_done (by kernel_rfl) ?_ _
  obtain ⟨w1, hnw1⟩ : ∃ y9 : World, w701 = y9 := ⟨_, rfl⟩
  have Bw1 : Hid (Below wv.heap.size wv w1) := Lib.hid (by rw [← hnw1]; exact But.to_below Kw701.out (Nat.le_refl _) (fun _ _ q => q))
  rw [hnw1]
  clear hnw1 hHeld
  try clear hHeld2
  have z9 := (HE.out.step Bw1.out).laid.e2
  unfold errV at z9
  go_wp2_with fail
  go_ret
  exact ⟨rfl, HBv.out.trans (Bw1.out.mono HBv.out.size)⟩

set_option maxRecDepth 100000 in
set_option maxHeartbeats 8000000 in
theorem kver_idx (a : Nat → Addr) (B : Nat) (p : List UInt8) (h : Nat) (x : Int) (m n : Nat) (t : ByteArray) (A A2 : Option Addr) (c c2 : Nat) (w : World) (hE : Env B a w) (hp : p.length = 32) (h6 : h ≤ 6) (hmy : 0 ≤ x ∧ x < 64 ∧ m = 67 ∧ n ≤ 6) (hx : ((2 ^ h : Nat) : Int) ≤ x) :
    Calls Tryd.prog 13 #[hv p, .int .i64 (h : Int), .string t, .agg #[.int .i64 x, .slice A m c, .slice A2 n c2]] w fun ev w' => ev = .returned (errV a 2) ∧ Below w.heap.size w w' := by
  obtain ⟨v0, ev0, Hv0, Zv0, Iv0, Ov0⟩ := row_of p hp
  obtain ⟨sv, hsv9⟩ : ∃ y : Array Value, #[.int .i64 x, .slice A m c, .slice A2 n c2] = y := ⟨_, rfl⟩
  have Zsv : Hid (sv.size = 3) := Lib.hid (by rw [← hsv9]; rfl)
  have Isv : Hid ((Tryd.prog.info? 35).map (·.size) = some sv.size) := Lib.hid (by rw [Zsv.out]; kernel_rfl)
  obtain ⟨wv, hwv⟩ : ∃ y9 : World, ((w.alloc (.cells v0 23)).alloc (.cells sv 35)) = y9 := ⟨_, rfl⟩
  have HBv : Hid (Below w.heap.size w wv) := Lib.hid (by rw [← hwv]; exact (((Below.refl _ _).alloc (by simp <;> omega) _).alloc (by simp <;> omega) _))
  have HSV : Hid (wv.heap.size = w.heap.size + 2) := Lib.hid (by rw [← hwv]; simp)
  have RV : Hid (wv.heap[w.heap.size]? = some (.cells v0 23 (0, 0))) := Lib.hid (by rw [← hwv]; exact (((Below.refl (w.alloc (.cells v0 23)).heap.size (w.alloc (.cells v0 23))).alloc (Nat.le_refl _) _).block w.heap.size (by simp <;> omega)).trans (heap_at _ _ _ (by simp <;> omega)))
  have RS0 : Hid (wv.heap[(w.heap.size + 1)]? = some (.cells sv 35 (0, 0))) := Lib.hid (by rw [← hwv]; exact heap_at _ _ _ (by simp <;> omega))
  have HWV := Lib.hid hwv
  have hsvv := HSV.out
  have RS : Hid (wv.heap[w.heap.size + 1]? = some (.cells sv 35 (0, 0))) := RS0
  have HMAY : Hid (∀ w', Calls Tryd.prog 27 #[.agg sv] w' fun ev w2 => ev = .returned (.bool true) ∧ Below w'.heap.size w' w2) := Lib.hid (fun w' => by
    have h9 := may_any x m n A A2 c c2 w'
    rw [show decide (0 ≤ x ∧ x < 64 ∧ m = 67 ∧ n ≤ 6) = true from decide_eq_true hmy, hsv9] at h9
    exact h9)
  have KSA : ∀ w' : World, w'.heap[w.heap.size + 1]? = some (.cells sv 35 (0, 0)) → w'.cell? ⟨w.heap.size + 1, 0, none⟩ = some (.int .i64 x) ∧ w'.cell? ⟨w.heap.size + 1, 1, none⟩ = some (.slice A m c) ∧ w'.cell? ⟨w.heap.size + 1, 2, none⟩ = some (.slice A2 n c2) := fun w' hg => by
    rw [← hsv9] at hg
    exact ⟨(cell_of_row w' _ 0 _ 35 (0, 0) hg).trans rfl, (cell_of_row w' _ 1 _ 35 (0, 0) hg).trans rfl, (cell_of_row w' _ 2 _ 35 (0, 0) hg).trans rfl⟩
  have KS : Hid (∀ w', But (fun _ => False) wv w' → w'.cell? ⟨w.heap.size + 1, 0, none⟩ = some (.int .i64 x) ∧ w'.cell? ⟨w.heap.size + 1, 1, none⟩ = some (.slice A m c) ∧ w'.cell? ⟨w.heap.size + 1, 2, none⟩ = some (.slice A2 n c2)) := Lib.hid (fun w' hw => KSA w' ((hw.same _ (by omega) (fun q => q)).trans RS.out))
  have HE := Lib.hid (hE.step HBv.out)
  have hPW : (2 : Nat) ^ h ≤ 64 := Nat.pow_le_pow_right (n := 2) (by omega) (show h ≤ 6 from h6)
  obtain ⟨Q, hQ⟩ : ∃ Q, 2 ^ h = Q := ⟨_, rfl⟩
  rw [hQ] at hx hPW
  have hq64 : -9223372036854775808 ≤ (Q : Int) ∧ (Q : Int) ≤ 9223372036854775807 := by clear hQ; exact ⟨by omega, by omega⟩
  have hQ2 : ((2 : Int) ^ h) = (Q : Int) := by rw [← hQ]; push_cast; rfl
  have e4 : wrap64 ((2 : Int) ^ h) = (Q : Int) := by
    rw [hQ2]
    exact IntWalk.wrap64_in _ hq64
  have e6 : IntKind.i64.wrap ((2 : Int) ^ h) = (Q : Int) := by
    rw [hQ2]
    exact IntWalk.i64_in _ hq64
  have g1 : decide ((Q : Int) ≤ x) = true := by clear hQ2 e4 e6; simp; omega
  have g2 : decide ((6 : Int) < h) = false := by simp; omega
  have g3 : decide ((h : Int) < 0) = false := by simp
  have k0 : (0 : Int) ≤ h := by omega
  rw [ev0, hsv9]
  clear KSA hwv hsv9 hE hp ev0 hmy hx hQ hQ2 hq64
  go_enter Tryd.func13, Tryd.ntmps13
  go_upto_region 1 with fail
  rw [HWV.out]
  refine wp_region_held_drew (S := But (fun _ => False) wv) (by kernel_rfl) (But.refl _ _).drew (fun hHeld => ?_)
  refine tk (i := 0) (v := ?v75) rfl ?y75 ?r75
  case y75 => (intro w hSw; (try dsimp only at hSw); go_simp; (try with_reducible rfl))
  try simp only [pu]
  refine tk (i := 1) (v := ?v76) rfl ?y76 ?r76
  case y76 => (intro w hSw; (try dsimp only at hSw); go_simp; (try with_reducible rfl))
  try simp only [pu]
  refine tk (i := 2) (v := ?v77) rfl ?y77 ?r77
  case y77 => (intro w hSw; (try dsimp only at hSw); go_simp; (try with_reducible rfl))
  try simp only [pu]
  refine tk (i := 3) (v := ?v78) rfl ?y78 ?r78
  case y78 => (intro w hSw; (try dsimp only at hSw); go_simp; (try with_reducible rfl))
  try simp only [pu]
  refine tk (i := 4) (v := ?v79) rfl ?y79 ?r79
  case y79 => (intro w hSw; (try dsimp only at hSw); go_simp; (try with_reducible rfl))
  try simp only [pu]
  refine tk (i := 5) (v := ?v80) rfl ?y80 ?r80
  case y80 => (intro w hSw; (try dsimp only at hSw); go_simp; (try with_reducible rfl))
  try simp only [pu]
  refine tk (i := 6) (v := ?v81) rfl ?y81 ?r81
  case y81 => (intro w hSw; (try dsimp only at hSw); go_simp; (try with_reducible rfl))
  try simp only [pu]
  refine tw (i := 7) rfl (yieldsIf_load_row (by rfl) 35 _ (by rfl) (w.heap.size + 1) (by rfl) 35 sv (0, 0) _ (fun w h => (h.same _ (by omega) (fun q => q)).trans RS.out) Tryd.underlying35 (by rfl) Isv.out) ?_
  try simp only [pu]
  refine wpAnyH_ready (rs := [8]) (by kernel_rfl) (by simp) ?_
  refine AllReadyH.cons (i := 8) rfl (fun K2 hK2 => ?_) AllReadyH.nil
  go_simp
  go_at_call 27
  refine (HMAY.out wv.drew).mono ?_
  rintro ev w702 ⟨rfl, bw702⟩
  try go_wp2_with fail
  obtain ⟨Kw702, fw702⟩ := st_call ((But.refl (fun _ => False) wv).drew) bw702
  have Kw702 := Lib.hid Kw702
  clear bw702 fw702
  refine hK2.out _ _ Kw702.out (fun hHeld2 => ?_)
  clear hK2 K2
  try simp only [pu]
  refine tk (i := 9) (v := ?v83) rfl ?y83 ?r83
  case y83 => (intro w hSw; (try dsimp only at hSw); go_simp; (try with_reducible rfl))
  try simp only [pu]
  refine tk (i := 10) (v := ?v84) rfl ?y84 ?r84
  case y84 => (intro w hSw; (try dsimp only at hSw); go_simp; (try with_reducible rfl))
  try simp only [pu]
  refine tk (i := 11) (v := ?v85) rfl ?y85 ?r85
  case y85 => (intro w hSw; (try dsimp only at hSw); go_simp; (try with_reducible rfl))
  try simp only [pu]
  refine tk (i := 12) (v := ?v86) rfl ?y86 ?r86
  case y86 => (intro w hSw; (try dsimp only at hSw); go_simp; (try with_reducible rfl))
  try simp only [pu]
  refine tk (i := 13) (v := ?v87) rfl ?y87 ?r87
  case y87 => (intro w hSw; (try dsimp only at hSw); obtain ⟨z0, z1, z2⟩ := KS.out w hSw; go_simp; (try with_reducible rfl))
  try simp only [pu]
  refine tk (i := 14) (v := ?v88) rfl ?y88 ?r88
  case y88 => (intro w hSw; (try dsimp only at hSw); go_simp; (try with_reducible rfl))
  try simp only [pu]
  refine tk (i := 15) (v := ?v89) rfl ?y89 ?r89
  case y89 => (intro w hSw; (try dsimp only at hSw); go_simp; (try with_reducible rfl))
  try simp only [pu]
  refine tk (i := 16) (v := ?v90) rfl ?y90 ?r90
  case y90 => (intro w hSw; (try dsimp only at hSw); go_simp; (try with_reducible rfl))
  try simp only [pu]
  refine tk (i := 17) (v := ?v91) rfl ?y91 ?r91
  case y91 => (intro w hSw; (try dsimp only at hSw); go_simp; (try with_reducible rfl))
  try simp only [pu]
  refine tk (i := 18) (v := ?v92) rfl ?y92 ?r92
  case y92 => (intro w hSw; (try dsimp only at hSw); go_simp; (try with_reducible rfl))
  try simp only [pu]
  refine ts (i := 19) rfl ?_
  try simp only [pu]
  refine ts (i := 20) rfl ?_
  try simp only [pu]
  refine ts (i := 21) rfl ?_
  try simp only [pu]
  refine ts (i := 22) rfl ?_
  try simp only [pu]
  refine ts (i := 23) rfl ?_
  try simp only [pu]
  refine tk (i := 24) (v := ?v98) rfl ?y98 ?r98
  case y98 => (intro w hSw; (try dsimp only at hSw); go_simp; (try with_reducible rfl))
  try simp only [pu]
  refine wpAnyH_done (by kernel_rfl) ?_ _
  obtain ⟨w1, hnw1⟩ : ∃ y9 : World, w702 = y9 := ⟨_, rfl⟩
  have Bw1 : Hid (Below wv.heap.size wv w1) := Lib.hid (by rw [← hnw1]; exact But.to_below Kw702.out (Nat.le_refl _) (fun _ _ q => q))
  rw [hnw1]
  clear hnw1 hHeld
  try clear hHeld2
  have z9 := (HE.out.step Bw1.out).laid.e2
  unfold errV at z9
  go_wp2_with fail
  go_ret
  exact ⟨rfl, HBv.out.trans (Bw1.out.mono HBv.out.size)⟩

set_option maxRecDepth 100000 in
set_option maxHeartbeats 8000000 in
theorem kver_len (a : Nat → Addr) (B : Nat) (p : List UInt8) (h : Nat) (x : Int) (m n : Nat) (t : ByteArray) (A A2 : Option Addr) (c c2 : Nat) (w : World) (hE : Env B a w) (hp : p.length = 32) (h6 : h ≤ 6) (hmy : 0 ≤ x ∧ x < 64 ∧ m = 67 ∧ n ≤ 6) (hx : x < ((2 ^ h : Nat) : Int)) (hn : n ≠ h) :
    Calls Tryd.prog 13 #[hv p, .int .i64 (h : Int), .string t, .agg #[.int .i64 x, .slice A m c, .slice A2 n c2]] w fun ev w' => ev = .returned (errV a 2) ∧ Below w.heap.size w w' := by
  obtain ⟨v0, ev0, Hv0, Zv0, Iv0, Ov0⟩ := row_of p hp
  obtain ⟨sv, hsv9⟩ : ∃ y : Array Value, #[.int .i64 x, .slice A m c, .slice A2 n c2] = y := ⟨_, rfl⟩
  have Zsv : Hid (sv.size = 3) := Lib.hid (by rw [← hsv9]; rfl)
  have Isv : Hid ((Tryd.prog.info? 35).map (·.size) = some sv.size) := Lib.hid (by rw [Zsv.out]; kernel_rfl)
  obtain ⟨wv, hwv⟩ : ∃ y9 : World, ((w.alloc (.cells v0 23)).alloc (.cells sv 35)) = y9 := ⟨_, rfl⟩
  have HBv : Hid (Below w.heap.size w wv) := Lib.hid (by rw [← hwv]; exact (((Below.refl _ _).alloc (by simp <;> omega) _).alloc (by simp <;> omega) _))
  have HSV : Hid (wv.heap.size = w.heap.size + 2) := Lib.hid (by rw [← hwv]; simp)
  have RV : Hid (wv.heap[w.heap.size]? = some (.cells v0 23 (0, 0))) := Lib.hid (by rw [← hwv]; exact (((Below.refl (w.alloc (.cells v0 23)).heap.size (w.alloc (.cells v0 23))).alloc (Nat.le_refl _) _).block w.heap.size (by simp <;> omega)).trans (heap_at _ _ _ (by simp <;> omega)))
  have RS0 : Hid (wv.heap[(w.heap.size + 1)]? = some (.cells sv 35 (0, 0))) := Lib.hid (by rw [← hwv]; exact heap_at _ _ _ (by simp <;> omega))
  have HWV := Lib.hid hwv
  have hsvv := HSV.out
  have RS : Hid (wv.heap[w.heap.size + 1]? = some (.cells sv 35 (0, 0))) := RS0
  have HMAY : Hid (∀ w', Calls Tryd.prog 27 #[.agg sv] w' fun ev w2 => ev = .returned (.bool true) ∧ Below w'.heap.size w' w2) := Lib.hid (fun w' => by
    have h9 := may_any x m n A A2 c c2 w'
    rw [show decide (0 ≤ x ∧ x < 64 ∧ m = 67 ∧ n ≤ 6) = true from decide_eq_true hmy, hsv9] at h9
    exact h9)
  have KSA : ∀ w' : World, w'.heap[w.heap.size + 1]? = some (.cells sv 35 (0, 0)) → w'.cell? ⟨w.heap.size + 1, 0, none⟩ = some (.int .i64 x) ∧ w'.cell? ⟨w.heap.size + 1, 1, none⟩ = some (.slice A m c) ∧ w'.cell? ⟨w.heap.size + 1, 2, none⟩ = some (.slice A2 n c2) := fun w' hg => by
    rw [← hsv9] at hg
    exact ⟨(cell_of_row w' _ 0 _ 35 (0, 0) hg).trans rfl, (cell_of_row w' _ 1 _ 35 (0, 0) hg).trans rfl, (cell_of_row w' _ 2 _ 35 (0, 0) hg).trans rfl⟩
  have KS : Hid (∀ w', But (fun _ => False) wv w' → w'.cell? ⟨w.heap.size + 1, 0, none⟩ = some (.int .i64 x) ∧ w'.cell? ⟨w.heap.size + 1, 1, none⟩ = some (.slice A m c) ∧ w'.cell? ⟨w.heap.size + 1, 2, none⟩ = some (.slice A2 n c2)) := Lib.hid (fun w' hw => KSA w' ((hw.same _ (by omega) (fun q => q)).trans RS.out))
  have HE := Lib.hid (hE.step HBv.out)
  have hPW : (2 : Nat) ^ h ≤ 64 := Nat.pow_le_pow_right (n := 2) (by omega) (show h ≤ 6 from h6)
  obtain ⟨Q, hQ⟩ : ∃ Q, 2 ^ h = Q := ⟨_, rfl⟩
  rw [hQ] at hx hPW
  have hq64 : -9223372036854775808 ≤ (Q : Int) ∧ (Q : Int) ≤ 9223372036854775807 := by clear hQ; exact ⟨by omega, by omega⟩
  have hQ2 : ((2 : Int) ^ h) = (Q : Int) := by rw [← hQ]; push_cast; rfl
  have e4 : wrap64 ((2 : Int) ^ h) = (Q : Int) := by
    rw [hQ2]
    exact IntWalk.wrap64_in _ hq64
  have e6 : IntKind.i64.wrap ((2 : Int) ^ h) = (Q : Int) := by
    rw [hQ2]
    exact IntWalk.i64_in _ hq64
  have g1 : decide ((Q : Int) ≤ x) = false := by clear hQ2 e4 e6; simp; omega
  have g2 : decide ((6 : Int) < h) = false := by simp; omega
  have g3 : decide ((h : Int) < 0) = false := by simp
  have k0 : (0 : Int) ≤ h := by omega
  have g4 : ((n : Int) != (h : Int)) = true := by simp; omega
  rw [ev0, hsv9]
  clear KSA hwv hsv9 hE hp ev0 hmy hx hQ hQ2 hn hq64
  go_enter Tryd.func13, Tryd.ntmps13
  go_upto_region 1 with fail
  rw [HWV.out]
  refine wp_region_held_drew (S := But (fun _ => False) wv) (by kernel_rfl) (But.refl _ _).drew (fun hHeld => ?_)
  refine tk (i := 0) (v := ?v99) rfl ?y99 ?r99
  case y99 => (intro w hSw; (try dsimp only at hSw); go_simp; (try with_reducible rfl))
  try simp only [pu]
  refine tk (i := 1) (v := ?v100) rfl ?y100 ?r100
  case y100 => (intro w hSw; (try dsimp only at hSw); go_simp; (try with_reducible rfl))
  try simp only [pu]
  refine tk (i := 2) (v := ?v101) rfl ?y101 ?r101
  case y101 => (intro w hSw; (try dsimp only at hSw); go_simp; (try with_reducible rfl))
  try simp only [pu]
  refine tk (i := 3) (v := ?v102) rfl ?y102 ?r102
  case y102 => (intro w hSw; (try dsimp only at hSw); go_simp; (try with_reducible rfl))
  try simp only [pu]
  refine tk (i := 4) (v := ?v103) rfl ?y103 ?r103
  case y103 => (intro w hSw; (try dsimp only at hSw); go_simp; (try with_reducible rfl))
  try simp only [pu]
  refine tk (i := 5) (v := ?v104) rfl ?y104 ?r104
  case y104 => (intro w hSw; (try dsimp only at hSw); go_simp; (try with_reducible rfl))
  try simp only [pu]
  refine tk (i := 6) (v := ?v105) rfl ?y105 ?r105
  case y105 => (intro w hSw; (try dsimp only at hSw); go_simp; (try with_reducible rfl))
  try simp only [pu]
  refine tw (i := 7) rfl (yieldsIf_load_row (by rfl) 35 _ (by rfl) (w.heap.size + 1) (by rfl) 35 sv (0, 0) _ (fun w h => (h.same _ (by omega) (fun q => q)).trans RS.out) Tryd.underlying35 (by rfl) Isv.out) ?_
  try simp only [pu]
  refine wpAnyH_ready (rs := [8]) (by kernel_rfl) (by simp) ?_
  refine AllReadyH.cons (i := 8) rfl (fun K2 hK2 => ?_) AllReadyH.nil
  go_simp
  go_at_call 27
  refine (HMAY.out wv.drew).mono ?_
  rintro ev w703 ⟨rfl, bw703⟩
  try go_wp2_with fail
  obtain ⟨Kw703, fw703⟩ := st_call ((But.refl (fun _ => False) wv).drew) bw703
  have Kw703 := Lib.hid Kw703
  clear bw703 fw703
  refine hK2.out _ _ Kw703.out (fun hHeld2 => ?_)
  clear hK2 K2
  try simp only [pu]
  refine tk (i := 9) (v := ?v107) rfl ?y107 ?r107
  case y107 => (intro w hSw; (try dsimp only at hSw); go_simp; (try with_reducible rfl))
  try simp only [pu]
  refine tk (i := 10) (v := ?v108) rfl ?y108 ?r108
  case y108 => (intro w hSw; (try dsimp only at hSw); go_simp; (try with_reducible rfl))
  try simp only [pu]
  refine tk (i := 11) (v := ?v109) rfl ?y109 ?r109
  case y109 => (intro w hSw; (try dsimp only at hSw); go_simp; (try with_reducible rfl))
  try simp only [pu]
  refine tk (i := 12) (v := ?v110) rfl ?y110 ?r110
  case y110 => (intro w hSw; (try dsimp only at hSw); go_simp; (try with_reducible rfl))
  try simp only [pu]
  refine tk (i := 13) (v := ?v111) rfl ?y111 ?r111
  case y111 => (intro w hSw; (try dsimp only at hSw); obtain ⟨z0, z1, z2⟩ := KS.out w hSw; go_simp; (try with_reducible rfl))
  try simp only [pu]
  refine tk (i := 14) (v := ?v112) rfl ?y112 ?r112
  case y112 => (intro w hSw; (try dsimp only at hSw); go_simp; (try with_reducible rfl))
  try simp only [pu]
  refine tk (i := 15) (v := ?v113) rfl ?y113 ?r113
  case y113 => (intro w hSw; (try dsimp only at hSw); go_simp; (try with_reducible rfl))
  try simp only [pu]
  refine tk (i := 16) (v := ?v114) rfl ?y114 ?r114
  case y114 => (intro w hSw; (try dsimp only at hSw); go_simp; (try with_reducible rfl))
  try simp only [pu]
  refine tk (i := 17) (v := ?v115) rfl ?y115 ?r115
  case y115 => (intro w hSw; (try dsimp only at hSw); go_simp; (try with_reducible rfl))
  try simp only [pu]
  refine tk (i := 18) (v := ?v116) rfl ?y116 ?r116
  case y116 => (intro w hSw; (try dsimp only at hSw); go_simp; (try with_reducible rfl))
  try simp only [pu]
  refine tk (i := 19) (v := ?v117) rfl ?y117 ?r117
  case y117 => (intro w hSw; (try dsimp only at hSw); go_simp; (try with_reducible rfl))
  try simp only [pu]
  refine tk (i := 20) (v := ?v118) rfl ?y118 ?r118
  case y118 => (intro w hSw; (try dsimp only at hSw); obtain ⟨z0, z1, z2⟩ := KS.out w hSw; go_simp; (try with_reducible rfl))
  try simp only [pu]
  refine tk (i := 21) (v := ?v119) rfl ?y119 ?r119
  case y119 => (intro w hSw; (try dsimp only at hSw); go_simp; (try with_reducible rfl))
  try simp only [pu]
  refine tk (i := 22) (v := ?v120) rfl ?y120 ?r120
  case y120 => (intro w hSw; (try dsimp only at hSw); go_simp; (try with_reducible rfl))
  try simp only [pu]
  refine tk (i := 23) (v := ?v121) rfl ?y121 ?r121
  case y121 => (intro w hSw; (try dsimp only at hSw); go_simp; (try with_reducible rfl))
  try simp only [pu]
  refine tk (i := 24) (v := ?v122) rfl ?y122 ?r122
  case y122 => (intro w hSw; (try dsimp only at hSw); go_simp; (try with_reducible rfl))
  try simp only [pu]
  refine wpAnyH_done (by kernel_rfl) ?_ _
  obtain ⟨w1, hnw1⟩ : ∃ y9 : World, w703 = y9 := ⟨_, rfl⟩
  have Bw1 : Hid (Below wv.heap.size wv w1) := Lib.hid (by rw [← hnw1]; exact But.to_below Kw703.out (Nat.le_refl _) (fun _ _ q => q))
  rw [hnw1]
  clear hnw1 hHeld
  try clear hHeld2
  have z9 := (HE.out.step Bw1.out).laid.e2
  unfold errV at z9
  go_wp2_with fail
  go_ret
  exact ⟨rfl, HBv.out.trans (Bw1.out.mono HBv.out.size)⟩

set_option maxRecDepth 100000 in
set_option maxHeartbeats 8000000 in
theorem kver_wrong (a : Nat → Addr) (B : Nat) (p : List UInt8) (n x : Nat) (t : ByteArray) (A A2 : Option Addr) (c c2 : Nat) (C P : List (List UInt8)) (w : World) (hE : Env B a w) (hp : p.length = 32) (hn : n ≤ 6) (hx : x < 2 ^ n) (ht : t.size ≤ 9223372036854775807) (hC : HIn w A 67 c C) (hP : HIn w A2 n c2 P) (r : List UInt8) (hr : r.length = 32) (hne : r ≠ p) (hs : Says nodeH x (2 ^ n - 1) (kleafB (recB (msgB x (bOf t)) C)) P r) :
    Calls Tryd.prog 13 #[hv p, .int .i64 n, .string t, .agg #[.int .i64 x, .slice A 67 c, .slice A2 n c2]] w fun ev w' => ev = .returned (errV a 12) ∧ Below w.heap.size w w' := by
  obtain ⟨v0, ev0, Hv0, Zv0, Iv0, Ov0⟩ := row_of p hp
  obtain ⟨sv, hsv9⟩ : ∃ y : Array Value, #[.int .i64 x, .slice A 67 c, .slice A2 n c2] = y := ⟨_, rfl⟩
  have Zsv : Hid (sv.size = 3) := Lib.hid (by rw [← hsv9]; rfl)
  have Isv : Hid ((Tryd.prog.info? 35).map (·.size) = some sv.size) := Lib.hid (by rw [Zsv.out]; kernel_rfl)
  obtain ⟨wv, hwv⟩ : ∃ y9 : World, ((w.alloc (.cells v0 23)).alloc (.cells sv 35)) = y9 := ⟨_, rfl⟩
  have HBv : Hid (Below w.heap.size w wv) := Lib.hid (by rw [← hwv]; exact (((Below.refl _ _).alloc (by simp <;> omega) _).alloc (by simp <;> omega) _))
  have HSV : Hid (wv.heap.size = w.heap.size + 2) := Lib.hid (by rw [← hwv]; simp)
  have RV : Hid (wv.heap[w.heap.size]? = some (.cells v0 23 (0, 0))) := Lib.hid (by rw [← hwv]; exact (((Below.refl (w.alloc (.cells v0 23)).heap.size (w.alloc (.cells v0 23))).alloc (Nat.le_refl _) _).block w.heap.size (by simp <;> omega)).trans (heap_at _ _ _ (by simp <;> omega)))
  have RS0 : Hid (wv.heap[(w.heap.size + 1)]? = some (.cells sv 35 (0, 0))) := Lib.hid (by rw [← hwv]; exact heap_at _ _ _ (by simp <;> omega))
  have HWV := Lib.hid hwv
  have hPW : (2 : Nat) ^ n ≤ 64 := Nat.pow_le_pow_right (n := 2) (by omega) (show n ≤ 6 from hn)
  have hsvv := HSV.out
  have RS : Hid (wv.heap[w.heap.size + 1]? = some (.cells sv 35 (0, 0))) := RS0
  have HMAY : Hid (∀ w', Calls Tryd.prog 27 #[.agg sv] w' fun ev w2 => ev = .returned (.bool true) ∧ Below w'.heap.size w' w2) := Lib.hid (fun w' => by rw [← hsv9]; exact may_yes x n A A2 c c2 w' (by omega) hn)
  have KSA : ∀ w' : World, w'.heap[w.heap.size + 1]? = some (.cells sv 35 (0, 0)) → w'.cell? ⟨w.heap.size + 1, 0, none⟩ = some (.int .i64 x) ∧ w'.cell? ⟨w.heap.size + 1, 1, none⟩ = some (.slice A 67 c) ∧ w'.cell? ⟨w.heap.size + 1, 2, none⟩ = some (.slice A2 n c2) := fun w' hg => by
    rw [← hsv9] at hg
    exact ⟨(cell_of_row w' _ 0 _ 35 (0, 0) hg).trans rfl, (cell_of_row w' _ 1 _ 35 (0, 0) hg).trans rfl, (cell_of_row w' _ 2 _ 35 (0, 0) hg).trans rfl⟩
  have HKSA := Lib.hid KSA
  have KS : Hid (∀ w', But (fun _ => False) wv w' → w'.cell? ⟨w.heap.size + 1, 0, none⟩ = some (.int .i64 x) ∧ w'.cell? ⟨w.heap.size + 1, 1, none⟩ = some (.slice A 67 c) ∧ w'.cell? ⟨w.heap.size + 1, 2, none⟩ = some (.slice A2 n c2)) := Lib.hid (fun w' hw => KSA w' ((hw.same _ (by omega) (fun q => q)).trans RS.out))
  have e4 : wrap64 ((2 : Int) ^ n) = ((2 ^ n : Nat) : Int) := by
    rw [show ((2 : Int) ^ n) = ((2 ^ n : Nat) : Int) by push_cast; rfl]
    exact IntWalk.wrap64_in _ (by omega)
  have e6 : IntKind.i64.wrap ((2 : Int) ^ n) = ((2 ^ n : Nat) : Int) := by
    rw [show ((2 : Int) ^ n) = ((2 ^ n : Nat) : Int) by push_cast; rfl]
    exact IntWalk.i64_in _ (by omega)
  have e5 : IntKind.u64.wrap ((2 : Int) ^ n) = ((2 ^ n : Nat) : Int) := by
    rw [show ((2 : Int) ^ n) = ((2 ^ n : Nat) : Int) by push_cast; rfl]
    exact IntWalk.u64_in _ (by omega)
  have HX := Lib.hid (And.intro hx (And.intro hPW ht))
  have HE := Lib.hid (hE.step HBv.out)
  have HC := Lib.hid (hC.below HBv.out)
  have HP := Lib.hid (hP.below HBv.out)
  have HSS := Lib.hid hs
  have HPP := Lib.hid hp
  have HRN := Lib.hid (And.intro hr hne)
  have EV0 := Lib.hid ev0
  obtain ⟨Q, hQ⟩ : ∃ Q, 2 ^ n = Q := ⟨_, rfl⟩
  rw [hQ] at hx e4 e5 e6 hPW
  have HQ := Lib.hid hQ
  have g1 : decide ((Q : Int) ≤ x) = false := by simp; omega
  have g1n : decide (Q ≤ x) = false := by simp; omega
  have e7 : IntKind.u64.wrap (x : Int) = x := IntWalk.u64_in _ (by omega)
  have g2 : decide ((6 : Int) < n) = false := by simp; omega
  have g3 : decide ((n : Int) < 0) = false := by simp
  have k0 : (0 : Int) ≤ n := by omega
  rw [ev0, hsv9]
  clear KSA hwv hsv9 hE hC hP hs hp ev0 ht hx hQ hr hne
  go_enter Tryd.func13, Tryd.ntmps13
  go_upto_region 1 with fail
  rw [HWV.out]
  refine wp_region_held_drew (S := But (fun _ => False) wv) (by kernel_rfl) (But.refl _ _).drew (fun hHeld => ?_)
  refine tk (i := 0) (v := ?v52) rfl ?y52 ?r52
  case y52 => (intro w hSw; (try dsimp only at hSw); go_simp; (try with_reducible rfl))
  try simp only [pu]
  refine tk (i := 1) (v := ?v53) rfl ?y53 ?r53
  case y53 => (intro w hSw; (try dsimp only at hSw); go_simp; (try with_reducible rfl))
  try simp only [pu]
  refine tk (i := 2) (v := ?v54) rfl ?y54 ?r54
  case y54 => (intro w hSw; (try dsimp only at hSw); go_simp; (try with_reducible rfl))
  try simp only [pu]
  refine tk (i := 3) (v := ?v55) rfl ?y55 ?r55
  case y55 => (intro w hSw; (try dsimp only at hSw); go_simp; (try with_reducible rfl))
  try simp only [pu]
  refine tk (i := 4) (v := ?v56) rfl ?y56 ?r56
  case y56 => (intro w hSw; (try dsimp only at hSw); go_simp; (try with_reducible rfl))
  try simp only [pu]
  refine tk (i := 5) (v := ?v57) rfl ?y57 ?r57
  case y57 => (intro w hSw; (try dsimp only at hSw); go_simp; (try with_reducible rfl))
  try simp only [pu]
  refine tk (i := 6) (v := ?v58) rfl ?y58 ?r58
  case y58 => (intro w hSw; (try dsimp only at hSw); go_simp; (try with_reducible rfl))
  try simp only [pu]
  refine tw (i := 7) rfl (yieldsIf_load_row (by rfl) 35 _ (by rfl) (w.heap.size + 1) (by rfl) 35 sv (0, 0) _ (fun w h => (h.same _ (by omega) (fun q => q)).trans RS.out) Tryd.underlying35 (by rfl) Isv.out) ?_
  try simp only [pu]
  refine wpAnyH_ready (rs := [8]) (by kernel_rfl) (by simp) ?_
  refine AllReadyH.cons (i := 8) rfl (fun K2 hK2 => ?_) AllReadyH.nil
  go_simp
  go_at_call 27
  refine (HMAY.out wv.drew).mono ?_
  rintro ev w718 ⟨rfl, bw718⟩
  try go_wp2_with fail
  obtain ⟨Kw718, fw718⟩ := st_call ((But.refl (fun _ => False) wv).drew) bw718
  have Kw718 := Lib.hid Kw718
  clear bw718 fw718
  refine hK2.out _ _ Kw718.out (fun hHeld2 => ?_)
  clear hK2 K2
  try simp only [pu]
  refine tk (i := 9) (v := ?v60) rfl ?y60 ?r60
  case y60 => (intro w hSw; (try dsimp only at hSw); go_simp; (try with_reducible rfl))
  try simp only [pu]
  refine tk (i := 10) (v := ?v61) rfl ?y61 ?r61
  case y61 => (intro w hSw; (try dsimp only at hSw); go_simp; (try with_reducible rfl))
  try simp only [pu]
  refine tk (i := 11) (v := ?v62) rfl ?y62 ?r62
  case y62 => (intro w hSw; (try dsimp only at hSw); go_simp; (try with_reducible rfl))
  try simp only [pu]
  refine tk (i := 12) (v := ?v63) rfl ?y63 ?r63
  case y63 => (intro w hSw; (try dsimp only at hSw); go_simp; (try with_reducible rfl))
  try simp only [pu]
  refine tk (i := 13) (v := ?v64) rfl ?y64 ?r64
  case y64 => (intro w hSw; (try dsimp only at hSw); obtain ⟨z0, z1, z2⟩ := KS.out w hSw; go_simp; (try with_reducible rfl))
  try simp only [pu]
  refine tk (i := 14) (v := ?v65) rfl ?y65 ?r65
  case y65 => (intro w hSw; (try dsimp only at hSw); go_simp; (try with_reducible rfl))
  try simp only [pu]
  refine tk (i := 15) (v := ?v66) rfl ?y66 ?r66
  case y66 => (intro w hSw; (try dsimp only at hSw); go_simp; (try with_reducible rfl))
  try simp only [pu]
  refine tk (i := 16) (v := ?v67) rfl ?y67 ?r67
  case y67 => (intro w hSw; (try dsimp only at hSw); go_simp; (try with_reducible rfl))
  try simp only [pu]
  refine tk (i := 17) (v := ?v68) rfl ?y68 ?r68
  case y68 => (intro w hSw; (try dsimp only at hSw); go_simp; (try with_reducible rfl))
  try simp only [pu]
  refine tk (i := 18) (v := ?v69) rfl ?y69 ?r69
  case y69 => (intro w hSw; (try dsimp only at hSw); go_simp; (try with_reducible rfl))
  try simp only [pu]
  refine tk (i := 19) (v := ?v70) rfl ?y70 ?r70
  case y70 => (intro w hSw; (try dsimp only at hSw); go_simp; (try with_reducible rfl))
  try simp only [pu]
  refine tk (i := 20) (v := ?v71) rfl ?y71 ?r71
  case y71 => (intro w hSw; (try dsimp only at hSw); obtain ⟨z0, z1, z2⟩ := KS.out w hSw; go_simp; (try with_reducible rfl))
  try simp only [pu]
  refine tk (i := 21) (v := ?v72) rfl ?y72 ?r72
  case y72 => (intro w hSw; (try dsimp only at hSw); go_simp; (try with_reducible rfl))
  try simp only [pu]
  refine tk (i := 22) (v := ?v73) rfl ?y73 ?r73
  case y73 => (intro w hSw; (try dsimp only at hSw); go_simp; (try with_reducible rfl))
  try simp only [pu]
  refine tk (i := 23) (v := ?v74) rfl ?y74 ?r74
  case y74 => (intro w hSw; (try dsimp only at hSw); go_simp; (try with_reducible rfl))
  try simp only [pu]
  refine tk (i := 24) (v := ?v75) rfl ?y75 ?r75
  case y75 => (intro w hSw; (try dsimp only at hSw); go_simp; (try with_reducible rfl))
  try simp only [pu]
  refine wpAnyH_done (by kernel_rfl) ?_ _
  obtain ⟨w1, hnw1⟩ : ∃ y9 : World, w718 = y9 := ⟨_, rfl⟩
  have Bw1 : Hid (Below wv.heap.size wv w1) := Lib.hid (by rw [← hnw1]; exact But.to_below Kw718.out (Nat.le_refl _) (fun _ _ q => q))
  rw [hnw1]
  clear hnw1 hHeld hHeld2
  have KS1 : Hid (∀ w', But (fun _ => False) w1 w' → w'.cell? ⟨w.heap.size + 1, 0, none⟩ = some (.int .i64 x) ∧ w'.cell? ⟨w.heap.size + 1, 1, none⟩ = some (.slice A 67 c) ∧ w'.cell? ⟨w.heap.size + 1, 2, none⟩ = some (.slice A2 n c2)) := Lib.hid (fun w' hw => HKSA.out w' ((hw.same _ (by have := Bw1.out.size; omega) (fun q => q)).trans ((Bw1.out.block _ (by omega)).trans RS.out)))
  obtain ⟨vm, evm, Hvm, Zvm, Ivm, Ovm⟩ := row_of (msgB x (bOf t)) (msgB_length _ _)
  obtain ⟨vr, evr, Hvr, Zvr, Ivr, Ovr⟩ := row_of (recB (msgB x (bOf t)) C) (endB_length _)
  obtain ⟨vl, evl, Hvl, Zvl, Ivl, Ovl⟩ := row_of (kleafB (recB (msgB x (bOf t)) C)) (kleafB_length _)
  have HE1 := Lib.hid (HE.out.step Bw1.out)
  have HKW := Lib.hid (fun (w' : World) (h : Below w1.heap.size w1 w') => (HE1.out.step h))
  have HME : Hid (∀ w', Below w1.heap.size w1 w' → Calls Tryd.prog 23 #[.int .i64 x, .string t] w' fun ev w3 => ev = .returned (.agg vm) ∧ Below w'.heap.size w' w3) := Lib.hid (fun w' hb => by
    have := msg_any x t w' (by have := HX.out; omega) HX.out.2.2 (HKW.out w' hb).tab
    rw [evm] at this; exact this)
  have HRC : Hid (∀ w', Below w1.heap.size w1 w' → Calls Tryd.prog 28 #[.agg vm, .slice A 67 c] w' fun ev w3 => ev = .returned (.tuple #[.agg vr, .nilIface]) ∧ Below w'.heap.size w' w3) := Lib.hid (fun w' hb => by
    have := rec_any (msgB x (bOf t)) A c C w' (msgB_length _ _) ((HC.out.below Bw1.out).below hb) (HKW.out w' hb).tab
    rw [evm, evr] at this; exact this)
  have hs1 := Bw1.out.size
  have HKL : Hid (∀ w', Below w1.heap.size w1 w' → Calls Tryd.prog 19 #[.agg vr] w' fun ev w3 => ev = .returned (.agg vl) ∧ Below w'.heap.size w' w3) := Lib.hid (fun w' hb => by
    have := kleaf_any (recB (msgB x (bOf t)) C) w' (endB_length _) (HKW.out w' hb).tab
    rw [evr, evl] at this; exact this)
  have HIN : Hid (∀ w', Below w1.heap.size w1 w' → Calls Tryd.prog 29 #[.int .u64 x, .int .u64 Q, .agg vl, .slice A2 n c2, .agg v0] w' fun ev w3 => ev = .returned (errV a 10) ∧ Below w'.heap.size w' w3) := Lib.hid (fun w' hb => by
    have := vincl_bad a B x Q (kleafB (recB (msgB x (bOf t)) C)) P r p A2 n c2 w' (HKW.out w' hb) (kleafB_length _) HRN.out.1 HPP.out HRN.out.2 ((HP.out.below Bw1.out).below hb) (by rw [← HQ.out]; exact HX.out.1) (by omega) (by rw [← HQ.out]; exact HSS.out) (by omega)
    rw [EV0.out, evl] at this; exact this)
  clear evm evr evl
  unfold errV at HIN
  go_upto_region 3 with fail
  refine wp_region_held_drew (S := But (fun _ => False) w1) (by kernel_rfl) (But.refl _ _).drew (fun hHeld => ?_)
  refine tk (i := 0) (v := ?v1) rfl ?y1 ?r1
  case y1 => (intro w hSw; (try dsimp only at hSw); go_simp; (try with_reducible rfl))
  try simp only [pu]
  refine tk (i := 1) (v := ?v2) rfl ?y2 ?r2
  case y2 => (intro w hSw; (try dsimp only at hSw); obtain ⟨z0, z1, z2⟩ := KS1.out w hSw; go_simp; (try with_reducible rfl))
  try simp only [pu]
  refine tk (i := 2) (v := ?v3) rfl ?y3 ?r3
  case y3 => (intro w hSw; (try dsimp only at hSw); go_simp; (try with_reducible rfl))
  try simp only [pu]
  refine tk (i := 4) (v := ?v4) rfl ?y4 ?r4
  case y4 => (intro w hSw; (try dsimp only at hSw); go_simp; (try with_reducible rfl))
  try simp only [pu]
  refine tk (i := 5) (v := ?v5) rfl ?y5 ?r5
  case y5 => (intro w hSw; (try dsimp only at hSw); obtain ⟨z0, z1, z2⟩ := KS1.out w hSw; go_simp; (try with_reducible rfl))
  try simp only [pu]
  refine wpAnyH_ready (rs := [3, 10]) (by kernel_rfl) (by simp) ?_
  refine AllReadyH.cons (i := 3) rfl (fun K2 hK2 => ?_) ?more6
  · skip
    go_simp
    go_at_call 23
    refine (HME.out w1.drew (But.to_below ((But.refl (fun _ => False) w1).drew) (Nat.le_refl _) (fun _ _ q => q))).mono ?_
    rintro ev w701 ⟨rfl, bw701⟩
    try go_wp2_with fail
    obtain ⟨Kw701, fw701⟩ := st_call ((But.refl (fun _ => False) w1).drew) bw701
    have Kw701 := Lib.hid Kw701
    clear bw701 fw701
    refine hK2.out _ _ Kw701.out (fun hHeld2 => ?_)
    clear hK2 K2
    try simp only [pu]
    refine wpAnyH_ready (rs := [6, 10]) (by kernel_rfl) (by simp) ?_
    refine AllReadyH.cons (i := 6) rfl (fun K2 hK2 => ?_) ?more7
    · skip
      go_simp
      go_at_call 28
      refine (HRC.out w701 (But.to_below Kw701.out (Nat.le_refl _) (fun _ _ q => q))).mono ?_
      rintro ev w702 ⟨rfl, bw702⟩
      try go_wp2_with fail
      obtain ⟨Kw702, fw702⟩ := st_call Kw701.out bw702
      have Kw702 := Lib.hid Kw702
      clear bw702 fw702
      refine hK2.out _ _ Kw702.out (fun hHeld2 => ?_)
      clear hK2 K2
      try simp only [pu]
      refine tk (i := 7) (v := ?v8) rfl ?y8 ?r8
      case y8 => (intro w hSw; (try dsimp only at hSw); go_simp; (try with_reducible rfl))
      try simp only [pu]
      refine tk (i := 8) (v := ?v9) rfl ?y9 ?r9
      case y9 => (intro w hSw; (try dsimp only at hSw); go_simp; (try with_reducible rfl))
      try simp only [pu]
      refine tk (i := 9) (v := ?v10) rfl ?y10 ?r10
      case y10 => (intro w hSw; (try dsimp only at hSw); go_simp; (try with_reducible rfl))
      try simp only [pu]
      refine wpAnyH_ready (rs := [10]) (by kernel_rfl) (by simp) ?_
      refine AllReadyH.cons (i := 10) rfl (fun K2 hK2 => ?_) AllReadyH.nil
      go_simp
      obtain ⟨w703, hw703⟩ : ∃ x, (w702.alloc (.cells (List.replicate 32 (Value.int .u8 0)).toArray 23)) = x := ⟨_, rfl⟩
      obtain ⟨g703, hg703⟩ : ∃ x, w702.heap.size = x := ⟨_, rfl⟩
      obtain ⟨Kw703, Tw703_0, qw703, fw703⟩ := st_alloc Kw702.out hw703 hg703
      simp only [List.replicate] at hw703; rw [hw703, hg703]; clear hw703 hg703
      have Kw703 := Lib.hid Kw703
      have Tw703_0 := Lib.hid Tw703_0
      clear fw703
      refine hK2.out _ _ Kw703.out (fun hHeld2 => ?_)
      clear hK2 K2
      try simp only [pu]
      refine wpAnyH_ready (rs := [11]) (by kernel_rfl) (by simp) ?_
      refine AllReadyH.cons (i := 11) rfl (fun K2 hK2 => ?_) AllReadyH.nil
      rw [if_pos (by rfl)]
      refine wp_store_row 23 _ _ rfl g703 vr rfl rfl 23 _ Tw703_0.out Ivr.out (by rw [Zvr.out]; rfl) Ovr.out ?_
      obtain ⟨w704, hw704⟩ : ∃ x, w703.setRow g703 vr = x := ⟨_, rfl⟩
      obtain ⟨Kw704, Tw704_0, fw704⟩ := st_row Kw703.out hw704 (fun h => absurd h (by omega)) Tw703_0.out
      have Kw704 := Lib.hid Kw704
      have Tw704_0 := Lib.hid Tw704_0
      clear fw704
      rw [hw704]
      clear hw704
      refine hK2.out _ _ Kw704.out (fun hHeld2 => ?_)
      clear hK2 K2
      try simp only [pu]
      refine tk (i := 12) (v := ?v11) rfl ?y11 ?r11
      case y11 => (intro w hSw; (try dsimp only at hSw); go_simp; (try with_reducible rfl))
      try simp only [pu]
      refine wpAnyH_done (by kernel_rfl) ?_ _
      obtain ⟨w3, hnw3⟩ : ∃ y9 : World, w704 = y9 := ⟨_, rfl⟩
      have Bw3 : Hid (Below w1.heap.size w1 w3) := Lib.hid (by rw [← hnw3]; exact But.to_below Kw704.out (Nat.le_refl _) (fun _ _ q => q))
      have TG : Hid (w3.heap[g703]? = some (.cells vr 23 (0, 0))) := Lib.hid (by rw [← hnw3]; exact Tw704_0.out)
      rw [hnw3]
      clear hnw3 hHeld hHeld2
      obtain ⟨g9, hg9⟩ : ∃ y : Nat, g703 = y := ⟨_, rfl⟩
      rw [hg9] at TG ⊢
      clear hg9
      have KS3 : Hid (∀ w', But (fun _ => False) w3 w' → w'.cell? ⟨w.heap.size + 1, 0, none⟩ = some (.int .i64 x) ∧ w'.cell? ⟨w.heap.size + 1, 1, none⟩ = some (.slice A 67 c) ∧ w'.cell? ⟨w.heap.size + 1, 2, none⟩ = some (.slice A2 n c2)) := Lib.hid (fun w' hw => HKSA.out w' ((hw.same _ (by have := Bw3.out.size; omega) (fun q => q)).trans ((Bw3.out.block _ (by omega)).trans ((Bw1.out.block _ (by omega)).trans RS.out))))
      have RV3 : Hid (w3.heap[w.heap.size]? = some (.cells v0 23 (0, 0))) := Lib.hid ((Bw3.out.block _ (by omega)).trans ((Bw1.out.block _ (by omega)).trans RV.out))
      go_upto_region 6 with fail
      refine wp_region_held_drew (S := But (fun _ => False) w3) (by kernel_rfl) (But.refl _ _).drew (fun hHeld => ?_)
      refine tk (i := 0) (v := ?v12) rfl ?y12 ?r12
      case y12 => (intro w hSw; (try dsimp only at hSw); go_simp; (try with_reducible rfl))
      try simp only [pu]
      refine tk (i := 1) (v := ?v13) rfl ?y13 ?r13
      case y13 => (intro w hSw; (try dsimp only at hSw); obtain ⟨z0, z1, z2⟩ := KS3.out w hSw; go_simp; (try with_reducible rfl))
      try simp only [pu]
      refine tk (i := 2) (v := ?v14) rfl ?y14 ?r14
      case y14 => (intro w hSw; (try dsimp only at hSw); go_simp; (try with_reducible rfl))
      try simp only [pu]
      refine tk (i := 3) (v := ?v15) rfl ?y15 ?r15
      case y15 => (intro w hSw; (try dsimp only at hSw); go_simp; (try with_reducible rfl))
      try simp only [pu]
      refine tk (i := 4) (v := ?v16) rfl ?y16 ?r16
      case y16 => (intro w hSw; (try dsimp only at hSw); go_simp; (try with_reducible rfl))
      try simp only [pu]
      refine tw (i := 5) rfl (yieldsIf_load_row (by rfl) 23 _ (by rfl) g9 (by rfl) 23 vr (0, 0) _ (fun w h => (h.same _ (by have := (Array.getElem?_eq_some_iff.1 TG.out).1; exact this) (fun q => q)).trans TG.out) Tryd.underlying23 (by rfl) Ivr.out) ?_
      try simp only [pu]
      refine tk (i := 7) (v := ?v18) rfl ?y18 ?r18
      case y18 => (intro w hSw; (try dsimp only at hSw); go_simp; (try with_reducible rfl))
      try simp only [pu]
      refine tk (i := 8) (v := ?v19) rfl ?y19 ?r19
      case y19 => (intro w hSw; (try dsimp only at hSw); obtain ⟨z0, z1, z2⟩ := KS3.out w hSw; go_simp; (try with_reducible rfl))
      try simp only [pu]
      refine tw (i := 9) rfl (yieldsIf_load_row (by rfl) 23 _ (by rfl) w.heap.size (by rfl) 23 v0 (0, 0) _ (fun w h => (h.same _ (by have := (Array.getElem?_eq_some_iff.1 RV3.out).1; exact this) (fun q => q)).trans RV3.out) Tryd.underlying23 (by rfl) Iv0.out) ?_
      try simp only [pu]
      refine wpAnyH_ready (rs := [6]) (by kernel_rfl) (by simp) ?_
      refine AllReadyH.cons (i := 6) rfl (fun K2 hK2 => ?_) AllReadyH.nil
      go_simp
      go_at_call 19
      refine (HKL.out w3.drew (Bw3.out.trans (But.to_below ((But.refl (fun _ => False) w3).drew) Bw3.out.size (fun _ _ q => q)))).mono ?_
      rintro ev w705 ⟨rfl, bw705⟩
      try go_wp2_with fail
      obtain ⟨Kw705, fw705⟩ := st_call ((But.refl (fun _ => False) w3).drew) bw705
      have Kw705 := Lib.hid Kw705
      clear bw705 fw705
      refine hK2.out _ _ Kw705.out (fun hHeld2 => ?_)
      clear hK2 K2
      try simp only [pu]
      refine wpAnyH_ready (rs := [10]) (by kernel_rfl) (by simp) ?_
      refine AllReadyH.cons (i := 10) rfl (fun K2 hK2 => ?_) AllReadyH.nil
      go_simp
      go_at_call 29
      refine (HIN.out w705 (Bw3.out.trans (But.to_below Kw705.out Bw3.out.size (fun _ _ q => q)))).mono ?_
      rintro ev w706 ⟨rfl, bw706⟩
      try go_wp2_with fail
      obtain ⟨Kw706, fw706⟩ := st_call Kw705.out bw706
      have Kw706 := Lib.hid Kw706
      clear bw706 fw706
      refine hK2.out _ _ Kw706.out (fun hHeld2 => ?_)
      clear hK2 K2
      try simp only [pu]
      refine tk (i := 11) (v := ?v21) rfl ?y21 ?r21
      case y21 => (intro w hSw; (try dsimp only at hSw); go_simp; (try with_reducible rfl))
      try simp only [pu]
      refine wpAnyH_done (by kernel_rfl) ?_ _
      obtain ⟨w6, hnw6⟩ : ∃ y9 : World, w706 = y9 := ⟨_, rfl⟩
      have Bw6 : Hid (Below w3.heap.size w3 w6) := Lib.hid (by rw [← hnw6]; exact But.to_below Kw706.out (Nat.le_refl _) (fun _ _ q => q))
      rw [hnw6]
      clear hnw6 hHeld hHeld2
      have z9 := (HE1.out.step (Bw3.out.trans (Bw6.out.mono Bw3.out.size))).laid.e12
      unfold errV at z9
      go_wp2_with fail
      go_ret
      exact ⟨rfl, HBv.out.trans ((Bw1.out.trans ((Bw3.out.trans (Bw6.out.mono Bw3.out.size)).mono Bw1.out.size)).mono HBv.out.size)⟩
    
    refine AllReadyH.cons (i := 10) rfl (fun K2 hK2 => ?_) ?more22
    · skip
      go_simp
      obtain ⟨w707, hw707⟩ : ∃ x, (w701.alloc (.cells (List.replicate 32 (Value.int .u8 0)).toArray 23)) = x := ⟨_, rfl⟩
      obtain ⟨g707, hg707⟩ : ∃ x, w701.heap.size = x := ⟨_, rfl⟩
      obtain ⟨Kw707, Tw707_0, qw707, fw707⟩ := st_alloc Kw701.out hw707 hg707
      simp only [List.replicate] at hw707; rw [hw707, hg707]; clear hw707 hg707
      have Kw707 := Lib.hid Kw707
      have Tw707_0 := Lib.hid Tw707_0
      clear fw707
      refine hK2.out _ _ Kw707.out (fun hHeld2 => ?_)
      clear hK2 K2
      try simp only [pu]
      refine wpAnyH_ready (rs := [6]) (by kernel_rfl) (by simp) ?_
      refine AllReadyH.cons (i := 6) rfl (fun K2 hK2 => ?_) AllReadyH.nil
      go_simp
      go_at_call 28
      refine (HRC.out w707 (But.to_below Kw707.out (Nat.le_refl _) (fun _ _ q => q))).mono ?_
      rintro ev w708 ⟨rfl, bw708⟩
      try go_wp2_with fail
      obtain ⟨Kw708, fw708⟩ := st_call Kw707.out bw708
      have Kw708 := Lib.hid Kw708
      have Tw708_0 := Lib.hid (fw708 _ _ Tw707_0.out)
      clear bw708 fw708
      refine hK2.out _ _ Kw708.out (fun hHeld2 => ?_)
      clear hK2 K2
      try simp only [pu]
      refine tk (i := 7) (v := ?v23) rfl ?y23 ?r23
      case y23 => (intro w hSw; (try dsimp only at hSw); go_simp; (try with_reducible rfl))
      try simp only [pu]
      refine tk (i := 8) (v := ?v24) rfl ?y24 ?r24
      case y24 => (intro w hSw; (try dsimp only at hSw); go_simp; (try with_reducible rfl))
      try simp only [pu]
      refine tk (i := 9) (v := ?v25) rfl ?y25 ?r25
      case y25 => (intro w hSw; (try dsimp only at hSw); go_simp; (try with_reducible rfl))
      try simp only [pu]
      refine wpAnyH_ready (rs := [11]) (by kernel_rfl) (by simp) ?_
      refine AllReadyH.cons (i := 11) rfl (fun K2 hK2 => ?_) AllReadyH.nil
      rw [if_pos (by rfl)]
      refine wp_store_row 23 _ _ rfl g707 vr rfl rfl 23 _ Tw708_0.out Ivr.out (by rw [Zvr.out]; rfl) Ovr.out ?_
      obtain ⟨w709, hw709⟩ : ∃ x, w708.setRow g707 vr = x := ⟨_, rfl⟩
      obtain ⟨Kw709, Tw709_0, fw709⟩ := st_row Kw708.out hw709 (fun h => absurd h (by omega)) Tw708_0.out
      have Kw709 := Lib.hid Kw709
      have Tw709_0 := Lib.hid Tw709_0
      clear fw709
      rw [hw709]
      clear hw709
      refine hK2.out _ _ Kw709.out (fun hHeld2 => ?_)
      clear hK2 K2
      try simp only [pu]
      refine tk (i := 12) (v := ?v26) rfl ?y26 ?r26
      case y26 => (intro w hSw; (try dsimp only at hSw); go_simp; (try with_reducible rfl))
      try simp only [pu]
      refine wpAnyH_done (by kernel_rfl) ?_ _
      obtain ⟨w3, hnw3⟩ : ∃ y9 : World, w709 = y9 := ⟨_, rfl⟩
      have Bw3 : Hid (Below w1.heap.size w1 w3) := Lib.hid (by rw [← hnw3]; exact But.to_below Kw709.out (Nat.le_refl _) (fun _ _ q => q))
      have TG : Hid (w3.heap[g707]? = some (.cells vr 23 (0, 0))) := Lib.hid (by rw [← hnw3]; exact Tw709_0.out)
      rw [hnw3]
      clear hnw3 hHeld hHeld2
      obtain ⟨g9, hg9⟩ : ∃ y : Nat, g707 = y := ⟨_, rfl⟩
      rw [hg9] at TG ⊢
      clear hg9
      have KS3 : Hid (∀ w', But (fun _ => False) w3 w' → w'.cell? ⟨w.heap.size + 1, 0, none⟩ = some (.int .i64 x) ∧ w'.cell? ⟨w.heap.size + 1, 1, none⟩ = some (.slice A 67 c) ∧ w'.cell? ⟨w.heap.size + 1, 2, none⟩ = some (.slice A2 n c2)) := Lib.hid (fun w' hw => HKSA.out w' ((hw.same _ (by have := Bw3.out.size; omega) (fun q => q)).trans ((Bw3.out.block _ (by omega)).trans ((Bw1.out.block _ (by omega)).trans RS.out))))
      have RV3 : Hid (w3.heap[w.heap.size]? = some (.cells v0 23 (0, 0))) := Lib.hid ((Bw3.out.block _ (by omega)).trans ((Bw1.out.block _ (by omega)).trans RV.out))
      go_upto_region 6 with fail
      refine wp_region_held_drew (S := But (fun _ => False) w3) (by kernel_rfl) (But.refl _ _).drew (fun hHeld => ?_)
      refine tk (i := 0) (v := ?v27) rfl ?y27 ?r27
      case y27 => (intro w hSw; (try dsimp only at hSw); go_simp; (try with_reducible rfl))
      try simp only [pu]
      refine tk (i := 1) (v := ?v28) rfl ?y28 ?r28
      case y28 => (intro w hSw; (try dsimp only at hSw); obtain ⟨z0, z1, z2⟩ := KS3.out w hSw; go_simp; (try with_reducible rfl))
      try simp only [pu]
      refine tk (i := 2) (v := ?v29) rfl ?y29 ?r29
      case y29 => (intro w hSw; (try dsimp only at hSw); go_simp; (try with_reducible rfl))
      try simp only [pu]
      refine tk (i := 3) (v := ?v30) rfl ?y30 ?r30
      case y30 => (intro w hSw; (try dsimp only at hSw); go_simp; (try with_reducible rfl))
      try simp only [pu]
      refine tk (i := 4) (v := ?v31) rfl ?y31 ?r31
      case y31 => (intro w hSw; (try dsimp only at hSw); go_simp; (try with_reducible rfl))
      try simp only [pu]
      refine tw (i := 5) rfl (yieldsIf_load_row (by rfl) 23 _ (by rfl) g9 (by rfl) 23 vr (0, 0) _ (fun w h => (h.same _ (by have := (Array.getElem?_eq_some_iff.1 TG.out).1; exact this) (fun q => q)).trans TG.out) Tryd.underlying23 (by rfl) Ivr.out) ?_
      try simp only [pu]
      refine tk (i := 7) (v := ?v33) rfl ?y33 ?r33
      case y33 => (intro w hSw; (try dsimp only at hSw); go_simp; (try with_reducible rfl))
      try simp only [pu]
      refine tk (i := 8) (v := ?v34) rfl ?y34 ?r34
      case y34 => (intro w hSw; (try dsimp only at hSw); obtain ⟨z0, z1, z2⟩ := KS3.out w hSw; go_simp; (try with_reducible rfl))
      try simp only [pu]
      refine tw (i := 9) rfl (yieldsIf_load_row (by rfl) 23 _ (by rfl) w.heap.size (by rfl) 23 v0 (0, 0) _ (fun w h => (h.same _ (by have := (Array.getElem?_eq_some_iff.1 RV3.out).1; exact this) (fun q => q)).trans RV3.out) Tryd.underlying23 (by rfl) Iv0.out) ?_
      try simp only [pu]
      refine wpAnyH_ready (rs := [6]) (by kernel_rfl) (by simp) ?_
      refine AllReadyH.cons (i := 6) rfl (fun K2 hK2 => ?_) AllReadyH.nil
      go_simp
      go_at_call 19
      refine (HKL.out w3.drew (Bw3.out.trans (But.to_below ((But.refl (fun _ => False) w3).drew) Bw3.out.size (fun _ _ q => q)))).mono ?_
      rintro ev w710 ⟨rfl, bw710⟩
      try go_wp2_with fail
      obtain ⟨Kw710, fw710⟩ := st_call ((But.refl (fun _ => False) w3).drew) bw710
      have Kw710 := Lib.hid Kw710
      clear bw710 fw710
      refine hK2.out _ _ Kw710.out (fun hHeld2 => ?_)
      clear hK2 K2
      try simp only [pu]
      refine wpAnyH_ready (rs := [10]) (by kernel_rfl) (by simp) ?_
      refine AllReadyH.cons (i := 10) rfl (fun K2 hK2 => ?_) AllReadyH.nil
      go_simp
      go_at_call 29
      refine (HIN.out w710 (Bw3.out.trans (But.to_below Kw710.out Bw3.out.size (fun _ _ q => q)))).mono ?_
      rintro ev w711 ⟨rfl, bw711⟩
      try go_wp2_with fail
      obtain ⟨Kw711, fw711⟩ := st_call Kw710.out bw711
      have Kw711 := Lib.hid Kw711
      clear bw711 fw711
      refine hK2.out _ _ Kw711.out (fun hHeld2 => ?_)
      clear hK2 K2
      try simp only [pu]
      refine tk (i := 11) (v := ?v36) rfl ?y36 ?r36
      case y36 => (intro w hSw; (try dsimp only at hSw); go_simp; (try with_reducible rfl))
      try simp only [pu]
      refine wpAnyH_done (by kernel_rfl) ?_ _
      obtain ⟨w6, hnw6⟩ : ∃ y9 : World, w711 = y9 := ⟨_, rfl⟩
      have Bw6 : Hid (Below w3.heap.size w3 w6) := Lib.hid (by rw [← hnw6]; exact But.to_below Kw711.out (Nat.le_refl _) (fun _ _ q => q))
      rw [hnw6]
      clear hnw6 hHeld hHeld2
      have z9 := (HE1.out.step (Bw3.out.trans (Bw6.out.mono Bw3.out.size))).laid.e12
      unfold errV at z9
      go_wp2_with fail
      go_ret
      exact ⟨rfl, HBv.out.trans ((Bw1.out.trans ((Bw3.out.trans (Bw6.out.mono Bw3.out.size)).mono Bw1.out.size)).mono HBv.out.size)⟩
    
    exact AllReadyH.nil

  refine AllReadyH.cons (i := 10) rfl (fun K2 hK2 => ?_) ?more37
  · skip
    go_simp
    obtain ⟨w712, hw712⟩ : ∃ x, (w1.alloc (.cells (List.replicate 32 (Value.int .u8 0)).toArray 23)).drew = x := ⟨_, rfl⟩
    obtain ⟨g712, hg712⟩ : ∃ x, w1.heap.size = x := ⟨_, rfl⟩
    obtain ⟨Kw712, Tw712_0, qw712, fw712⟩ := st_alloc ((But.refl (fun _ => False) w1).drew) hw712 hg712
    simp only [List.replicate] at hw712; rw [hw712, hg712]; clear hw712 hg712
    have Kw712 := Lib.hid Kw712
    have Tw712_0 := Lib.hid Tw712_0
    clear fw712
    refine hK2.out _ _ Kw712.out (fun hHeld2 => ?_)
    clear hK2 K2
    try simp only [pu]
    refine wpAnyH_ready (rs := [3]) (by kernel_rfl) (by simp) ?_
    refine AllReadyH.cons (i := 3) rfl (fun K2 hK2 => ?_) AllReadyH.nil
    go_simp
    go_at_call 23
    refine (HME.out w712 (But.to_below Kw712.out (Nat.le_refl _) (fun _ _ q => q))).mono ?_
    rintro ev w713 ⟨rfl, bw713⟩
    try go_wp2_with fail
    obtain ⟨Kw713, fw713⟩ := st_call Kw712.out bw713
    have Kw713 := Lib.hid Kw713
    have Tw713_0 := Lib.hid (fw713 _ _ Tw712_0.out)
    clear bw713 fw713
    refine hK2.out _ _ Kw713.out (fun hHeld2 => ?_)
    clear hK2 K2
    try simp only [pu]
    refine wpAnyH_ready (rs := [6]) (by kernel_rfl) (by simp) ?_
    refine AllReadyH.cons (i := 6) rfl (fun K2 hK2 => ?_) AllReadyH.nil
    go_simp
    go_at_call 28
    refine (HRC.out w713 (But.to_below Kw713.out (Nat.le_refl _) (fun _ _ q => q))).mono ?_
    rintro ev w714 ⟨rfl, bw714⟩
    try go_wp2_with fail
    obtain ⟨Kw714, fw714⟩ := st_call Kw713.out bw714
    have Kw714 := Lib.hid Kw714
    have Tw714_0 := Lib.hid (fw714 _ _ Tw713_0.out)
    clear bw714 fw714
    refine hK2.out _ _ Kw714.out (fun hHeld2 => ?_)
    clear hK2 K2
    try simp only [pu]
    refine tk (i := 7) (v := ?v38) rfl ?y38 ?r38
    case y38 => (intro w hSw; (try dsimp only at hSw); go_simp; (try with_reducible rfl))
    try simp only [pu]
    refine tk (i := 8) (v := ?v39) rfl ?y39 ?r39
    case y39 => (intro w hSw; (try dsimp only at hSw); go_simp; (try with_reducible rfl))
    try simp only [pu]
    refine tk (i := 9) (v := ?v40) rfl ?y40 ?r40
    case y40 => (intro w hSw; (try dsimp only at hSw); go_simp; (try with_reducible rfl))
    try simp only [pu]
    refine wpAnyH_ready (rs := [11]) (by kernel_rfl) (by simp) ?_
    refine AllReadyH.cons (i := 11) rfl (fun K2 hK2 => ?_) AllReadyH.nil
    rw [if_pos (by rfl)]
    refine wp_store_row 23 _ _ rfl g712 vr rfl rfl 23 _ Tw714_0.out Ivr.out (by rw [Zvr.out]; rfl) Ovr.out ?_
    obtain ⟨w715, hw715⟩ : ∃ x, w714.setRow g712 vr = x := ⟨_, rfl⟩
    obtain ⟨Kw715, Tw715_0, fw715⟩ := st_row Kw714.out hw715 (fun h => absurd h (by omega)) Tw714_0.out
    have Kw715 := Lib.hid Kw715
    have Tw715_0 := Lib.hid Tw715_0
    clear fw715
    rw [hw715]
    clear hw715
    refine hK2.out _ _ Kw715.out (fun hHeld2 => ?_)
    clear hK2 K2
    try simp only [pu]
    refine tk (i := 12) (v := ?v41) rfl ?y41 ?r41
    case y41 => (intro w hSw; (try dsimp only at hSw); go_simp; (try with_reducible rfl))
    try simp only [pu]
    refine wpAnyH_done (by kernel_rfl) ?_ _
    obtain ⟨w3, hnw3⟩ : ∃ y9 : World, w715 = y9 := ⟨_, rfl⟩
    have Bw3 : Hid (Below w1.heap.size w1 w3) := Lib.hid (by rw [← hnw3]; exact But.to_below Kw715.out (Nat.le_refl _) (fun _ _ q => q))
    have TG : Hid (w3.heap[g712]? = some (.cells vr 23 (0, 0))) := Lib.hid (by rw [← hnw3]; exact Tw715_0.out)
    rw [hnw3]
    clear hnw3 hHeld hHeld2
    obtain ⟨g9, hg9⟩ : ∃ y : Nat, g712 = y := ⟨_, rfl⟩
    rw [hg9] at TG ⊢
    clear hg9
    have KS3 : Hid (∀ w', But (fun _ => False) w3 w' → w'.cell? ⟨w.heap.size + 1, 0, none⟩ = some (.int .i64 x) ∧ w'.cell? ⟨w.heap.size + 1, 1, none⟩ = some (.slice A 67 c) ∧ w'.cell? ⟨w.heap.size + 1, 2, none⟩ = some (.slice A2 n c2)) := Lib.hid (fun w' hw => HKSA.out w' ((hw.same _ (by have := Bw3.out.size; omega) (fun q => q)).trans ((Bw3.out.block _ (by omega)).trans ((Bw1.out.block _ (by omega)).trans RS.out))))
    have RV3 : Hid (w3.heap[w.heap.size]? = some (.cells v0 23 (0, 0))) := Lib.hid ((Bw3.out.block _ (by omega)).trans ((Bw1.out.block _ (by omega)).trans RV.out))
    go_upto_region 6 with fail
    refine wp_region_held_drew (S := But (fun _ => False) w3) (by kernel_rfl) (But.refl _ _).drew (fun hHeld => ?_)
    refine tk (i := 0) (v := ?v42) rfl ?y42 ?r42
    case y42 => (intro w hSw; (try dsimp only at hSw); go_simp; (try with_reducible rfl))
    try simp only [pu]
    refine tk (i := 1) (v := ?v43) rfl ?y43 ?r43
    case y43 => (intro w hSw; (try dsimp only at hSw); obtain ⟨z0, z1, z2⟩ := KS3.out w hSw; go_simp; (try with_reducible rfl))
    try simp only [pu]
    refine tk (i := 2) (v := ?v44) rfl ?y44 ?r44
    case y44 => (intro w hSw; (try dsimp only at hSw); go_simp; (try with_reducible rfl))
    try simp only [pu]
    refine tk (i := 3) (v := ?v45) rfl ?y45 ?r45
    case y45 => (intro w hSw; (try dsimp only at hSw); go_simp; (try with_reducible rfl))
    try simp only [pu]
    refine tk (i := 4) (v := ?v46) rfl ?y46 ?r46
    case y46 => (intro w hSw; (try dsimp only at hSw); go_simp; (try with_reducible rfl))
    try simp only [pu]
    refine tw (i := 5) rfl (yieldsIf_load_row (by rfl) 23 _ (by rfl) g9 (by rfl) 23 vr (0, 0) _ (fun w h => (h.same _ (by have := (Array.getElem?_eq_some_iff.1 TG.out).1; exact this) (fun q => q)).trans TG.out) Tryd.underlying23 (by rfl) Ivr.out) ?_
    try simp only [pu]
    refine tk (i := 7) (v := ?v48) rfl ?y48 ?r48
    case y48 => (intro w hSw; (try dsimp only at hSw); go_simp; (try with_reducible rfl))
    try simp only [pu]
    refine tk (i := 8) (v := ?v49) rfl ?y49 ?r49
    case y49 => (intro w hSw; (try dsimp only at hSw); obtain ⟨z0, z1, z2⟩ := KS3.out w hSw; go_simp; (try with_reducible rfl))
    try simp only [pu]
    refine tw (i := 9) rfl (yieldsIf_load_row (by rfl) 23 _ (by rfl) w.heap.size (by rfl) 23 v0 (0, 0) _ (fun w h => (h.same _ (by have := (Array.getElem?_eq_some_iff.1 RV3.out).1; exact this) (fun q => q)).trans RV3.out) Tryd.underlying23 (by rfl) Iv0.out) ?_
    try simp only [pu]
    refine wpAnyH_ready (rs := [6]) (by kernel_rfl) (by simp) ?_
    refine AllReadyH.cons (i := 6) rfl (fun K2 hK2 => ?_) AllReadyH.nil
    go_simp
    go_at_call 19
    refine (HKL.out w3.drew (Bw3.out.trans (But.to_below ((But.refl (fun _ => False) w3).drew) Bw3.out.size (fun _ _ q => q)))).mono ?_
    rintro ev w716 ⟨rfl, bw716⟩
    try go_wp2_with fail
    obtain ⟨Kw716, fw716⟩ := st_call ((But.refl (fun _ => False) w3).drew) bw716
    have Kw716 := Lib.hid Kw716
    clear bw716 fw716
    refine hK2.out _ _ Kw716.out (fun hHeld2 => ?_)
    clear hK2 K2
    try simp only [pu]
    refine wpAnyH_ready (rs := [10]) (by kernel_rfl) (by simp) ?_
    refine AllReadyH.cons (i := 10) rfl (fun K2 hK2 => ?_) AllReadyH.nil
    go_simp
    go_at_call 29
    refine (HIN.out w716 (Bw3.out.trans (But.to_below Kw716.out Bw3.out.size (fun _ _ q => q)))).mono ?_
    rintro ev w717 ⟨rfl, bw717⟩
    try go_wp2_with fail
    obtain ⟨Kw717, fw717⟩ := st_call Kw716.out bw717
    have Kw717 := Lib.hid Kw717
    clear bw717 fw717
    refine hK2.out _ _ Kw717.out (fun hHeld2 => ?_)
    clear hK2 K2
    try simp only [pu]
    refine tk (i := 11) (v := ?v51) rfl ?y51 ?r51
    case y51 => (intro w hSw; (try dsimp only at hSw); go_simp; (try with_reducible rfl))
    try simp only [pu]
    refine wpAnyH_done (by kernel_rfl) ?_ _
    obtain ⟨w6, hnw6⟩ : ∃ y9 : World, w717 = y9 := ⟨_, rfl⟩
    have Bw6 : Hid (Below w3.heap.size w3 w6) := Lib.hid (by rw [← hnw6]; exact But.to_below Kw717.out (Nat.le_refl _) (fun _ _ q => q))
    rw [hnw6]
    clear hnw6 hHeld hHeld2
    have z9 := (HE1.out.step (Bw3.out.trans (Bw6.out.mono Bw3.out.size))).laid.e12
    unfold errV at z9
    go_wp2_with fail
    go_ret
    exact ⟨rfl, HBv.out.trans ((Bw1.out.trans ((Bw3.out.trans (Bw6.out.mono Bw3.out.size)).mono Bw1.out.size)).mono HBv.out.size)⟩

  exact AllReadyH.nil


end Go.Proofs.YtnpblpbcchminaaDoor
