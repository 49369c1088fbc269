/- cartularyref23.Verify. Condition: the table reads as listed. -/
import Derived.Test.YtnpblpbcchminaaGreatDoorSameHashes
import Derived.Test.YtnpblpbcchminaaGreatDoorMem
import Derived.Test.YtnpblpbcchminaaGreatDoorKrefB
import Derived.Test.YtnpblpbcchminaaGreatDoorKrefC
import Derived.Test.YtnpblpbcchminaaGreatDoorKvPlain
import Derived.Test.YtnpblpbcchminaaGreatDoorRef18
namespace Go.Proofs.YtnpblpbcchminaaGreatDoor
open Go.ChangeShapes Go.WideShapes Go.ChangeAt Go.RowKit
set_option linter.unusedVariables false

set_option maxRecDepth 100000 in
set_option maxHeartbeats 8000000 in
theorem rver_neg (p : List UInt8) (hh : Int) (x : Int) (m n : Nat) (t : ByteArray) (A A2 : Option Addr) (c c2 : Nat) (w : World) (hp : p.length = 32) (h0 : hh < 0) :
    Calls Tryz.prog 10 #[hv p, .int .i64 hh, .string t, .agg #[.int .i64 x, .slice A m c, .slice A2 n c2]] w fun ev w' => ev = .returned (faultV 2) ∧ Below w.heap.size w w' := by
  obtain ⟨v0, ev0, Hv0, Zv0, Iv0, Ov0⟩ := row_of p hp
  obtain ⟨vf, evf, HVF, Zvf, Ivf, Ovf⟩ := fault_of 2
  obtain ⟨sv, hsv9⟩ : ∃ y : Array Value, #[.int .i64 x, .slice A m c, .slice A2 n c2] = y := ⟨_, rfl⟩
  have Zsv : Hid (sv.size = 3) := Lib.hid (by rw [← hsv9]; rfl)
  have Isv : Hid ((Tryz.prog.info? 26).map (·.size) = some sv.size) := Lib.hid (by rw [Zsv.out]; kernel_rfl)
  obtain ⟨wv, hwv⟩ : ∃ y9 : World, (((w.alloc (.cells v0 23)).alloc (.cells sv 26)).alloc (.cells #[.int .i64 0, .int .i64 0] 34)) = y9 := ⟨_, rfl⟩
  have HBv : Hid (Below w.heap.size w wv) := Lib.hid (by rw [← hwv]; exact ((((Below.refl _ _).alloc (by simp <;> omega) _).alloc (by simp <;> omega) _).alloc (by simp <;> omega) _))
  have HSV : Hid (wv.heap.size = w.heap.size + 3) := Lib.hid (by rw [← hwv]; simp)
  have RV : Hid (wv.heap[w.heap.size]? = some (.cells v0 23 (0, 0))) := Lib.hid (by rw [← hwv]; exact ((((Below.refl (w.alloc (.cells v0 23)).heap.size (w.alloc (.cells v0 23))).alloc (Nat.le_refl _) _).alloc (by simp <;> omega) _).block w.heap.size (by simp <;> omega)).trans (heap_at _ _ _ (by simp <;> omega)))
  have RS0 : Hid (wv.heap[(w.heap.size + 1)]? = some (.cells sv 26 (0, 0))) := Lib.hid (by rw [← hwv]; exact (((Below.refl ((w.alloc (.cells v0 23)).alloc (.cells sv 26)).heap.size ((w.alloc (.cells v0 23)).alloc (.cells sv 26))).alloc (Nat.le_refl _) _).block (w.heap.size + 1) (by simp <;> omega)).trans (heap_at _ _ _ (by simp <;> omega)))
  have RF0 : Hid (wv.heap[(w.heap.size + 2)]? = some (.cells #[.int .i64 0, .int .i64 0] 34 (0, 0))) := Lib.hid (by rw [← hwv]; exact heap_at _ _ _ (by simp <;> omega))
  have HWV := Lib.hid hwv
  have hsvv := HSV.out
  have RS : Hid (wv.heap[w.heap.size + 1]? = some (.cells sv 26 (0, 0))) := RS0
  have RF : Hid (wv.heap[(w.heap.size + 1 + 1)]? = some (.cells #[.int .i64 0, .int .i64 0] 34 (0, 0))) := RF0
  have PLAIN : Hid (∀ w, Calls Tryz.prog 17 #[.int .i64 2] w fun ev w' => ev = .returned (.agg vf) ∧ Below w.heap.size w w') := Lib.hid (fun w => by rw [← evf]; exact plain18 2 (by decide) (by decide) w)
  have KSA : ∀ w' : World, w'.heap[w.heap.size + 1]? = some (.cells sv 26 (0, 0)) → w'.cell? ⟨w.heap.size + 1, 0, none⟩ = some (.int .i64 x) ∧ w'.cell? ⟨w.heap.size + 1, 1, none⟩ = some (.slice A m c) ∧ w'.cell? ⟨w.heap.size + 1, 2, none⟩ = some (.slice A2 n c2) := fun w' hg => by
    rw [← hsv9] at hg
    exact ⟨(cell_of_row w' _ 0 _ 26 (0, 0) hg).trans rfl, (cell_of_row w' _ 1 _ 26 (0, 0) hg).trans rfl, (cell_of_row w' _ 2 _ 26 (0, 0) hg).trans rfl⟩
  have HKSA := Lib.hid KSA
  have g3 : decide (hh < 0) = true := by simp; omega
  rw [ev0, hsv9, evf]
  clear KSA hwv hsv9 hp ev0 evf h0
  go_enter Tryz.func10, Tryz.ntmps10
  go_upto_region 1 with fail
  rw [HWV.out]
  have B1 : Hid (Below wv.heap.size wv wv) := Lib.hid (Below.refl _ _)
  have RFx := RF
  go_wp2_with fail
  refine (PLAIN.out wv).mono ?_
  rintro ev w9 ⟨rfl, b9⟩
  have R9 := Lib.hid ((b9.block _ (by have := B1.out.size; omega)).trans RFx.out)
  have HF9 := Lib.hid (HBv.out.trans ((B1.out.trans (b9.mono B1.out.size)).mono HBv.out.size))
  clear b9
  go_wp2_with (refine wpList_store_row rfl 34 _ _ rfl (w.heap.size + 1 + 1) vf rfl rfl 34 _ R9.out Ivf.out (by rw [Zvf.out]; rfl) Ovf.out ?_)
  refine bodyPost_ret (v := .agg vf) (results_cell_row rfl _ _ (w.heap.size + 1 + 1) 34 vf (0, 0) _ rfl (setRow_heap _ _ _ _ _ _ R9.out) Tryz.underlying34 rfl Ivf.out) rfl ⟨rfl, below_setRow HF9.out _ _ (by omega)⟩

set_option maxRecDepth 100000 in
set_option maxHeartbeats 8000000 in
theorem rver_big (p : List UInt8) (hh : Int) (x : Int) (m n : Nat) (t : ByteArray) (A A2 : Option Addr) (c c2 : Nat) (w : World) (hp : p.length = 32) (h0 : 6 < hh) :
    Calls Tryz.prog 10 #[hv p, .int .i64 hh, .string t, .agg #[.int .i64 x, .slice A m c, .slice A2 n c2]] w fun ev w' => ev = .returned (faultV 2) ∧ Below w.heap.size w w' := by
  obtain ⟨v0, ev0, Hv0, Zv0, Iv0, Ov0⟩ := row_of p hp
  obtain ⟨vf, evf, HVF, Zvf, Ivf, Ovf⟩ := fault_of 2
  obtain ⟨sv, hsv9⟩ : ∃ y : Array Value, #[.int .i64 x, .slice A m c, .slice A2 n c2] = y := ⟨_, rfl⟩
  have Zsv : Hid (sv.size = 3) := Lib.hid (by rw [← hsv9]; rfl)
  have Isv : Hid ((Tryz.prog.info? 26).map (·.size) = some sv.size) := Lib.hid (by rw [Zsv.out]; kernel_rfl)
  obtain ⟨wv, hwv⟩ : ∃ y9 : World, (((w.alloc (.cells v0 23)).alloc (.cells sv 26)).alloc (.cells #[.int .i64 0, .int .i64 0] 34)) = y9 := ⟨_, rfl⟩
  have HBv : Hid (Below w.heap.size w wv) := Lib.hid (by rw [← hwv]; exact ((((Below.refl _ _).alloc (by simp <;> omega) _).alloc (by simp <;> omega) _).alloc (by simp <;> omega) _))
  have HSV : Hid (wv.heap.size = w.heap.size + 3) := Lib.hid (by rw [← hwv]; simp)
  have RV : Hid (wv.heap[w.heap.size]? = some (.cells v0 23 (0, 0))) := Lib.hid (by rw [← hwv]; exact ((((Below.refl (w.alloc (.cells v0 23)).heap.size (w.alloc (.cells v0 23))).alloc (Nat.le_refl _) _).alloc (by simp <;> omega) _).block w.heap.size (by simp <;> omega)).trans (heap_at _ _ _ (by simp <;> omega)))
  have RS0 : Hid (wv.heap[(w.heap.size + 1)]? = some (.cells sv 26 (0, 0))) := Lib.hid (by rw [← hwv]; exact (((Below.refl ((w.alloc (.cells v0 23)).alloc (.cells sv 26)).heap.size ((w.alloc (.cells v0 23)).alloc (.cells sv 26))).alloc (Nat.le_refl _) _).block (w.heap.size + 1) (by simp <;> omega)).trans (heap_at _ _ _ (by simp <;> omega)))
  have RF0 : Hid (wv.heap[(w.heap.size + 2)]? = some (.cells #[.int .i64 0, .int .i64 0] 34 (0, 0))) := Lib.hid (by rw [← hwv]; exact heap_at _ _ _ (by simp <;> omega))
  have HWV := Lib.hid hwv
  have hsvv := HSV.out
  have RS : Hid (wv.heap[w.heap.size + 1]? = some (.cells sv 26 (0, 0))) := RS0
  have RF : Hid (wv.heap[(w.heap.size + 1 + 1)]? = some (.cells #[.int .i64 0, .int .i64 0] 34 (0, 0))) := RF0
  have PLAIN : Hid (∀ w, Calls Tryz.prog 17 #[.int .i64 2] w fun ev w' => ev = .returned (.agg vf) ∧ Below w.heap.size w w') := Lib.hid (fun w => by rw [← evf]; exact plain18 2 (by decide) (by decide) w)
  have KSA : ∀ w' : World, w'.heap[w.heap.size + 1]? = some (.cells sv 26 (0, 0)) → w'.cell? ⟨w.heap.size + 1, 0, none⟩ = some (.int .i64 x) ∧ w'.cell? ⟨w.heap.size + 1, 1, none⟩ = some (.slice A m c) ∧ w'.cell? ⟨w.heap.size + 1, 2, none⟩ = some (.slice A2 n c2) := fun w' hg => by
    rw [← hsv9] at hg
    exact ⟨(cell_of_row w' _ 0 _ 26 (0, 0) hg).trans rfl, (cell_of_row w' _ 1 _ 26 (0, 0) hg).trans rfl, (cell_of_row w' _ 2 _ 26 (0, 0) hg).trans rfl⟩
  have HKSA := Lib.hid KSA
  have g3 : decide (hh < 0) = false := by simp; omega
  have g2 : decide ((6 : Int) < hh) = true := by simp; omega
  rw [ev0, hsv9, evf]
  clear KSA hwv hsv9 hp ev0 evf h0
  go_enter Tryz.func10, Tryz.ntmps10
  go_upto_region 1 with fail
  rw [HWV.out]
  have B1 : Hid (Below wv.heap.size wv wv) := Lib.hid (Below.refl _ _)
  have RFx := RF
  go_wp2_with fail
  refine (PLAIN.out wv).mono ?_
  rintro ev w9 ⟨rfl, b9⟩
  have R9 := Lib.hid ((b9.block _ (by have := B1.out.size; omega)).trans RFx.out)
  have HF9 := Lib.hid (HBv.out.trans ((B1.out.trans (b9.mono B1.out.size)).mono HBv.out.size))
  clear b9
  go_wp2_with (refine wpList_store_row rfl 34 _ _ rfl (w.heap.size + 1 + 1) vf rfl rfl 34 _ R9.out Ivf.out (by rw [Zvf.out]; rfl) Ovf.out ?_)
  refine bodyPost_ret (v := .agg vf) (results_cell_row rfl _ _ (w.heap.size + 1 + 1) 34 vf (0, 0) _ rfl (setRow_heap _ _ _ _ _ _ R9.out) Tryz.underlying34 rfl Ivf.out) rfl ⟨rfl, below_setRow HF9.out _ _ (by omega)⟩

set_option maxRecDepth 100000 in
set_option maxHeartbeats 8000000 in
theorem rver_may (p : List UInt8) (h : Nat) (x : Int) (m n : Nat) (t : ByteArray) (A A2 : Option Addr) (c c2 : Nat) (w : World) (hp : p.length = 32) (h6 : h ≤ 6) (hmy : ¬ (0 ≤ x ∧ x < 64 ∧ m = 67 ∧ n ≤ 6)) :
    Calls Tryz.prog 10 #[hv p, .int .i64 (h : Int), .string t, .agg #[.int .i64 x, .slice A m c, .slice A2 n c2]] w fun ev w' => ev = .returned (faultV 2) ∧ Below w.heap.size w w' := by
  obtain ⟨v0, ev0, Hv0, Zv0, Iv0, Ov0⟩ := row_of p hp
  obtain ⟨vf, evf, HVF, Zvf, Ivf, Ovf⟩ := fault_of 2
  obtain ⟨sv, hsv9⟩ : ∃ y : Array Value, #[.int .i64 x, .slice A m c, .slice A2 n c2] = y := ⟨_, rfl⟩
  have Zsv : Hid (sv.size = 3) := Lib.hid (by rw [← hsv9]; rfl)
  have Isv : Hid ((Tryz.prog.info? 26).map (·.size) = some sv.size) := Lib.hid (by rw [Zsv.out]; kernel_rfl)
  obtain ⟨wv, hwv⟩ : ∃ y9 : World, (((w.alloc (.cells v0 23)).alloc (.cells sv 26)).alloc (.cells #[.int .i64 0, .int .i64 0] 34)) = y9 := ⟨_, rfl⟩
  have HBv : Hid (Below w.heap.size w wv) := Lib.hid (by rw [← hwv]; exact ((((Below.refl _ _).alloc (by simp <;> omega) _).alloc (by simp <;> omega) _).alloc (by simp <;> omega) _))
  have HSV : Hid (wv.heap.size = w.heap.size + 3) := Lib.hid (by rw [← hwv]; simp)
  have RV : Hid (wv.heap[w.heap.size]? = some (.cells v0 23 (0, 0))) := Lib.hid (by rw [← hwv]; exact ((((Below.refl (w.alloc (.cells v0 23)).heap.size (w.alloc (.cells v0 23))).alloc (Nat.le_refl _) _).alloc (by simp <;> omega) _).block w.heap.size (by simp <;> omega)).trans (heap_at _ _ _ (by simp <;> omega)))
  have RS0 : Hid (wv.heap[(w.heap.size + 1)]? = some (.cells sv 26 (0, 0))) := Lib.hid (by rw [← hwv]; exact (((Below.refl ((w.alloc (.cells v0 23)).alloc (.cells sv 26)).heap.size ((w.alloc (.cells v0 23)).alloc (.cells sv 26))).alloc (Nat.le_refl _) _).block (w.heap.size + 1) (by simp <;> omega)).trans (heap_at _ _ _ (by simp <;> omega)))
  have RF0 : Hid (wv.heap[(w.heap.size + 2)]? = some (.cells #[.int .i64 0, .int .i64 0] 34 (0, 0))) := Lib.hid (by rw [← hwv]; exact heap_at _ _ _ (by simp <;> omega))
  have HWV := Lib.hid hwv
  have hsvv := HSV.out
  have RS : Hid (wv.heap[w.heap.size + 1]? = some (.cells sv 26 (0, 0))) := RS0
  have RF : Hid (wv.heap[(w.heap.size + 1 + 1)]? = some (.cells #[.int .i64 0, .int .i64 0] 34 (0, 0))) := RF0
  have HMAY : Hid (∀ w', Calls Tryz.prog 38 #[.agg sv] w' fun ev w2 => ev = .returned (.bool false) ∧ Below w'.heap.size w' w2) := Lib.hid (fun w' => by
    have h9 := rmay_any x m n A A2 c c2 w'
    rw [show decide (0 ≤ x ∧ x < 64 ∧ m = 67 ∧ n ≤ 6) = false from decide_eq_false hmy, hsv9] at h9
    exact h9)
  have PLAIN : Hid (∀ w, Calls Tryz.prog 17 #[.int .i64 2] w fun ev w' => ev = .returned (.agg vf) ∧ Below w.heap.size w w') := Lib.hid (fun w => by rw [← evf]; exact plain18 2 (by decide) (by decide) w)
  have KSA : ∀ w' : World, w'.heap[w.heap.size + 1]? = some (.cells sv 26 (0, 0)) → w'.cell? ⟨w.heap.size + 1, 0, none⟩ = some (.int .i64 x) ∧ w'.cell? ⟨w.heap.size + 1, 1, none⟩ = some (.slice A m c) ∧ w'.cell? ⟨w.heap.size + 1, 2, none⟩ = some (.slice A2 n c2) := fun w' hg => by
    rw [← hsv9] at hg
    exact ⟨(cell_of_row w' _ 0 _ 26 (0, 0) hg).trans rfl, (cell_of_row w' _ 1 _ 26 (0, 0) hg).trans rfl, (cell_of_row w' _ 2 _ 26 (0, 0) hg).trans rfl⟩
  have HKSA := Lib.hid KSA
  have g2 : decide ((6 : Int) < h) = false := by simp; omega
  have g3 : decide ((h : Int) < 0) = false := by simp
  have k0 : (0 : Int) ≤ h := by omega
  rw [ev0, hsv9, evf]
  clear KSA hwv hsv9 hp ev0 evf hmy h6
  go_enter Tryz.func10, Tryz.ntmps10
  go_upto_region 1 with fail
  rw [HWV.out]
  go_wp2_with (refine wpList_load_row_g rfl 26 _ rfl (w.heap.size + 1) rfl 26 sv (0, 0) _ RS.out Tryz.underlying26 rfl Isv.out ?_)
  refine (HMAY.out wv).mono ?_
  rintro ev w1 ⟨rfl, b1⟩
  have B1 := Lib.hid b1
  obtain ⟨z0, z1, z2⟩ := HKSA.out w1 ((b1.block _ (by omega)).trans RS.out)
  have RFx : Hid (w1.heap[(w.heap.size + 1 + 1)]? = some (.cells #[.int .i64 0, .int .i64 0] 34 (0, 0))) := Lib.hid ((b1.block _ (by omega)).trans RF.out)
  clear b1
  go_wp2_with fail
  refine (PLAIN.out w1).mono ?_
  rintro ev w9 ⟨rfl, b9⟩
  have R9 := Lib.hid ((b9.block _ (by have := B1.out.size; omega)).trans RFx.out)
  have HF9 := Lib.hid (HBv.out.trans ((B1.out.trans (b9.mono B1.out.size)).mono HBv.out.size))
  clear b9
  go_wp2_with (refine wpList_store_row rfl 34 _ _ rfl (w.heap.size + 1 + 1) vf rfl rfl 34 _ R9.out Ivf.out (by rw [Zvf.out]; rfl) Ovf.out ?_)
  refine bodyPost_ret (v := .agg vf) (results_cell_row rfl _ _ (w.heap.size + 1 + 1) 34 vf (0, 0) _ rfl (setRow_heap _ _ _ _ _ _ R9.out) Tryz.underlying34 rfl Ivf.out) rfl ⟨rfl, below_setRow HF9.out _ _ (by omega)⟩

set_option maxRecDepth 100000 in
set_option maxHeartbeats 8000000 in
theorem rver_idx (p : List UInt8) (h : Nat) (x : Int) (m n : Nat) (t : ByteArray) (A A2 : Option Addr) (c c2 : Nat) (w : World) (hp : p.length = 32) (h6 : h ≤ 6) (hmy : 0 ≤ x ∧ x < 64 ∧ m = 67 ∧ n ≤ 6) (hx : ((2 ^ h : Nat) : Int) ≤ x) :
    Calls Tryz.prog 10 #[hv p, .int .i64 (h : Int), .string t, .agg #[.int .i64 x, .slice A m c, .slice A2 n c2]] w fun ev w' => ev = .returned (faultV 2) ∧ Below w.heap.size w w' := by
  obtain ⟨v0, ev0, Hv0, Zv0, Iv0, Ov0⟩ := row_of p hp
  obtain ⟨vf, evf, HVF, Zvf, Ivf, Ovf⟩ := fault_of 2
  obtain ⟨sv, hsv9⟩ : ∃ y : Array Value, #[.int .i64 x, .slice A m c, .slice A2 n c2] = y := ⟨_, rfl⟩
  have Zsv : Hid (sv.size = 3) := Lib.hid (by rw [← hsv9]; rfl)
  have Isv : Hid ((Tryz.prog.info? 26).map (·.size) = some sv.size) := Lib.hid (by rw [Zsv.out]; kernel_rfl)
  obtain ⟨wv, hwv⟩ : ∃ y9 : World, (((w.alloc (.cells v0 23)).alloc (.cells sv 26)).alloc (.cells #[.int .i64 0, .int .i64 0] 34)) = y9 := ⟨_, rfl⟩
  have HBv : Hid (Below w.heap.size w wv) := Lib.hid (by rw [← hwv]; exact ((((Below.refl _ _).alloc (by simp <;> omega) _).alloc (by simp <;> omega) _).alloc (by simp <;> omega) _))
  have HSV : Hid (wv.heap.size = w.heap.size + 3) := Lib.hid (by rw [← hwv]; simp)
  have RV : Hid (wv.heap[w.heap.size]? = some (.cells v0 23 (0, 0))) := Lib.hid (by rw [← hwv]; exact ((((Below.refl (w.alloc (.cells v0 23)).heap.size (w.alloc (.cells v0 23))).alloc (Nat.le_refl _) _).alloc (by simp <;> omega) _).block w.heap.size (by simp <;> omega)).trans (heap_at _ _ _ (by simp <;> omega)))
  have RS0 : Hid (wv.heap[(w.heap.size + 1)]? = some (.cells sv 26 (0, 0))) := Lib.hid (by rw [← hwv]; exact (((Below.refl ((w.alloc (.cells v0 23)).alloc (.cells sv 26)).heap.size ((w.alloc (.cells v0 23)).alloc (.cells sv 26))).alloc (Nat.le_refl _) _).block (w.heap.size + 1) (by simp <;> omega)).trans (heap_at _ _ _ (by simp <;> omega)))
  have RF0 : Hid (wv.heap[(w.heap.size + 2)]? = some (.cells #[.int .i64 0, .int .i64 0] 34 (0, 0))) := Lib.hid (by rw [← hwv]; exact heap_at _ _ _ (by simp <;> omega))
  have HWV := Lib.hid hwv
  have hsvv := HSV.out
  have RS : Hid (wv.heap[w.heap.size + 1]? = some (.cells sv 26 (0, 0))) := RS0
  have RF : Hid (wv.heap[(w.heap.size + 1 + 1)]? = some (.cells #[.int .i64 0, .int .i64 0] 34 (0, 0))) := RF0
  have HMAY : Hid (∀ w', Calls Tryz.prog 38 #[.agg sv] w' fun ev w2 => ev = .returned (.bool true) ∧ Below w'.heap.size w' w2) := Lib.hid (fun w' => by
    have h9 := rmay_any x m n A A2 c c2 w'
    rw [show decide (0 ≤ x ∧ x < 64 ∧ m = 67 ∧ n ≤ 6) = true from decide_eq_true hmy, hsv9] at h9
    exact h9)
  have PLAIN : Hid (∀ w, Calls Tryz.prog 17 #[.int .i64 2] w fun ev w' => ev = .returned (.agg vf) ∧ Below w.heap.size w w') := Lib.hid (fun w => by rw [← evf]; exact plain18 2 (by decide) (by decide) w)
  have KSA : ∀ w' : World, w'.heap[w.heap.size + 1]? = some (.cells sv 26 (0, 0)) → w'.cell? ⟨w.heap.size + 1, 0, none⟩ = some (.int .i64 x) ∧ w'.cell? ⟨w.heap.size + 1, 1, none⟩ = some (.slice A m c) ∧ w'.cell? ⟨w.heap.size + 1, 2, none⟩ = some (.slice A2 n c2) := fun w' hg => by
    rw [← hsv9] at hg
    exact ⟨(cell_of_row w' _ 0 _ 26 (0, 0) hg).trans rfl, (cell_of_row w' _ 1 _ 26 (0, 0) hg).trans rfl, (cell_of_row w' _ 2 _ 26 (0, 0) hg).trans rfl⟩
  have HKSA := Lib.hid KSA
  have hPW : (2 : Nat) ^ h ≤ 64 := Nat.pow_le_pow_right (n := 2) (by omega) (show h ≤ 6 from h6)
  obtain ⟨Q, hQ⟩ : ∃ Q, 2 ^ h = Q := ⟨_, rfl⟩
  rw [hQ] at hx hPW
  have hq64 : -9223372036854775808 ≤ (Q : Int) ∧ (Q : Int) ≤ 9223372036854775807 := by clear hQ; exact ⟨by omega, by omega⟩
  have hq65 : 0 ≤ (Q : Int) ∧ (Q : Int) ≤ 18446744073709551615 := by clear hQ; exact ⟨by omega, by omega⟩
  have e8 : IntKind.u64.wrap (h : Int) = (h : Int) := by clear hQ hq64 hq65; exact IntWalk.u64_in _ (by omega)
  have hQ2 : ((2 : Int) ^ h) = (Q : Int) := by rw [← hQ]; push_cast; rfl
  have e4 : wrap64 ((2 : Int) ^ h) = (Q : Int) := by
    rw [hQ2]
    exact IntWalk.wrap64_in _ hq64
  have e6 : IntKind.i64.wrap ((2 : Int) ^ h) = (Q : Int) := by
    rw [hQ2]
    exact IntWalk.i64_in _ hq64
  have e5 : IntKind.u64.wrap ((2 : Int) ^ h) = (Q : Int) := by
    rw [hQ2]
    exact IntWalk.u64_in _ hq65
  have g1 : decide ((Q : Int) ≤ x) = true := by clear hQ2 e4 e6 e5; simp; omega
  have g2 : decide ((6 : Int) < h) = false := by simp; omega
  have g3 : decide ((h : Int) < 0) = false := by simp
  have k0 : (0 : Int) ≤ h := by omega
  rw [ev0, hsv9, evf]
  clear KSA hwv hsv9 hp ev0 evf hmy hx hQ hQ2 hq64 hq65
  go_enter Tryz.func10, Tryz.ntmps10
  go_upto_region 1 with fail
  rw [HWV.out]
  go_wp2_with (refine wpList_load_row_g rfl 26 _ rfl (w.heap.size + 1) rfl 26 sv (0, 0) _ RS.out Tryz.underlying26 rfl Isv.out ?_)
  refine (HMAY.out wv).mono ?_
  rintro ev w1 ⟨rfl, b1⟩
  have B1 := Lib.hid b1
  obtain ⟨z0, z1, z2⟩ := HKSA.out w1 ((b1.block _ (by omega)).trans RS.out)
  have RFx : Hid (w1.heap[(w.heap.size + 1 + 1)]? = some (.cells #[.int .i64 0, .int .i64 0] 34 (0, 0))) := Lib.hid ((b1.block _ (by omega)).trans RF.out)
  clear b1
  go_wp2_with fail
  refine (PLAIN.out w1).mono ?_
  rintro ev w9 ⟨rfl, b9⟩
  have R9 := Lib.hid ((b9.block _ (by have := B1.out.size; omega)).trans RFx.out)
  have HF9 := Lib.hid (HBv.out.trans ((B1.out.trans (b9.mono B1.out.size)).mono HBv.out.size))
  clear b9
  go_wp2_with (refine wpList_store_row rfl 34 _ _ rfl (w.heap.size + 1 + 1) vf rfl rfl 34 _ R9.out Ivf.out (by rw [Zvf.out]; rfl) Ovf.out ?_)
  refine bodyPost_ret (v := .agg vf) (results_cell_row rfl _ _ (w.heap.size + 1 + 1) 34 vf (0, 0) _ rfl (setRow_heap _ _ _ _ _ _ R9.out) Tryz.underlying34 rfl Ivf.out) rfl ⟨rfl, below_setRow HF9.out _ _ (by omega)⟩

set_option maxRecDepth 100000 in
set_option maxHeartbeats 8000000 in
theorem rver_len (p : List UInt8) (h : Nat) (x : Int) (m n : Nat) (t : ByteArray) (A A2 : Option Addr) (c c2 : Nat) (w : World) (hp : p.length = 32) (h6 : h ≤ 6) (hmy : 0 ≤ x ∧ x < 64 ∧ m = 67 ∧ n ≤ 6) (hx : x < ((2 ^ h : Nat) : Int)) (hn : n ≠ h) :
    Calls Tryz.prog 10 #[hv p, .int .i64 (h : Int), .string t, .agg #[.int .i64 x, .slice A m c, .slice A2 n c2]] w fun ev w' => ev = .returned (faultV 2) ∧ Below w.heap.size w w' := by
  obtain ⟨v0, ev0, Hv0, Zv0, Iv0, Ov0⟩ := row_of p hp
  obtain ⟨vf, evf, HVF, Zvf, Ivf, Ovf⟩ := fault_of 2
  obtain ⟨sv, hsv9⟩ : ∃ y : Array Value, #[.int .i64 x, .slice A m c, .slice A2 n c2] = y := ⟨_, rfl⟩
  have Zsv : Hid (sv.size = 3) := Lib.hid (by rw [← hsv9]; rfl)
  have Isv : Hid ((Tryz.prog.info? 26).map (·.size) = some sv.size) := Lib.hid (by rw [Zsv.out]; kernel_rfl)
  obtain ⟨wv, hwv⟩ : ∃ y9 : World, (((w.alloc (.cells v0 23)).alloc (.cells sv 26)).alloc (.cells #[.int .i64 0, .int .i64 0] 34)) = y9 := ⟨_, rfl⟩
  have HBv : Hid (Below w.heap.size w wv) := Lib.hid (by rw [← hwv]; exact ((((Below.refl _ _).alloc (by simp <;> omega) _).alloc (by simp <;> omega) _).alloc (by simp <;> omega) _))
  have HSV : Hid (wv.heap.size = w.heap.size + 3) := Lib.hid (by rw [← hwv]; simp)
  have RV : Hid (wv.heap[w.heap.size]? = some (.cells v0 23 (0, 0))) := Lib.hid (by rw [← hwv]; exact ((((Below.refl (w.alloc (.cells v0 23)).heap.size (w.alloc (.cells v0 23))).alloc (Nat.le_refl _) _).alloc (by simp <;> omega) _).block w.heap.size (by simp <;> omega)).trans (heap_at _ _ _ (by simp <;> omega)))
  have RS0 : Hid (wv.heap[(w.heap.size + 1)]? = some (.cells sv 26 (0, 0))) := Lib.hid (by rw [← hwv]; exact (((Below.refl ((w.alloc (.cells v0 23)).alloc (.cells sv 26)).heap.size ((w.alloc (.cells v0 23)).alloc (.cells sv 26))).alloc (Nat.le_refl _) _).block (w.heap.size + 1) (by simp <;> omega)).trans (heap_at _ _ _ (by simp <;> omega)))
  have RF0 : Hid (wv.heap[(w.heap.size + 2)]? = some (.cells #[.int .i64 0, .int .i64 0] 34 (0, 0))) := Lib.hid (by rw [← hwv]; exact heap_at _ _ _ (by simp <;> omega))
  have HWV := Lib.hid hwv
  have hsvv := HSV.out
  have RS : Hid (wv.heap[w.heap.size + 1]? = some (.cells sv 26 (0, 0))) := RS0
  have RF : Hid (wv.heap[(w.heap.size + 1 + 1)]? = some (.cells #[.int .i64 0, .int .i64 0] 34 (0, 0))) := RF0
  have HMAY : Hid (∀ w', Calls Tryz.prog 38 #[.agg sv] w' fun ev w2 => ev = .returned (.bool true) ∧ Below w'.heap.size w' w2) := Lib.hid (fun w' => by
    have h9 := rmay_any x m n A A2 c c2 w'
    rw [show decide (0 ≤ x ∧ x < 64 ∧ m = 67 ∧ n ≤ 6) = true from decide_eq_true hmy, hsv9] at h9
    exact h9)
  have PLAIN : Hid (∀ w, Calls Tryz.prog 17 #[.int .i64 2] w fun ev w' => ev = .returned (.agg vf) ∧ Below w.heap.size w w') := Lib.hid (fun w => by rw [← evf]; exact plain18 2 (by decide) (by decide) w)
  have KSA : ∀ w' : World, w'.heap[w.heap.size + 1]? = some (.cells sv 26 (0, 0)) → w'.cell? ⟨w.heap.size + 1, 0, none⟩ = some (.int .i64 x) ∧ w'.cell? ⟨w.heap.size + 1, 1, none⟩ = some (.slice A m c) ∧ w'.cell? ⟨w.heap.size + 1, 2, none⟩ = some (.slice A2 n c2) := fun w' hg => by
    rw [← hsv9] at hg
    exact ⟨(cell_of_row w' _ 0 _ 26 (0, 0) hg).trans rfl, (cell_of_row w' _ 1 _ 26 (0, 0) hg).trans rfl, (cell_of_row w' _ 2 _ 26 (0, 0) hg).trans rfl⟩
  have HKSA := Lib.hid KSA
  have hPW : (2 : Nat) ^ h ≤ 64 := Nat.pow_le_pow_right (n := 2) (by omega) (show h ≤ 6 from h6)
  obtain ⟨Q, hQ⟩ : ∃ Q, 2 ^ h = Q := ⟨_, rfl⟩
  rw [hQ] at hx hPW
  have hq64 : -9223372036854775808 ≤ (Q : Int) ∧ (Q : Int) ≤ 9223372036854775807 := by clear hQ; exact ⟨by omega, by omega⟩
  have hq65 : 0 ≤ (Q : Int) ∧ (Q : Int) ≤ 18446744073709551615 := by clear hQ; exact ⟨by omega, by omega⟩
  have e8 : IntKind.u64.wrap (h : Int) = (h : Int) := by clear hQ hq64 hq65; exact IntWalk.u64_in _ (by omega)
  have hQ2 : ((2 : Int) ^ h) = (Q : Int) := by rw [← hQ]; push_cast; rfl
  have e4 : wrap64 ((2 : Int) ^ h) = (Q : Int) := by
    rw [hQ2]
    exact IntWalk.wrap64_in _ hq64
  have e6 : IntKind.i64.wrap ((2 : Int) ^ h) = (Q : Int) := by
    rw [hQ2]
    exact IntWalk.i64_in _ hq64
  have e5 : IntKind.u64.wrap ((2 : Int) ^ h) = (Q : Int) := by
    rw [hQ2]
    exact IntWalk.u64_in _ hq65
  have g1 : decide ((Q : Int) ≤ x) = false := by clear hQ2 e4 e6 e5; simp; omega
  have g2 : decide ((6 : Int) < h) = false := by simp; omega
  have g3 : decide ((h : Int) < 0) = false := by simp
  have k0 : (0 : Int) ≤ h := by omega
  have g4 : ((n : Int) != (h : Int)) = true := by simp; omega
  rw [ev0, hsv9, evf]
  clear KSA hwv hsv9 hp ev0 evf hmy hx hQ hQ2 hn hq64 hq65
  go_enter Tryz.func10, Tryz.ntmps10
  go_upto_region 1 with fail
  rw [HWV.out]
  go_wp2_with (refine wpList_load_row_g rfl 26 _ rfl (w.heap.size + 1) rfl 26 sv (0, 0) _ RS.out Tryz.underlying26 rfl Isv.out ?_)
  refine (HMAY.out wv).mono ?_
  rintro ev w1 ⟨rfl, b1⟩
  have B1 := Lib.hid b1
  obtain ⟨z0, z1, z2⟩ := HKSA.out w1 ((b1.block _ (by omega)).trans RS.out)
  have RFx : Hid (w1.heap[(w.heap.size + 1 + 1)]? = some (.cells #[.int .i64 0, .int .i64 0] 34 (0, 0))) := Lib.hid ((b1.block _ (by omega)).trans RF.out)
  clear b1
  go_wp2_with fail
  refine (PLAIN.out w1).mono ?_
  rintro ev w9 ⟨rfl, b9⟩
  have R9 := Lib.hid ((b9.block _ (by have := B1.out.size; omega)).trans RFx.out)
  have HF9 := Lib.hid (HBv.out.trans ((B1.out.trans (b9.mono B1.out.size)).mono HBv.out.size))
  clear b9
  go_wp2_with (refine wpList_store_row rfl 34 _ _ rfl (w.heap.size + 1 + 1) vf rfl rfl 34 _ R9.out Ivf.out (by rw [Zvf.out]; rfl) Ovf.out ?_)
  refine bodyPost_ret (v := .agg vf) (results_cell_row rfl _ _ (w.heap.size + 1 + 1) 34 vf (0, 0) _ rfl (setRow_heap _ _ _ _ _ _ R9.out) Tryz.underlying34 rfl Ivf.out) rfl ⟨rfl, below_setRow HF9.out _ _ (by omega)⟩

set_option maxRecDepth 100000 in
set_option maxHeartbeats 8000000 in
theorem rver_good (p : List UInt8) (h x n : Nat) (t : ByteArray) (A A2 : Option Addr) (c c2 : Nat) (C P : List (List UInt8)) (w : World) (hp : p.length = 32) (h6 : h ≤ 6) (hx : x < 2 ^ h) (hn : n = h) (ht : t.size ≤ 99999999990) (hC : HIn w A 67 c C) (hP : HIn w A2 n c2 P) :
    Calls Tryz.prog 10 #[hv p, .int .i64 h, .string t, .agg #[.int .i64 x, .slice A 67 c, .slice A2 n c2]] w fun ev w' => ev = .returned (faultV (if upK x (kleafB (recB (msgB x (bOf t)) C)) P = p then 0 else 12)) ∧ Below w.heap.size w w' := by
  obtain ⟨lf, hlf⟩ : ∃ lf, kleafB (recB (msgB x (bOf t)) C) = lf := ⟨_, rfl⟩
  have hlf32 : lf.length = 32 := by rw [← hlf]; exact kleafB_length _
  obtain ⟨r, hr⟩ : ∃ r, upK x lf P = r := ⟨_, rfl⟩
  have hr32 : r.length = 32 := by rw [← hr]; exact upK_len _ _ _ hlf32
  rw [hlf, hr]
  have hnP : P.length = h := by rw [hP.2.1, hn]
  have hsay : sayP lf 64 (x : Int) 0 ((2 ^ h : Nat) : Int) P = r := by
    rw [say_up lf h 64 x 0 _ P (by omega) hnP (by omega) (by exact_mod_cast hx) (by simp), ← hr]; simp
  have hpl : P.length = (pathL 64 (x : Int) 0 ((2 ^ h : Nat) : Int)).length := by
    rw [path_pow h 64 x 0 _ (by omega) (by omega) (by exact_mod_cast hx) (by simp), hnP]
  obtain ⟨v0, ev0, Hv0, Zv0, Iv0, Ov0⟩ := row_of p hp
  obtain ⟨vf, evf, HVF, Zvf, Ivf, Ovf⟩ := fault_of (if r = p then 0 else 12)
  obtain ⟨vz, evz, HVZ, Zvz, Ivz, Ovz⟩ := fault_of 0
  obtain ⟨vm, evm, Hvm, Zvm, Ivm, Ovm⟩ := row_of (msgB x (bOf t)) (msgB_length _ _)
  obtain ⟨vr, evr, Hvr, Zvr, Ivr, Ovr⟩ := row_of (recB (msgB x (bOf t)) C) (endB_length _)
  obtain ⟨vl, evl, Hvl, Zvl, Ivl, Ovl⟩ := row_of lf hlf32
  obtain ⟨vo, evo, Hvo, Zvo, Ivo, Ovo⟩ := row_of r hr32
  obtain ⟨sv, hsv9⟩ : ∃ y : Array Value, #[.int .i64 x, .slice A 67 c, .slice A2 n c2] = y := ⟨_, rfl⟩
  have Zsv : Hid (sv.size = 3) := Lib.hid (by rw [← hsv9]; rfl)
  have Isv : Hid ((Tryz.prog.info? 26).map (·.size) = some sv.size) := Lib.hid (by rw [Zsv.out]; kernel_rfl)
  obtain ⟨wv, hwv⟩ : ∃ y9 : World, (((w.alloc (.cells v0 23)).alloc (.cells sv 26)).alloc (.cells #[.int .i64 0, .int .i64 0] 34)) = y9 := ⟨_, rfl⟩
  have HBv : Hid (Below w.heap.size w wv) := Lib.hid (by rw [← hwv]; exact ((((Below.refl _ _).alloc (by simp <;> omega) _).alloc (by simp <;> omega) _).alloc (by simp <;> omega) _))
  have HSV : Hid (wv.heap.size = w.heap.size + 3) := Lib.hid (by rw [← hwv]; simp)
  have RV : Hid (wv.heap[w.heap.size]? = some (.cells v0 23 (0, 0))) := Lib.hid (by rw [← hwv]; exact ((((Below.refl (w.alloc (.cells v0 23)).heap.size (w.alloc (.cells v0 23))).alloc (Nat.le_refl _) _).alloc (by simp <;> omega) _).block w.heap.size (by simp <;> omega)).trans (heap_at _ _ _ (by simp <;> omega)))
  have RS0 : Hid (wv.heap[(w.heap.size + 1)]? = some (.cells sv 26 (0, 0))) := Lib.hid (by rw [← hwv]; exact (((Below.refl ((w.alloc (.cells v0 23)).alloc (.cells sv 26)).heap.size ((w.alloc (.cells v0 23)).alloc (.cells sv 26))).alloc (Nat.le_refl _) _).block (w.heap.size + 1) (by simp <;> omega)).trans (heap_at _ _ _ (by simp <;> omega)))
  have RF0 : Hid (wv.heap[(w.heap.size + 2)]? = some (.cells #[.int .i64 0, .int .i64 0] 34 (0, 0))) := Lib.hid (by rw [← hwv]; exact heap_at _ _ _ (by simp <;> omega))
  have HWV := Lib.hid hwv
  have hsvv := HSV.out
  have RS : Hid (wv.heap[w.heap.size + 1]? = some (.cells sv 26 (0, 0))) := RS0
  have RF : Hid (wv.heap[(w.heap.size + 1 + 1)]? = some (.cells #[.int .i64 0, .int .i64 0] 34 (0, 0))) := RF0
  have KSA : ∀ w' : World, w'.heap[w.heap.size + 1]? = some (.cells sv 26 (0, 0)) → w'.cell? ⟨w.heap.size + 1, 0, none⟩ = some (.int .i64 x) ∧ w'.cell? ⟨w.heap.size + 1, 1, none⟩ = some (.slice A 67 c) ∧ w'.cell? ⟨w.heap.size + 1, 2, none⟩ = some (.slice A2 n c2) := fun w' hg => by
    rw [← hsv9] at hg
    exact ⟨(cell_of_row w' _ 0 _ 26 (0, 0) hg).trans rfl, (cell_of_row w' _ 1 _ 26 (0, 0) hg).trans rfl, (cell_of_row w' _ 2 _ 26 (0, 0) hg).trans rfl⟩
  have HKSA := Lib.hid KSA
  have hx64 : x < 64 := Nat.lt_of_lt_of_le hx (Nat.pow_le_pow_right (n := 2) (by omega) (show h ≤ 6 from h6))
  have HMAY : Hid (∀ w', Calls Tryz.prog 38 #[.agg sv] w' fun ev w2 => ev = .returned (.bool true) ∧ Below w'.heap.size w' w2) := Lib.hid (fun w' => by
    have h9 := rmay_any x 67 n A A2 c c2 w'
    rw [show decide ((0 : Int) ≤ (x : Int) ∧ (x : Int) < 64 ∧ 67 = 67 ∧ n ≤ 6) = true from decide_eq_true ⟨by omega, by omega, rfl, by omega⟩, hsv9] at h9
    exact h9)
  have HME : Hid (∀ w', Calls Tryz.prog 40 #[.int .i64 x, .string t] w' fun ev w3 => ev = .returned (.agg vm) ∧ Below w'.heap.size w' w3) := Lib.hid (fun w' => by
    have := rmsg_any x t w' (by omega) ht
    rw [evm] at this; exact this)
  have HC := Lib.hid (hC.below HBv.out)
  have HP := Lib.hid (hP.below HBv.out)
  have HRC0 : Hid (∀ w', Below wv.heap.size wv w' → Calls Tryz.prog 39 #[.agg vm, .slice A 67 c] w' fun ev w3 => ev = .returned (.tuple #[.agg vr, .agg vz]) ∧ Below w'.heap.size w' w3) := Lib.hid (fun w' hb => by
    have := rrec_any (msgB x (bOf t)) A c C w' (msgB_length _ _) (HC.out.below hb)
    rw [evm, evr, evz] at this; exact this)
  have HLF : Hid (∀ w', Calls Tryz.prog 42 #[.agg vr] w' fun ev w3 => ev = .returned (.agg vl) ∧ Below w'.heap.size w' w3) := Lib.hid (fun w' => by
    have := rleaf_any (recB (msgB x (bOf t)) C) w' (endB_length _)
    rw [evr, hlf, evl] at this; exact this)
  have HRT0 : Hid (∀ w', Below wv.heap.size wv w' → Calls Tryz.prog 41 #[.int .u64 x, .int .u64 ((2 ^ h : Nat) : Int), .agg vl, .slice A2 n c2] w' fun ev w3 => ev = .returned (.tuple #[.agg vo, .agg vz]) ∧ Below w'.heap.size w' w3) := Lib.hid (fun w' hb => by
    have hP2 : (2 : Nat) ^ h ≤ 64 := Nat.pow_le_pow_right (n := 2) (by omega) (show h ≤ 6 from h6)
    have := root18_ok (x : Int) ((2 ^ h : Nat) : Int) lf hlf32 P A2 n c2 w' (by omega) (by omega) (Int.natCast_nonneg _) (Int.le_trans (Int.ofNat_le.2 hP2) (by omega)) (HP.out.below hb) (by exact_mod_cast hx) hpl
    rw [hsay, evl, evo, evz] at this; exact this)
  have hPW : (2 : Nat) ^ h ≤ 64 := Nat.pow_le_pow_right (n := 2) (by omega) (show h ≤ 6 from h6)
  obtain ⟨Q, hQ⟩ : ∃ Q, 2 ^ h = Q := ⟨_, rfl⟩
  rw [hQ] at hx HRT0 hPW
  have hq64 : -9223372036854775808 ≤ (Q : Int) ∧ (Q : Int) ≤ 9223372036854775807 := by clear hQ; exact ⟨by omega, by omega⟩
  have hq65 : 0 ≤ (Q : Int) ∧ (Q : Int) ≤ 18446744073709551615 := by clear hQ; exact ⟨by omega, by omega⟩
  have e8 : IntKind.u64.wrap (h : Int) = (h : Int) := by clear hQ hq64 hq65; exact IntWalk.u64_in _ (by omega)
  have hQ2 : ((2 : Int) ^ h) = (Q : Int) := by rw [← hQ]; push_cast; rfl
  have e4 : wrap64 ((2 : Int) ^ h) = (Q : Int) := by
    rw [hQ2]
    exact IntWalk.wrap64_in _ hq64
  have e6 : IntKind.i64.wrap ((2 : Int) ^ h) = (Q : Int) := by
    rw [hQ2]
    exact IntWalk.i64_in _ hq64
  have e5 : IntKind.u64.wrap ((2 : Int) ^ h) = (Q : Int) := by
    rw [hQ2]
    exact IntWalk.u64_in _ hq65
  have g1 : decide ((Q : Int) ≤ x) = false := by clear hQ2 e4 e6 e5; simp; omega
  have g1n : decide (Q ≤ x) = false := by clear hQ2 e4 e6 e5; simp; omega
  have e7 : IntKind.u64.wrap (x : Int) = x := IntWalk.u64_in _ (by omega)
  have g2 : decide ((6 : Int) < h) = false := by simp; omega
  have g3 : decide ((h : Int) < 0) = false := by simp
  have k0 : (0 : Int) ≤ h := by omega
  have HRP := Lib.hid (And.intro hr32 hp)
  have EVO := Lib.hid evo
  have EV0 := Lib.hid ev0
  have EVF := Lib.hid evf
  have EVZ := Lib.hid evz
  have hnn : (n : Int) = h := by omega
  rw [ev0, hsv9, evf]
  clear KSA hwv hsv9 hp ev0 evf evz evm evr evl evo hC hP hlf hr hsay hpl hnP hlf32 hr32 hx hx64 hQ hQ2 hq64 hq65 ht
  subst hn
  go_enter Tryz.func10, Tryz.ntmps10
  go_upto_region 1 with fail
  rw [HWV.out]
  go_wp2_with (refine wpList_load_row_g rfl 26 _ rfl (w.heap.size + 1) rfl 26 sv (0, 0) _ RS.out Tryz.underlying26 rfl Isv.out ?_)
  refine (HMAY.out wv).mono ?_
  rintro ev w1 ⟨rfl, b1⟩
  have B1 := Lib.hid b1
  have hs1 := b1.size
  have RS1 := Lib.hid ((b1.block _ (by omega)).trans RS.out)
  obtain ⟨z0, z1, z2⟩ := HKSA.out w1 RS1.out
  clear b1
  have KS1 : Hid (∀ w', But (fun _ => False) w1 w' → w'.cell? ⟨w.heap.size + 1, 0, none⟩ = some (.int .i64 x) ∧ w'.cell? ⟨w.heap.size + 1, 1, none⟩ = some (.slice A 67 c) ∧ w'.cell? ⟨w.heap.size + 1, 2, none⟩ = some (.slice A2 n c2)) := Lib.hid (fun w' hw => HKSA.out w' ((hw.same _ (by omega) (fun q => q)).trans RS1.out))
  have HRC : Hid (∀ w', Below w1.heap.size w1 w' → Calls Tryz.prog 39 #[.agg vm, .slice A 67 c] w' fun ev w3 => ev = .returned (.tuple #[.agg vr, .agg vz]) ∧ Below w'.heap.size w' w3) := Lib.hid (fun w' hb => HRC0.out w' (B1.out.trans (hb.mono B1.out.size)))
  have HRT : Hid (∀ w', Below w1.heap.size w1 w' → Calls Tryz.prog 41 #[.int .u64 x, .int .u64 Q, .agg vl, .slice A2 n c2] w' fun ev w3 => ev = .returned (.tuple #[.agg vo, .agg vz]) ∧ Below w'.heap.size w' w3) := Lib.hid (fun w' hb => HRT0.out w' (B1.out.trans (hb.mono B1.out.size)))
  go_upto_region 3 with fail
  go_cut [9] (fun s9 w8 => ∃ g9 : Nat, s9 = .pointer (some ⟨g9, 0, none⟩) ∧ Hid (Below w1.heap.size w1 w8 ∧ w8.heap[g9]? = some (.cells vr 23 (0, 0))))
  case first =>
    refine wp_region_held_drew (S := But (fun _ => False) w1) (by kernel_rfl) (But.refl _ _).drew (fun hHeld => ?_)
    refine tk (i := 0) (v := ?v1) rfl ?y1 ?r1
    case y1 => (intro w hSw; (try dsimp only at hSw); go_simp; (try with_reducible rfl))
    try simp only [pu]
    refine tk (i := 1) (v := ?v2) rfl ?y2 ?r2
    case y2 => (intro w hSw; (try dsimp only at hSw); obtain ⟨z0, z1, z2⟩ := KS1.out w hSw; go_simp; (try with_reducible rfl))
    try simp only [pu]
    refine tk (i := 2) (v := ?v3) rfl ?y3 ?r3
    case y3 => (intro w hSw; (try dsimp only at hSw); go_simp; (try with_reducible rfl))
    try simp only [pu]
    refine tk (i := 4) (v := ?v4) rfl ?y4 ?r4
    case y4 => (intro w hSw; (try dsimp only at hSw); go_simp; (try with_reducible rfl))
    try simp only [pu]
    refine tk (i := 5) (v := ?v5) rfl ?y5 ?r5
    case y5 => (intro w hSw; (try dsimp only at hSw); obtain ⟨z0, z1, z2⟩ := KS1.out w hSw; go_simp; (try with_reducible rfl))
    try simp only [pu]
    refine wpAnyH_ready (rs := [3, 10, 11]) (by kernel_rfl) (by simp) ?_
    refine AllReadyH.cons (i := 3) rfl (fun K2 hK2 => ?_) ?more6
    · skip
      go_simp
      go_at_call 40
      refine (HME.out w1.drew).mono ?_
      rintro ev w701 ⟨rfl, bw701⟩
      try go_wp2_with fail
      obtain ⟨Kw701, fw701⟩ := st_call ((But.refl (fun _ => False) w1).drew) bw701
      have Kw701 := Lib.hid Kw701
      clear bw701 fw701
      refine hK2.out _ _ Kw701.out (fun hHeld2 => ?_)
      clear hK2 K2
      try simp only [pu]
      refine wpAnyH_ready (rs := [6, 10, 11]) (by kernel_rfl) (by simp) ?_
      refine AllReadyH.cons (i := 6) rfl (fun K2 hK2 => ?_) ?more7
      · skip
        go_simp
        go_at_call 39
        refine (HRC.out w701 (But.to_below Kw701.out (Nat.le_refl _) (fun _ _ q => q))).mono ?_
        rintro ev w702 ⟨rfl, bw702⟩
        try go_wp2_with fail
        obtain ⟨Kw702, fw702⟩ := st_call Kw701.out bw702
        have Kw702 := Lib.hid Kw702
        clear bw702 fw702
        refine hK2.out _ _ Kw702.out (fun hHeld2 => ?_)
        clear hK2 K2
        try simp only [pu]
        refine tk (i := 7) (v := ?v8) rfl ?y8 ?r8
        case y8 => (intro w hSw; (try dsimp only at hSw); go_simp; (try with_reducible rfl))
        try simp only [pu]
        refine tk (i := 8) (v := ?v9) rfl ?y9 ?r9
        case y9 => (intro w hSw; (try dsimp only at hSw); go_simp; (try with_reducible rfl))
        try simp only [pu]
        refine tk (i := 9) (v := ?v10) rfl ?y10 ?r10
        case y10 => (intro w hSw; (try dsimp only at hSw); go_simp; (try with_reducible rfl))
        try simp only [pu]
        refine wpAnyH_ready (rs := [10, 11]) (by kernel_rfl) (by simp) ?_
        refine AllReadyH.cons (i := 10) rfl (fun K2 hK2 => ?_) ?more11
        · skip
          go_simp
          obtain ⟨w703, hw703⟩ : ∃ x, (w702.alloc (.cells (List.replicate 32 (Value.int .u8 0)).toArray 23)) = x := ⟨_, rfl⟩
          obtain ⟨g703, hg703⟩ : ∃ x, w702.heap.size = x := ⟨_, rfl⟩
          obtain ⟨Kw703, Tw703_0, qw703, fw703⟩ := st_alloc Kw702.out hw703 hg703
          simp only [List.replicate] at hw703; rw [hw703, hg703]; clear hw703 hg703
          have Kw703 := Lib.hid Kw703
          have Tw703_0 := Lib.hid Tw703_0
          clear fw703
          refine hK2.out _ _ Kw703.out (fun hHeld2 => ?_)
          clear hK2 K2
          try simp only [pu]
          refine wpAnyH_ready (rs := [11]) (by kernel_rfl) (by simp) ?_
          refine AllReadyH.cons (i := 11) rfl (fun K2 hK2 => ?_) AllReadyH.nil
          go_simp
          obtain ⟨w704, hw704⟩ : ∃ x, (w703.alloc (.cells #[.int .i64 0, .int .i64 0] 34)) = x := ⟨_, rfl⟩
          obtain ⟨g704, hg704⟩ : ∃ x, w703.heap.size = x := ⟨_, rfl⟩
          obtain ⟨Kw704, Tw704_1, qw704, fw704⟩ := st_alloc Kw703.out hw704 hg704
          rw [hw704, hg704]; clear hw704 hg704
          have Kw704 := Lib.hid Kw704
          have Tw704_1 := Lib.hid Tw704_1
          obtain ⟨Tw704_0, dw704_0⟩ := fw704 _ _ Tw703_0.out
          have Tw704_0 := Lib.hid Tw704_0
          clear fw704
          refine hK2.out _ _ Kw704.out (fun hHeld2 => ?_)
          clear hK2 K2
          try simp only [pu]
          refine wpAnyH_ready (rs := [12]) (by kernel_rfl) (by simp) ?_
          refine AllReadyH.cons (i := 12) rfl (fun K2 hK2 => ?_) AllReadyH.nil
          rw [if_pos (by rfl)]
          refine wp_store_row 23 _ _ rfl g703 vr rfl rfl 23 _ Tw704_0.out Ivr.out (by rw [Zvr.out]; rfl) Ovr.out ?_
          obtain ⟨w705, hw705⟩ : ∃ x, w704.setRow g703 vr = x := ⟨_, rfl⟩
          obtain ⟨Kw705, Tw705_0, fw705⟩ := st_row Kw704.out hw705 (fun h => absurd h (by omega)) Tw704_0.out
          have Kw705 := Lib.hid Kw705
          have Tw705_0 := Lib.hid Tw705_0
          have Tw705_1 := Lib.hid (fw705 _ _ (by omega) Tw704_1.out)
          clear fw705
          rw [hw705]
          clear hw705
          refine hK2.out _ _ Kw705.out (fun hHeld2 => ?_)
          clear hK2 K2
          try simp only [pu]
          refine wpAnyH_ready (rs := [13]) (by kernel_rfl) (by simp) ?_
          refine AllReadyH.cons (i := 13) rfl (fun K2 hK2 => ?_) AllReadyH.nil
          rw [if_pos (by rfl)]
          refine wp_store_row 34 _ _ rfl g704 vz rfl rfl 34 _ Tw705_1.out Ivz.out (by rw [Zvz.out]; rfl) Ovz.out ?_
          obtain ⟨w706, hw706⟩ : ∃ x, w705.setRow g704 vz = x := ⟨_, rfl⟩
          obtain ⟨Kw706, Tw706_1, fw706⟩ := st_row Kw705.out hw706 (fun h => absurd h (by omega)) Tw705_1.out
          have Kw706 := Lib.hid Kw706
          have Tw706_1 := Lib.hid Tw706_1
          have Tw706_0 := Lib.hid (fw706 _ _ (by omega) Tw705_0.out)
          clear fw706
          rw [hw706]
          clear hw706
          refine hK2.out _ _ Kw706.out (fun hHeld2 => ?_)
          clear hK2 K2
          try simp only [pu]
          refine wpAnyH_done (by kernel_rfl) ?_ _
          go_wp2_with fail
          go_meet
          exact ⟨_, rfl, Lib.hid ⟨(But.to_below Kw706.out (Nat.le_refl _) (fun _ _ q => q)), Tw706_0.out⟩⟩
        
        refine AllReadyH.cons (i := 11) rfl (fun K2 hK2 => ?_) ?more12
        · skip
          go_simp
          obtain ⟨w707, hw707⟩ : ∃ x, (w702.alloc (.cells #[.int .i64 0, .int .i64 0] 34)) = x := ⟨_, rfl⟩
          obtain ⟨g707, hg707⟩ : ∃ x, w702.heap.size = x := ⟨_, rfl⟩
          obtain ⟨Kw707, Tw707_0, qw707, fw707⟩ := st_alloc Kw702.out hw707 hg707
          rw [hw707, hg707]; clear hw707 hg707
          have Kw707 := Lib.hid Kw707
          have Tw707_0 := Lib.hid Tw707_0
          clear fw707
          refine hK2.out _ _ Kw707.out (fun hHeld2 => ?_)
          clear hK2 K2
          try simp only [pu]
          refine wpAnyH_ready (rs := [10]) (by kernel_rfl) (by simp) ?_
          refine AllReadyH.cons (i := 10) rfl (fun K2 hK2 => ?_) AllReadyH.nil
          go_simp
          obtain ⟨w708, hw708⟩ : ∃ x, (w707.alloc (.cells (List.replicate 32 (Value.int .u8 0)).toArray 23)) = x := ⟨_, rfl⟩
          obtain ⟨g708, hg708⟩ : ∃ x, w707.heap.size = x := ⟨_, rfl⟩
          obtain ⟨Kw708, Tw708_1, qw708, fw708⟩ := st_alloc Kw707.out hw708 hg708
          simp only [List.replicate] at hw708; rw [hw708, hg708]; clear hw708 hg708
          have Kw708 := Lib.hid Kw708
          have Tw708_1 := Lib.hid Tw708_1
          obtain ⟨Tw708_0, dw708_0⟩ := fw708 _ _ Tw707_0.out
          have Tw708_0 := Lib.hid Tw708_0
          clear fw708
          refine hK2.out _ _ Kw708.out (fun hHeld2 => ?_)
          clear hK2 K2
          try simp only [pu]
          refine wpAnyH_ready (rs := [12]) (by kernel_rfl) (by simp) ?_
          refine AllReadyH.cons (i := 12) rfl (fun K2 hK2 => ?_) AllReadyH.nil
          rw [if_pos (by rfl)]
          refine wp_store_row 23 _ _ rfl g708 vr rfl rfl 23 _ Tw708_1.out Ivr.out (by rw [Zvr.out]; rfl) Ovr.out ?_
          obtain ⟨w709, hw709⟩ : ∃ x, w708.setRow g708 vr = x := ⟨_, rfl⟩
          obtain ⟨Kw709, Tw709_1, fw709⟩ := st_row Kw708.out hw709 (fun h => absurd h (by omega)) Tw708_1.out
          have Kw709 := Lib.hid Kw709
          have Tw709_1 := Lib.hid Tw709_1
          have Tw709_0 := Lib.hid (fw709 _ _ (by omega) Tw708_0.out)
          clear fw709
          rw [hw709]
          clear hw709
          refine hK2.out _ _ Kw709.out (fun hHeld2 => ?_)
          clear hK2 K2
          try simp only [pu]
          refine wpAnyH_ready (rs := [13]) (by kernel_rfl) (by simp) ?_
          refine AllReadyH.cons (i := 13) rfl (fun K2 hK2 => ?_) AllReadyH.nil
          rw [if_pos (by rfl)]
          refine wp_store_row 34 _ _ rfl g707 vz rfl rfl 34 _ Tw709_0.out Ivz.out (by rw [Zvz.out]; rfl) Ovz.out ?_
          obtain ⟨w710, hw710⟩ : ∃ x, w709.setRow g707 vz = x := ⟨_, rfl⟩
          obtain ⟨Kw710, Tw710_0, fw710⟩ := st_row Kw709.out hw710 (fun h => absurd h (by omega)) Tw709_0.out
          have Kw710 := Lib.hid Kw710
          have Tw710_0 := Lib.hid Tw710_0
          have Tw710_1 := Lib.hid (fw710 _ _ (by omega) Tw709_1.out)
          clear fw710
          rw [hw710]
          clear hw710
          refine hK2.out _ _ Kw710.out (fun hHeld2 => ?_)
          clear hK2 K2
          try simp only [pu]
          refine wpAnyH_done (by kernel_rfl) ?_ _
          go_wp2_with fail
          go_meet
          exact ⟨_, rfl, Lib.hid ⟨(But.to_below Kw710.out (Nat.le_refl _) (fun _ _ q => q)), Tw710_1.out⟩⟩
        
        exact AllReadyH.nil
      
      refine AllReadyH.cons (i := 10) rfl (fun K2 hK2 => ?_) ?more13
      · skip
        go_simp
        obtain ⟨w711, hw711⟩ : ∃ x, (w701.alloc (.cells (List.replicate 32 (Value.int .u8 0)).toArray 23)) = x := ⟨_, rfl⟩
        obtain ⟨g711, hg711⟩ : ∃ x, w701.heap.size = x := ⟨_, rfl⟩
        obtain ⟨Kw711, Tw711_0, qw711, fw711⟩ := st_alloc Kw701.out hw711 hg711
        simp only [List.replicate] at hw711; rw [hw711, hg711]; clear hw711 hg711
        have Kw711 := Lib.hid Kw711
        have Tw711_0 := Lib.hid Tw711_0
        clear fw711
        refine hK2.out _ _ Kw711.out (fun hHeld2 => ?_)
        clear hK2 K2
        try simp only [pu]
        refine wpAnyH_ready (rs := [6, 11]) (by kernel_rfl) (by simp) ?_
        refine AllReadyH.cons (i := 6) rfl (fun K2 hK2 => ?_) ?more14
        · skip
          go_simp
          go_at_call 39
          refine (HRC.out w711 (But.to_below Kw711.out (Nat.le_refl _) (fun _ _ q => q))).mono ?_
          rintro ev w712 ⟨rfl, bw712⟩
          try go_wp2_with fail
          obtain ⟨Kw712, fw712⟩ := st_call Kw711.out bw712
          have Kw712 := Lib.hid Kw712
          have Tw712_0 := Lib.hid (fw712 _ _ Tw711_0.out)
          clear bw712 fw712
          refine hK2.out _ _ Kw712.out (fun hHeld2 => ?_)
          clear hK2 K2
          try simp only [pu]
          refine tk (i := 7) (v := ?v15) rfl ?y15 ?r15
          case y15 => (intro w hSw; (try dsimp only at hSw); go_simp; (try with_reducible rfl))
          try simp only [pu]
          refine tk (i := 8) (v := ?v16) rfl ?y16 ?r16
          case y16 => (intro w hSw; (try dsimp only at hSw); go_simp; (try with_reducible rfl))
          try simp only [pu]
          refine tk (i := 9) (v := ?v17) rfl ?y17 ?r17
          case y17 => (intro w hSw; (try dsimp only at hSw); go_simp; (try with_reducible rfl))
          try simp only [pu]
          refine wpAnyH_ready (rs := [11]) (by kernel_rfl) (by simp) ?_
          refine AllReadyH.cons (i := 11) rfl (fun K2 hK2 => ?_) AllReadyH.nil
          go_simp
          obtain ⟨w713, hw713⟩ : ∃ x, (w712.alloc (.cells #[.int .i64 0, .int .i64 0] 34)) = x := ⟨_, rfl⟩
          obtain ⟨g713, hg713⟩ : ∃ x, w712.heap.size = x := ⟨_, rfl⟩
          obtain ⟨Kw713, Tw713_1, qw713, fw713⟩ := st_alloc Kw712.out hw713 hg713
          rw [hw713, hg713]; clear hw713 hg713
          have Kw713 := Lib.hid Kw713
          have Tw713_1 := Lib.hid Tw713_1
          obtain ⟨Tw713_0, dw713_0⟩ := fw713 _ _ Tw712_0.out
          have Tw713_0 := Lib.hid Tw713_0
          clear fw713
          refine hK2.out _ _ Kw713.out (fun hHeld2 => ?_)
          clear hK2 K2
          try simp only [pu]
          refine wpAnyH_ready (rs := [12]) (by kernel_rfl) (by simp) ?_
          refine AllReadyH.cons (i := 12) rfl (fun K2 hK2 => ?_) AllReadyH.nil
          rw [if_pos (by rfl)]
          refine wp_store_row 23 _ _ rfl g711 vr rfl rfl 23 _ Tw713_0.out Ivr.out (by rw [Zvr.out]; rfl) Ovr.out ?_
          obtain ⟨w714, hw714⟩ : ∃ x, w713.setRow g711 vr = x := ⟨_, rfl⟩
          obtain ⟨Kw714, Tw714_0, fw714⟩ := st_row Kw713.out hw714 (fun h => absurd h (by omega)) Tw713_0.out
          have Kw714 := Lib.hid Kw714
          have Tw714_0 := Lib.hid Tw714_0
          have Tw714_1 := Lib.hid (fw714 _ _ (by omega) Tw713_1.out)
          clear fw714
          rw [hw714]
          clear hw714
          refine hK2.out _ _ Kw714.out (fun hHeld2 => ?_)
          clear hK2 K2
          try simp only [pu]
          refine wpAnyH_ready (rs := [13]) (by kernel_rfl) (by simp) ?_
          refine AllReadyH.cons (i := 13) rfl (fun K2 hK2 => ?_) AllReadyH.nil
          rw [if_pos (by rfl)]
          refine wp_store_row 34 _ _ rfl g713 vz rfl rfl 34 _ Tw714_1.out Ivz.out (by rw [Zvz.out]; rfl) Ovz.out ?_
          obtain ⟨w715, hw715⟩ : ∃ x, w714.setRow g713 vz = x := ⟨_, rfl⟩
          obtain ⟨Kw715, Tw715_1, fw715⟩ := st_row Kw714.out hw715 (fun h => absurd h (by omega)) Tw714_1.out
          have Kw715 := Lib.hid Kw715
          have Tw715_1 := Lib.hid Tw715_1
          have Tw715_0 := Lib.hid (fw715 _ _ (by omega) Tw714_0.out)
          clear fw715
          rw [hw715]
          clear hw715
          refine hK2.out _ _ Kw715.out (fun hHeld2 => ?_)
          clear hK2 K2
          try simp only [pu]
          refine wpAnyH_done (by kernel_rfl) ?_ _
          go_wp2_with fail
          go_meet
          exact ⟨_, rfl, Lib.hid ⟨(But.to_below Kw715.out (Nat.le_refl _) (fun _ _ q => q)), Tw715_0.out⟩⟩
        
        refine AllReadyH.cons (i := 11) rfl (fun K2 hK2 => ?_) ?more18
        · skip
          go_simp
          obtain ⟨w716, hw716⟩ : ∃ x, (w711.alloc (.cells #[.int .i64 0, .int .i64 0] 34)) = x := ⟨_, rfl⟩
          obtain ⟨g716, hg716⟩ : ∃ x, w711.heap.size = x := ⟨_, rfl⟩
          obtain ⟨Kw716, Tw716_1, qw716, fw716⟩ := st_alloc Kw711.out hw716 hg716
          rw [hw716, hg716]; clear hw716 hg716
          have Kw716 := Lib.hid Kw716
          have Tw716_1 := Lib.hid Tw716_1
          obtain ⟨Tw716_0, dw716_0⟩ := fw716 _ _ Tw711_0.out
          have Tw716_0 := Lib.hid Tw716_0
          clear fw716
          refine hK2.out _ _ Kw716.out (fun hHeld2 => ?_)
          clear hK2 K2
          try simp only [pu]
          refine wpAnyH_ready (rs := [6]) (by kernel_rfl) (by simp) ?_
          refine AllReadyH.cons (i := 6) rfl (fun K2 hK2 => ?_) AllReadyH.nil
          go_simp
          go_at_call 39
          refine (HRC.out w716 (But.to_below Kw716.out (Nat.le_refl _) (fun _ _ q => q))).mono ?_
          rintro ev w717 ⟨rfl, bw717⟩
          try go_wp2_with fail
          obtain ⟨Kw717, fw717⟩ := st_call Kw716.out bw717
          have Kw717 := Lib.hid Kw717
          have Tw717_0 := Lib.hid (fw717 _ _ Tw716_0.out)
          have Tw717_1 := Lib.hid (fw717 _ _ Tw716_1.out)
          clear bw717 fw717
          refine hK2.out _ _ Kw717.out (fun hHeld2 => ?_)
          clear hK2 K2
          try simp only [pu]
          refine tk (i := 7) (v := ?v19) rfl ?y19 ?r19
          case y19 => (intro w hSw; (try dsimp only at hSw); go_simp; (try with_reducible rfl))
          try simp only [pu]
          refine tk (i := 8) (v := ?v20) rfl ?y20 ?r20
          case y20 => (intro w hSw; (try dsimp only at hSw); go_simp; (try with_reducible rfl))
          try simp only [pu]
          refine tk (i := 9) (v := ?v21) rfl ?y21 ?r21
          case y21 => (intro w hSw; (try dsimp only at hSw); go_simp; (try with_reducible rfl))
          try simp only [pu]
          refine wpAnyH_ready (rs := [12]) (by kernel_rfl) (by simp) ?_
          refine AllReadyH.cons (i := 12) rfl (fun K2 hK2 => ?_) AllReadyH.nil
          rw [if_pos (by rfl)]
          refine wp_store_row 23 _ _ rfl g711 vr rfl rfl 23 _ Tw717_0.out Ivr.out (by rw [Zvr.out]; rfl) Ovr.out ?_
          obtain ⟨w718, hw718⟩ : ∃ x, w717.setRow g711 vr = x := ⟨_, rfl⟩
          obtain ⟨Kw718, Tw718_0, fw718⟩ := st_row Kw717.out hw718 (fun h => absurd h (by omega)) Tw717_0.out
          have Kw718 := Lib.hid Kw718
          have Tw718_0 := Lib.hid Tw718_0
          have Tw718_1 := Lib.hid (fw718 _ _ (by omega) Tw717_1.out)
          clear fw718
          rw [hw718]
          clear hw718
          refine hK2.out _ _ Kw718.out (fun hHeld2 => ?_)
          clear hK2 K2
          try simp only [pu]
          refine wpAnyH_ready (rs := [13]) (by kernel_rfl) (by simp) ?_
          refine AllReadyH.cons (i := 13) rfl (fun K2 hK2 => ?_) AllReadyH.nil
          rw [if_pos (by rfl)]
          refine wp_store_row 34 _ _ rfl g716 vz rfl rfl 34 _ Tw718_1.out Ivz.out (by rw [Zvz.out]; rfl) Ovz.out ?_
          obtain ⟨w719, hw719⟩ : ∃ x, w718.setRow g716 vz = x := ⟨_, rfl⟩
          obtain ⟨Kw719, Tw719_1, fw719⟩ := st_row Kw718.out hw719 (fun h => absurd h (by omega)) Tw718_1.out
          have Kw719 := Lib.hid Kw719
          have Tw719_1 := Lib.hid Tw719_1
          have Tw719_0 := Lib.hid (fw719 _ _ (by omega) Tw718_0.out)
          clear fw719
          rw [hw719]
          clear hw719
          refine hK2.out _ _ Kw719.out (fun hHeld2 => ?_)
          clear hK2 K2
          try simp only [pu]
          refine wpAnyH_done (by kernel_rfl) ?_ _
          go_wp2_with fail
          go_meet
          exact ⟨_, rfl, Lib.hid ⟨(But.to_below Kw719.out (Nat.le_refl _) (fun _ _ q => q)), Tw719_0.out⟩⟩
        
        exact AllReadyH.nil
      
      refine AllReadyH.cons (i := 11) rfl (fun K2 hK2 => ?_) ?more22
      · skip
        go_simp
        obtain ⟨w720, hw720⟩ : ∃ x, (w701.alloc (.cells #[.int .i64 0, .int .i64 0] 34)) = x := ⟨_, rfl⟩
        obtain ⟨g720, hg720⟩ : ∃ x, w701.heap.size = x := ⟨_, rfl⟩
        obtain ⟨Kw720, Tw720_0, qw720, fw720⟩ := st_alloc Kw701.out hw720 hg720
        rw [hw720, hg720]; clear hw720 hg720
        have Kw720 := Lib.hid Kw720
        have Tw720_0 := Lib.hid Tw720_0
        clear fw720
        refine hK2.out _ _ Kw720.out (fun hHeld2 => ?_)
        clear hK2 K2
        try simp only [pu]
        refine wpAnyH_ready (rs := [6, 10]) (by kernel_rfl) (by simp) ?_
        refine AllReadyH.cons (i := 6) rfl (fun K2 hK2 => ?_) ?more23
        · skip
          go_simp
          go_at_call 39
          refine (HRC.out w720 (But.to_below Kw720.out (Nat.le_refl _) (fun _ _ q => q))).mono ?_
          rintro ev w721 ⟨rfl, bw721⟩
          try go_wp2_with fail
          obtain ⟨Kw721, fw721⟩ := st_call Kw720.out bw721
          have Kw721 := Lib.hid Kw721
          have Tw721_0 := Lib.hid (fw721 _ _ Tw720_0.out)
          clear bw721 fw721
          refine hK2.out _ _ Kw721.out (fun hHeld2 => ?_)
          clear hK2 K2
          try simp only [pu]
          refine tk (i := 7) (v := ?v24) rfl ?y24 ?r24
          case y24 => (intro w hSw; (try dsimp only at hSw); go_simp; (try with_reducible rfl))
          try simp only [pu]
          refine tk (i := 8) (v := ?v25) rfl ?y25 ?r25
          case y25 => (intro w hSw; (try dsimp only at hSw); go_simp; (try with_reducible rfl))
          try simp only [pu]
          refine tk (i := 9) (v := ?v26) rfl ?y26 ?r26
          case y26 => (intro w hSw; (try dsimp only at hSw); go_simp; (try with_reducible rfl))
          try simp only [pu]
          refine wpAnyH_ready (rs := [10]) (by kernel_rfl) (by simp) ?_
          refine AllReadyH.cons (i := 10) rfl (fun K2 hK2 => ?_) AllReadyH.nil
          go_simp
          obtain ⟨w722, hw722⟩ : ∃ x, (w721.alloc (.cells (List.replicate 32 (Value.int .u8 0)).toArray 23)) = x := ⟨_, rfl⟩
          obtain ⟨g722, hg722⟩ : ∃ x, w721.heap.size = x := ⟨_, rfl⟩
          obtain ⟨Kw722, Tw722_1, qw722, fw722⟩ := st_alloc Kw721.out hw722 hg722
          simp only [List.replicate] at hw722; rw [hw722, hg722]; clear hw722 hg722
          have Kw722 := Lib.hid Kw722
          have Tw722_1 := Lib.hid Tw722_1
          obtain ⟨Tw722_0, dw722_0⟩ := fw722 _ _ Tw721_0.out
          have Tw722_0 := Lib.hid Tw722_0
          clear fw722
          refine hK2.out _ _ Kw722.out (fun hHeld2 => ?_)
          clear hK2 K2
          try simp only [pu]
          refine wpAnyH_ready (rs := [12]) (by kernel_rfl) (by simp) ?_
          refine AllReadyH.cons (i := 12) rfl (fun K2 hK2 => ?_) AllReadyH.nil
          rw [if_pos (by rfl)]
          refine wp_store_row 23 _ _ rfl g722 vr rfl rfl 23 _ Tw722_1.out Ivr.out (by rw [Zvr.out]; rfl) Ovr.out ?_
          obtain ⟨w723, hw723⟩ : ∃ x, w722.setRow g722 vr = x := ⟨_, rfl⟩
          obtain ⟨Kw723, Tw723_1, fw723⟩ := st_row Kw722.out hw723 (fun h => absurd h (by omega)) Tw722_1.out
          have Kw723 := Lib.hid Kw723
          have Tw723_1 := Lib.hid Tw723_1
          have Tw723_0 := Lib.hid (fw723 _ _ (by omega) Tw722_0.out)
          clear fw723
          rw [hw723]
          clear hw723
          refine hK2.out _ _ Kw723.out (fun hHeld2 => ?_)
          clear hK2 K2
          try simp only [pu]
          refine wpAnyH_ready (rs := [13]) (by kernel_rfl) (by simp) ?_
          refine AllReadyH.cons (i := 13) rfl (fun K2 hK2 => ?_) AllReadyH.nil
          rw [if_pos (by rfl)]
          refine wp_store_row 34 _ _ rfl g720 vz rfl rfl 34 _ Tw723_0.out Ivz.out (by rw [Zvz.out]; rfl) Ovz.out ?_
          obtain ⟨w724, hw724⟩ : ∃ x, w723.setRow g720 vz = x := ⟨_, rfl⟩
          obtain ⟨Kw724, Tw724_0, fw724⟩ := st_row Kw723.out hw724 (fun h => absurd h (by omega)) Tw723_0.out
          have Kw724 := Lib.hid Kw724
          have Tw724_0 := Lib.hid Tw724_0
          have Tw724_1 := Lib.hid (fw724 _ _ (by omega) Tw723_1.out)
          clear fw724
          rw [hw724]
          clear hw724
          refine hK2.out _ _ Kw724.out (fun hHeld2 => ?_)
          clear hK2 K2
          try simp only [pu]
          refine wpAnyH_done (by kernel_rfl) ?_ _
          go_wp2_with fail
          go_meet
          exact ⟨_, rfl, Lib.hid ⟨(But.to_below Kw724.out (Nat.le_refl _) (fun _ _ q => q)), Tw724_1.out⟩⟩
        
        refine AllReadyH.cons (i := 10) rfl (fun K2 hK2 => ?_) ?more27
        · skip
          go_simp
          obtain ⟨w725, hw725⟩ : ∃ x, (w720.alloc (.cells (List.replicate 32 (Value.int .u8 0)).toArray 23)) = x := ⟨_, rfl⟩
          obtain ⟨g725, hg725⟩ : ∃ x, w720.heap.size = x := ⟨_, rfl⟩
          obtain ⟨Kw725, Tw725_1, qw725, fw725⟩ := st_alloc Kw720.out hw725 hg725
          simp only [List.replicate] at hw725; rw [hw725, hg725]; clear hw725 hg725
          have Kw725 := Lib.hid Kw725
          have Tw725_1 := Lib.hid Tw725_1
          obtain ⟨Tw725_0, dw725_0⟩ := fw725 _ _ Tw720_0.out
          have Tw725_0 := Lib.hid Tw725_0
          clear fw725
          refine hK2.out _ _ Kw725.out (fun hHeld2 => ?_)
          clear hK2 K2
          try simp only [pu]
          refine wpAnyH_ready (rs := [6]) (by kernel_rfl) (by simp) ?_
          refine AllReadyH.cons (i := 6) rfl (fun K2 hK2 => ?_) AllReadyH.nil
          go_simp
          go_at_call 39
          refine (HRC.out w725 (But.to_below Kw725.out (Nat.le_refl _) (fun _ _ q => q))).mono ?_
          rintro ev w726 ⟨rfl, bw726⟩
          try go_wp2_with fail
          obtain ⟨Kw726, fw726⟩ := st_call Kw725.out bw726
          have Kw726 := Lib.hid Kw726
          have Tw726_0 := Lib.hid (fw726 _ _ Tw725_0.out)
          have Tw726_1 := Lib.hid (fw726 _ _ Tw725_1.out)
          clear bw726 fw726
          refine hK2.out _ _ Kw726.out (fun hHeld2 => ?_)
          clear hK2 K2
          try simp only [pu]
          refine tk (i := 7) (v := ?v28) rfl ?y28 ?r28
          case y28 => (intro w hSw; (try dsimp only at hSw); go_simp; (try with_reducible rfl))
          try simp only [pu]
          refine tk (i := 8) (v := ?v29) rfl ?y29 ?r29
          case y29 => (intro w hSw; (try dsimp only at hSw); go_simp; (try with_reducible rfl))
          try simp only [pu]
          refine tk (i := 9) (v := ?v30) rfl ?y30 ?r30
          case y30 => (intro w hSw; (try dsimp only at hSw); go_simp; (try with_reducible rfl))
          try simp only [pu]
          refine wpAnyH_ready (rs := [12]) (by kernel_rfl) (by simp) ?_
          refine AllReadyH.cons (i := 12) rfl (fun K2 hK2 => ?_) AllReadyH.nil
          rw [if_pos (by rfl)]
          refine wp_store_row 23 _ _ rfl g725 vr rfl rfl 23 _ Tw726_1.out Ivr.out (by rw [Zvr.out]; rfl) Ovr.out ?_
          obtain ⟨w727, hw727⟩ : ∃ x, w726.setRow g725 vr = x := ⟨_, rfl⟩
          obtain ⟨Kw727, Tw727_1, fw727⟩ := st_row Kw726.out hw727 (fun h => absurd h (by omega)) Tw726_1.out
          have Kw727 := Lib.hid Kw727
          have Tw727_1 := Lib.hid Tw727_1
          have Tw727_0 := Lib.hid (fw727 _ _ (by omega) Tw726_0.out)
          clear fw727
          rw [hw727]
          clear hw727
          refine hK2.out _ _ Kw727.out (fun hHeld2 => ?_)
          clear hK2 K2
          try simp only [pu]
          refine wpAnyH_ready (rs := [13]) (by kernel_rfl) (by simp) ?_
          refine AllReadyH.cons (i := 13) rfl (fun K2 hK2 => ?_) AllReadyH.nil
          rw [if_pos (by rfl)]
          refine wp_store_row 34 _ _ rfl g720 vz rfl rfl 34 _ Tw727_0.out Ivz.out (by rw [Zvz.out]; rfl) Ovz.out ?_
          obtain ⟨w728, hw728⟩ : ∃ x, w727.setRow g720 vz = x := ⟨_, rfl⟩
          obtain ⟨Kw728, Tw728_0, fw728⟩ := st_row Kw727.out hw728 (fun h => absurd h (by omega)) Tw727_0.out
          have Kw728 := Lib.hid Kw728
          have Tw728_0 := Lib.hid Tw728_0
          have Tw728_1 := Lib.hid (fw728 _ _ (by omega) Tw727_1.out)
          clear fw728
          rw [hw728]
          clear hw728
          refine hK2.out _ _ Kw728.out (fun hHeld2 => ?_)
          clear hK2 K2
          try simp only [pu]
          refine wpAnyH_done (by kernel_rfl) ?_ _
          go_wp2_with fail
          go_meet
          exact ⟨_, rfl, Lib.hid ⟨(But.to_below Kw728.out (Nat.le_refl _) (fun _ _ q => q)), Tw728_1.out⟩⟩
        
        exact AllReadyH.nil
      
      exact AllReadyH.nil

    refine AllReadyH.cons (i := 10) rfl (fun K2 hK2 => ?_) ?more31
    · skip
      go_simp
      obtain ⟨w729, hw729⟩ : ∃ x, (w1.alloc (.cells (List.replicate 32 (Value.int .u8 0)).toArray 23)).drew = x := ⟨_, rfl⟩
      obtain ⟨g729, hg729⟩ : ∃ x, w1.heap.size = x := ⟨_, rfl⟩
      obtain ⟨Kw729, Tw729_0, qw729, fw729⟩ := st_alloc ((But.refl (fun _ => False) w1).drew) hw729 hg729
      simp only [List.replicate] at hw729; rw [hw729, hg729]; clear hw729 hg729
      have Kw729 := Lib.hid Kw729
      have Tw729_0 := Lib.hid Tw729_0
      clear fw729
      refine hK2.out _ _ Kw729.out (fun hHeld2 => ?_)
      clear hK2 K2
      try simp only [pu]
      refine wpAnyH_ready (rs := [3, 11]) (by kernel_rfl) (by simp) ?_
      refine AllReadyH.cons (i := 3) rfl (fun K2 hK2 => ?_) ?more32
      · skip
        go_simp
        go_at_call 40
        refine (HME.out w729).mono ?_
        rintro ev w730 ⟨rfl, bw730⟩
        try go_wp2_with fail
        obtain ⟨Kw730, fw730⟩ := st_call Kw729.out bw730
        have Kw730 := Lib.hid Kw730
        have Tw730_0 := Lib.hid (fw730 _ _ Tw729_0.out)
        clear bw730 fw730
        refine hK2.out _ _ Kw730.out (fun hHeld2 => ?_)
        clear hK2 K2
        try simp only [pu]
        refine wpAnyH_ready (rs := [6, 11]) (by kernel_rfl) (by simp) ?_
        refine AllReadyH.cons (i := 6) rfl (fun K2 hK2 => ?_) ?more33
        · skip
          go_simp
          go_at_call 39
          refine (HRC.out w730 (But.to_below Kw730.out (Nat.le_refl _) (fun _ _ q => q))).mono ?_
          rintro ev w731 ⟨rfl, bw731⟩
          try go_wp2_with fail
          obtain ⟨Kw731, fw731⟩ := st_call Kw730.out bw731
          have Kw731 := Lib.hid Kw731
          have Tw731_0 := Lib.hid (fw731 _ _ Tw730_0.out)
          clear bw731 fw731
          refine hK2.out _ _ Kw731.out (fun hHeld2 => ?_)
          clear hK2 K2
          try simp only [pu]
          refine tk (i := 7) (v := ?v34) rfl ?y34 ?r34
          case y34 => (intro w hSw; (try dsimp only at hSw); go_simp; (try with_reducible rfl))
          try simp only [pu]
          refine tk (i := 8) (v := ?v35) rfl ?y35 ?r35
          case y35 => (intro w hSw; (try dsimp only at hSw); go_simp; (try with_reducible rfl))
          try simp only [pu]
          refine tk (i := 9) (v := ?v36) rfl ?y36 ?r36
          case y36 => (intro w hSw; (try dsimp only at hSw); go_simp; (try with_reducible rfl))
          try simp only [pu]
          refine wpAnyH_ready (rs := [11]) (by kernel_rfl) (by simp) ?_
          refine AllReadyH.cons (i := 11) rfl (fun K2 hK2 => ?_) AllReadyH.nil
          go_simp
          obtain ⟨w732, hw732⟩ : ∃ x, (w731.alloc (.cells #[.int .i64 0, .int .i64 0] 34)) = x := ⟨_, rfl⟩
          obtain ⟨g732, hg732⟩ : ∃ x, w731.heap.size = x := ⟨_, rfl⟩
          obtain ⟨Kw732, Tw732_1, qw732, fw732⟩ := st_alloc Kw731.out hw732 hg732
          rw [hw732, hg732]; clear hw732 hg732
          have Kw732 := Lib.hid Kw732
          have Tw732_1 := Lib.hid Tw732_1
          obtain ⟨Tw732_0, dw732_0⟩ := fw732 _ _ Tw731_0.out
          have Tw732_0 := Lib.hid Tw732_0
          clear fw732
          refine hK2.out _ _ Kw732.out (fun hHeld2 => ?_)
          clear hK2 K2
          try simp only [pu]
          refine wpAnyH_ready (rs := [12]) (by kernel_rfl) (by simp) ?_
          refine AllReadyH.cons (i := 12) rfl (fun K2 hK2 => ?_) AllReadyH.nil
          rw [if_pos (by rfl)]
          refine wp_store_row 23 _ _ rfl g729 vr rfl rfl 23 _ Tw732_0.out Ivr.out (by rw [Zvr.out]; rfl) Ovr.out ?_
          obtain ⟨w733, hw733⟩ : ∃ x, w732.setRow g729 vr = x := ⟨_, rfl⟩
          obtain ⟨Kw733, Tw733_0, fw733⟩ := st_row Kw732.out hw733 (fun h => absurd h (by omega)) Tw732_0.out
          have Kw733 := Lib.hid Kw733
          have Tw733_0 := Lib.hid Tw733_0
          have Tw733_1 := Lib.hid (fw733 _ _ (by omega) Tw732_1.out)
          clear fw733
          rw [hw733]
          clear hw733
          refine hK2.out _ _ Kw733.out (fun hHeld2 => ?_)
          clear hK2 K2
          try simp only [pu]
          refine wpAnyH_ready (rs := [13]) (by kernel_rfl) (by simp) ?_
          refine AllReadyH.cons (i := 13) rfl (fun K2 hK2 => ?_) AllReadyH.nil
          rw [if_pos (by rfl)]
          refine wp_store_row 34 _ _ rfl g732 vz rfl rfl 34 _ Tw733_1.out Ivz.out (by rw [Zvz.out]; rfl) Ovz.out ?_
          obtain ⟨w734, hw734⟩ : ∃ x, w733.setRow g732 vz = x := ⟨_, rfl⟩
          obtain ⟨Kw734, Tw734_1, fw734⟩ := st_row Kw733.out hw734 (fun h => absurd h (by omega)) Tw733_1.out
          have Kw734 := Lib.hid Kw734
          have Tw734_1 := Lib.hid Tw734_1
          have Tw734_0 := Lib.hid (fw734 _ _ (by omega) Tw733_0.out)
          clear fw734
          rw [hw734]
          clear hw734
          refine hK2.out _ _ Kw734.out (fun hHeld2 => ?_)
          clear hK2 K2
          try simp only [pu]
          refine wpAnyH_done (by kernel_rfl) ?_ _
          go_wp2_with fail
          go_meet
          exact ⟨_, rfl, Lib.hid ⟨(But.to_below Kw734.out (Nat.le_refl _) (fun _ _ q => q)), Tw734_0.out⟩⟩
        
        refine AllReadyH.cons (i := 11) rfl (fun K2 hK2 => ?_) ?more37
        · skip
          go_simp
          obtain ⟨w735, hw735⟩ : ∃ x, (w730.alloc (.cells #[.int .i64 0, .int .i64 0] 34)) = x := ⟨_, rfl⟩
          obtain ⟨g735, hg735⟩ : ∃ x, w730.heap.size = x := ⟨_, rfl⟩
          obtain ⟨Kw735, Tw735_1, qw735, fw735⟩ := st_alloc Kw730.out hw735 hg735
          rw [hw735, hg735]; clear hw735 hg735
          have Kw735 := Lib.hid Kw735
          have Tw735_1 := Lib.hid Tw735_1
          obtain ⟨Tw735_0, dw735_0⟩ := fw735 _ _ Tw730_0.out
          have Tw735_0 := Lib.hid Tw735_0
          clear fw735
          refine hK2.out _ _ Kw735.out (fun hHeld2 => ?_)
          clear hK2 K2
          try simp only [pu]
          refine wpAnyH_ready (rs := [6]) (by kernel_rfl) (by simp) ?_
          refine AllReadyH.cons (i := 6) rfl (fun K2 hK2 => ?_) AllReadyH.nil
          go_simp
          go_at_call 39
          refine (HRC.out w735 (But.to_below Kw735.out (Nat.le_refl _) (fun _ _ q => q))).mono ?_
          rintro ev w736 ⟨rfl, bw736⟩
          try go_wp2_with fail
          obtain ⟨Kw736, fw736⟩ := st_call Kw735.out bw736
          have Kw736 := Lib.hid Kw736
          have Tw736_0 := Lib.hid (fw736 _ _ Tw735_0.out)
          have Tw736_1 := Lib.hid (fw736 _ _ Tw735_1.out)
          clear bw736 fw736
          refine hK2.out _ _ Kw736.out (fun hHeld2 => ?_)
          clear hK2 K2
          try simp only [pu]
          refine tk (i := 7) (v := ?v38) rfl ?y38 ?r38
          case y38 => (intro w hSw; (try dsimp only at hSw); go_simp; (try with_reducible rfl))
          try simp only [pu]
          refine tk (i := 8) (v := ?v39) rfl ?y39 ?r39
          case y39 => (intro w hSw; (try dsimp only at hSw); go_simp; (try with_reducible rfl))
          try simp only [pu]
          refine tk (i := 9) (v := ?v40) rfl ?y40 ?r40
          case y40 => (intro w hSw; (try dsimp only at hSw); go_simp; (try with_reducible rfl))
          try simp only [pu]
          refine wpAnyH_ready (rs := [12]) (by kernel_rfl) (by simp) ?_
          refine AllReadyH.cons (i := 12) rfl (fun K2 hK2 => ?_) AllReadyH.nil
          rw [if_pos (by rfl)]
          refine wp_store_row 23 _ _ rfl g729 vr rfl rfl 23 _ Tw736_0.out Ivr.out (by rw [Zvr.out]; rfl) Ovr.out ?_
          obtain ⟨w737, hw737⟩ : ∃ x, w736.setRow g729 vr = x := ⟨_, rfl⟩
          obtain ⟨Kw737, Tw737_0, fw737⟩ := st_row Kw736.out hw737 (fun h => absurd h (by omega)) Tw736_0.out
          have Kw737 := Lib.hid Kw737
          have Tw737_0 := Lib.hid Tw737_0
          have Tw737_1 := Lib.hid (fw737 _ _ (by omega) Tw736_1.out)
          clear fw737
          rw [hw737]
          clear hw737
          refine hK2.out _ _ Kw737.out (fun hHeld2 => ?_)
          clear hK2 K2
          try simp only [pu]
          refine wpAnyH_ready (rs := [13]) (by kernel_rfl) (by simp) ?_
          refine AllReadyH.cons (i := 13) rfl (fun K2 hK2 => ?_) AllReadyH.nil
          rw [if_pos (by rfl)]
          refine wp_store_row 34 _ _ rfl g735 vz rfl rfl 34 _ Tw737_1.out Ivz.out (by rw [Zvz.out]; rfl) Ovz.out ?_
          obtain ⟨w738, hw738⟩ : ∃ x, w737.setRow g735 vz = x := ⟨_, rfl⟩
          obtain ⟨Kw738, Tw738_1, fw738⟩ := st_row Kw737.out hw738 (fun h => absurd h (by omega)) Tw737_1.out
          have Kw738 := Lib.hid Kw738
          have Tw738_1 := Lib.hid Tw738_1
          have Tw738_0 := Lib.hid (fw738 _ _ (by omega) Tw737_0.out)
          clear fw738
          rw [hw738]
          clear hw738
          refine hK2.out _ _ Kw738.out (fun hHeld2 => ?_)
          clear hK2 K2
          try simp only [pu]
          refine wpAnyH_done (by kernel_rfl) ?_ _
          go_wp2_with fail
          go_meet
          exact ⟨_, rfl, Lib.hid ⟨(But.to_below Kw738.out (Nat.le_refl _) (fun _ _ q => q)), Tw738_0.out⟩⟩
        
        exact AllReadyH.nil
      
      refine AllReadyH.cons (i := 11) rfl (fun K2 hK2 => ?_) ?more41
      · skip
        go_simp
        obtain ⟨w739, hw739⟩ : ∃ x, (w729.alloc (.cells #[.int .i64 0, .int .i64 0] 34)) = x := ⟨_, rfl⟩
        obtain ⟨g739, hg739⟩ : ∃ x, w729.heap.size = x := ⟨_, rfl⟩
        obtain ⟨Kw739, Tw739_1, qw739, fw739⟩ := st_alloc Kw729.out hw739 hg739
        rw [hw739, hg739]; clear hw739 hg739
        have Kw739 := Lib.hid Kw739
        have Tw739_1 := Lib.hid Tw739_1
        obtain ⟨Tw739_0, dw739_0⟩ := fw739 _ _ Tw729_0.out
        have Tw739_0 := Lib.hid Tw739_0
        clear fw739
        refine hK2.out _ _ Kw739.out (fun hHeld2 => ?_)
        clear hK2 K2
        try simp only [pu]
        refine wpAnyH_ready (rs := [3]) (by kernel_rfl) (by simp) ?_
        refine AllReadyH.cons (i := 3) rfl (fun K2 hK2 => ?_) AllReadyH.nil
        go_simp
        go_at_call 40
        refine (HME.out w739).mono ?_
        rintro ev w740 ⟨rfl, bw740⟩
        try go_wp2_with fail
        obtain ⟨Kw740, fw740⟩ := st_call Kw739.out bw740
        have Kw740 := Lib.hid Kw740
        have Tw740_0 := Lib.hid (fw740 _ _ Tw739_0.out)
        have Tw740_1 := Lib.hid (fw740 _ _ Tw739_1.out)
        clear bw740 fw740
        refine hK2.out _ _ Kw740.out (fun hHeld2 => ?_)
        clear hK2 K2
        try simp only [pu]
        refine wpAnyH_ready (rs := [6]) (by kernel_rfl) (by simp) ?_
        refine AllReadyH.cons (i := 6) rfl (fun K2 hK2 => ?_) AllReadyH.nil
        go_simp
        go_at_call 39
        refine (HRC.out w740 (But.to_below Kw740.out (Nat.le_refl _) (fun _ _ q => q))).mono ?_
        rintro ev w741 ⟨rfl, bw741⟩
        try go_wp2_with fail
        obtain ⟨Kw741, fw741⟩ := st_call Kw740.out bw741
        have Kw741 := Lib.hid Kw741
        have Tw741_0 := Lib.hid (fw741 _ _ Tw740_0.out)
        have Tw741_1 := Lib.hid (fw741 _ _ Tw740_1.out)
        clear bw741 fw741
        refine hK2.out _ _ Kw741.out (fun hHeld2 => ?_)
        clear hK2 K2
        try simp only [pu]
        refine tk (i := 7) (v := ?v42) rfl ?y42 ?r42
        case y42 => (intro w hSw; (try dsimp only at hSw); go_simp; (try with_reducible rfl))
        try simp only [pu]
        refine tk (i := 8) (v := ?v43) rfl ?y43 ?r43
        case y43 => (intro w hSw; (try dsimp only at hSw); go_simp; (try with_reducible rfl))
        try simp only [pu]
        refine tk (i := 9) (v := ?v44) rfl ?y44 ?r44
        case y44 => (intro w hSw; (try dsimp only at hSw); go_simp; (try with_reducible rfl))
        try simp only [pu]
        refine wpAnyH_ready (rs := [12]) (by kernel_rfl) (by simp) ?_
        refine AllReadyH.cons (i := 12) rfl (fun K2 hK2 => ?_) AllReadyH.nil
        rw [if_pos (by rfl)]
        refine wp_store_row 23 _ _ rfl g729 vr rfl rfl 23 _ Tw741_0.out Ivr.out (by rw [Zvr.out]; rfl) Ovr.out ?_
        obtain ⟨w742, hw742⟩ : ∃ x, w741.setRow g729 vr = x := ⟨_, rfl⟩
        obtain ⟨Kw742, Tw742_0, fw742⟩ := st_row Kw741.out hw742 (fun h => absurd h (by omega)) Tw741_0.out
        have Kw742 := Lib.hid Kw742
        have Tw742_0 := Lib.hid Tw742_0
        have Tw742_1 := Lib.hid (fw742 _ _ (by omega) Tw741_1.out)
        clear fw742
        rw [hw742]
        clear hw742
        refine hK2.out _ _ Kw742.out (fun hHeld2 => ?_)
        clear hK2 K2
        try simp only [pu]
        refine wpAnyH_ready (rs := [13]) (by kernel_rfl) (by simp) ?_
        refine AllReadyH.cons (i := 13) rfl (fun K2 hK2 => ?_) AllReadyH.nil
        rw [if_pos (by rfl)]
        refine wp_store_row 34 _ _ rfl g739 vz rfl rfl 34 _ Tw742_1.out Ivz.out (by rw [Zvz.out]; rfl) Ovz.out ?_
        obtain ⟨w743, hw743⟩ : ∃ x, w742.setRow g739 vz = x := ⟨_, rfl⟩
        obtain ⟨Kw743, Tw743_1, fw743⟩ := st_row Kw742.out hw743 (fun h => absurd h (by omega)) Tw742_1.out
        have Kw743 := Lib.hid Kw743
        have Tw743_1 := Lib.hid Tw743_1
        have Tw743_0 := Lib.hid (fw743 _ _ (by omega) Tw742_0.out)
        clear fw743
        rw [hw743]
        clear hw743
        refine hK2.out _ _ Kw743.out (fun hHeld2 => ?_)
        clear hK2 K2
        try simp only [pu]
        refine wpAnyH_done (by kernel_rfl) ?_ _
        go_wp2_with fail
        go_meet
        exact ⟨_, rfl, Lib.hid ⟨(But.to_below Kw743.out (Nat.le_refl _) (fun _ _ q => q)), Tw743_0.out⟩⟩
      
      exact AllReadyH.nil

    refine AllReadyH.cons (i := 11) rfl (fun K2 hK2 => ?_) ?more45
    · skip
      go_simp
      obtain ⟨w744, hw744⟩ : ∃ x, (w1.alloc (.cells #[.int .i64 0, .int .i64 0] 34)).drew = x := ⟨_, rfl⟩
      obtain ⟨g744, hg744⟩ : ∃ x, w1.heap.size = x := ⟨_, rfl⟩
      obtain ⟨Kw744, Tw744_0, qw744, fw744⟩ := st_alloc ((But.refl (fun _ => False) w1).drew) hw744 hg744
      rw [hw744, hg744]; clear hw744 hg744
      have Kw744 := Lib.hid Kw744
      have Tw744_0 := Lib.hid Tw744_0
      clear fw744
      refine hK2.out _ _ Kw744.out (fun hHeld2 => ?_)
      clear hK2 K2
      try simp only [pu]
      refine wpAnyH_ready (rs := [3, 10]) (by kernel_rfl) (by simp) ?_
      refine AllReadyH.cons (i := 3) rfl (fun K2 hK2 => ?_) ?more46
      · skip
        go_simp
        go_at_call 40
        refine (HME.out w744).mono ?_
        rintro ev w745 ⟨rfl, bw745⟩
        try go_wp2_with fail
        obtain ⟨Kw745, fw745⟩ := st_call Kw744.out bw745
        have Kw745 := Lib.hid Kw745
        have Tw745_0 := Lib.hid (fw745 _ _ Tw744_0.out)
        clear bw745 fw745
        refine hK2.out _ _ Kw745.out (fun hHeld2 => ?_)
        clear hK2 K2
        try simp only [pu]
        refine wpAnyH_ready (rs := [6, 10]) (by kernel_rfl) (by simp) ?_
        refine AllReadyH.cons (i := 6) rfl (fun K2 hK2 => ?_) ?more47
        · skip
          go_simp
          go_at_call 39
          refine (HRC.out w745 (But.to_below Kw745.out (Nat.le_refl _) (fun _ _ q => q))).mono ?_
          rintro ev w746 ⟨rfl, bw746⟩
          try go_wp2_with fail
          obtain ⟨Kw746, fw746⟩ := st_call Kw745.out bw746
          have Kw746 := Lib.hid Kw746
          have Tw746_0 := Lib.hid (fw746 _ _ Tw745_0.out)
          clear bw746 fw746
          refine hK2.out _ _ Kw746.out (fun hHeld2 => ?_)
          clear hK2 K2
          try simp only [pu]
          refine tk (i := 7) (v := ?v48) rfl ?y48 ?r48
          case y48 => (intro w hSw; (try dsimp only at hSw); go_simp; (try with_reducible rfl))
          try simp only [pu]
          refine tk (i := 8) (v := ?v49) rfl ?y49 ?r49
          case y49 => (intro w hSw; (try dsimp only at hSw); go_simp; (try with_reducible rfl))
          try simp only [pu]
          refine tk (i := 9) (v := ?v50) rfl ?y50 ?r50
          case y50 => (intro w hSw; (try dsimp only at hSw); go_simp; (try with_reducible rfl))
          try simp only [pu]
          refine wpAnyH_ready (rs := [10]) (by kernel_rfl) (by simp) ?_
          refine AllReadyH.cons (i := 10) rfl (fun K2 hK2 => ?_) AllReadyH.nil
          go_simp
          obtain ⟨w747, hw747⟩ : ∃ x, (w746.alloc (.cells (List.replicate 32 (Value.int .u8 0)).toArray 23)) = x := ⟨_, rfl⟩
          obtain ⟨g747, hg747⟩ : ∃ x, w746.heap.size = x := ⟨_, rfl⟩
          obtain ⟨Kw747, Tw747_1, qw747, fw747⟩ := st_alloc Kw746.out hw747 hg747
          simp only [List.replicate] at hw747; rw [hw747, hg747]; clear hw747 hg747
          have Kw747 := Lib.hid Kw747
          have Tw747_1 := Lib.hid Tw747_1
          obtain ⟨Tw747_0, dw747_0⟩ := fw747 _ _ Tw746_0.out
          have Tw747_0 := Lib.hid Tw747_0
          clear fw747
          refine hK2.out _ _ Kw747.out (fun hHeld2 => ?_)
          clear hK2 K2
          try simp only [pu]
          refine wpAnyH_ready (rs := [12]) (by kernel_rfl) (by simp) ?_
          refine AllReadyH.cons (i := 12) rfl (fun K2 hK2 => ?_) AllReadyH.nil
          rw [if_pos (by rfl)]
          refine wp_store_row 23 _ _ rfl g747 vr rfl rfl 23 _ Tw747_1.out Ivr.out (by rw [Zvr.out]; rfl) Ovr.out ?_
          obtain ⟨w748, hw748⟩ : ∃ x, w747.setRow g747 vr = x := ⟨_, rfl⟩
          obtain ⟨Kw748, Tw748_1, fw748⟩ := st_row Kw747.out hw748 (fun h => absurd h (by omega)) Tw747_1.out
          have Kw748 := Lib.hid Kw748
          have Tw748_1 := Lib.hid Tw748_1
          have Tw748_0 := Lib.hid (fw748 _ _ (by omega) Tw747_0.out)
          clear fw748
          rw [hw748]
          clear hw748
          refine hK2.out _ _ Kw748.out (fun hHeld2 => ?_)
          clear hK2 K2
          try simp only [pu]
          refine wpAnyH_ready (rs := [13]) (by kernel_rfl) (by simp) ?_
          refine AllReadyH.cons (i := 13) rfl (fun K2 hK2 => ?_) AllReadyH.nil
          rw [if_pos (by rfl)]
          refine wp_store_row 34 _ _ rfl g744 vz rfl rfl 34 _ Tw748_0.out Ivz.out (by rw [Zvz.out]; rfl) Ovz.out ?_
          obtain ⟨w749, hw749⟩ : ∃ x, w748.setRow g744 vz = x := ⟨_, rfl⟩
          obtain ⟨Kw749, Tw749_0, fw749⟩ := st_row Kw748.out hw749 (fun h => absurd h (by omega)) Tw748_0.out
          have Kw749 := Lib.hid Kw749
          have Tw749_0 := Lib.hid Tw749_0
          have Tw749_1 := Lib.hid (fw749 _ _ (by omega) Tw748_1.out)
          clear fw749
          rw [hw749]
          clear hw749
          refine hK2.out _ _ Kw749.out (fun hHeld2 => ?_)
          clear hK2 K2
          try simp only [pu]
          refine wpAnyH_done (by kernel_rfl) ?_ _
          go_wp2_with fail
          go_meet
          exact ⟨_, rfl, Lib.hid ⟨(But.to_below Kw749.out (Nat.le_refl _) (fun _ _ q => q)), Tw749_1.out⟩⟩
        
        refine AllReadyH.cons (i := 10) rfl (fun K2 hK2 => ?_) ?more51
        · skip
          go_simp
          obtain ⟨w750, hw750⟩ : ∃ x, (w745.alloc (.cells (List.replicate 32 (Value.int .u8 0)).toArray 23)) = x := ⟨_, rfl⟩
          obtain ⟨g750, hg750⟩ : ∃ x, w745.heap.size = x := ⟨_, rfl⟩
          obtain ⟨Kw750, Tw750_1, qw750, fw750⟩ := st_alloc Kw745.out hw750 hg750
          simp only [List.replicate] at hw750; rw [hw750, hg750]; clear hw750 hg750
          have Kw750 := Lib.hid Kw750
          have Tw750_1 := Lib.hid Tw750_1
          obtain ⟨Tw750_0, dw750_0⟩ := fw750 _ _ Tw745_0.out
          have Tw750_0 := Lib.hid Tw750_0
          clear fw750
          refine hK2.out _ _ Kw750.out (fun hHeld2 => ?_)
          clear hK2 K2
          try simp only [pu]
          refine wpAnyH_ready (rs := [6]) (by kernel_rfl) (by simp) ?_
          refine AllReadyH.cons (i := 6) rfl (fun K2 hK2 => ?_) AllReadyH.nil
          go_simp
          go_at_call 39
          refine (HRC.out w750 (But.to_below Kw750.out (Nat.le_refl _) (fun _ _ q => q))).mono ?_
          rintro ev w751 ⟨rfl, bw751⟩
          try go_wp2_with fail
          obtain ⟨Kw751, fw751⟩ := st_call Kw750.out bw751
          have Kw751 := Lib.hid Kw751
          have Tw751_0 := Lib.hid (fw751 _ _ Tw750_0.out)
          have Tw751_1 := Lib.hid (fw751 _ _ Tw750_1.out)
          clear bw751 fw751
          refine hK2.out _ _ Kw751.out (fun hHeld2 => ?_)
          clear hK2 K2
          try simp only [pu]
          refine tk (i := 7) (v := ?v52) rfl ?y52 ?r52
          case y52 => (intro w hSw; (try dsimp only at hSw); go_simp; (try with_reducible rfl))
          try simp only [pu]
          refine tk (i := 8) (v := ?v53) rfl ?y53 ?r53
          case y53 => (intro w hSw; (try dsimp only at hSw); go_simp; (try with_reducible rfl))
          try simp only [pu]
          refine tk (i := 9) (v := ?v54) rfl ?y54 ?r54
          case y54 => (intro w hSw; (try dsimp only at hSw); go_simp; (try with_reducible rfl))
          try simp only [pu]
          refine wpAnyH_ready (rs := [12]) (by kernel_rfl) (by simp) ?_
          refine AllReadyH.cons (i := 12) rfl (fun K2 hK2 => ?_) AllReadyH.nil
          rw [if_pos (by rfl)]
          refine wp_store_row 23 _ _ rfl g750 vr rfl rfl 23 _ Tw751_1.out Ivr.out (by rw [Zvr.out]; rfl) Ovr.out ?_
          obtain ⟨w752, hw752⟩ : ∃ x, w751.setRow g750 vr = x := ⟨_, rfl⟩
          obtain ⟨Kw752, Tw752_1, fw752⟩ := st_row Kw751.out hw752 (fun h => absurd h (by omega)) Tw751_1.out
          have Kw752 := Lib.hid Kw752
          have Tw752_1 := Lib.hid Tw752_1
          have Tw752_0 := Lib.hid (fw752 _ _ (by omega) Tw751_0.out)
          clear fw752
          rw [hw752]
          clear hw752
          refine hK2.out _ _ Kw752.out (fun hHeld2 => ?_)
          clear hK2 K2
          try simp only [pu]
          refine wpAnyH_ready (rs := [13]) (by kernel_rfl) (by simp) ?_
          refine AllReadyH.cons (i := 13) rfl (fun K2 hK2 => ?_) AllReadyH.nil
          rw [if_pos (by rfl)]
          refine wp_store_row 34 _ _ rfl g744 vz rfl rfl 34 _ Tw752_0.out Ivz.out (by rw [Zvz.out]; rfl) Ovz.out ?_
          obtain ⟨w753, hw753⟩ : ∃ x, w752.setRow g744 vz = x := ⟨_, rfl⟩
          obtain ⟨Kw753, Tw753_0, fw753⟩ := st_row Kw752.out hw753 (fun h => absurd h (by omega)) Tw752_0.out
          have Kw753 := Lib.hid Kw753
          have Tw753_0 := Lib.hid Tw753_0
          have Tw753_1 := Lib.hid (fw753 _ _ (by omega) Tw752_1.out)
          clear fw753
          rw [hw753]
          clear hw753
          refine hK2.out _ _ Kw753.out (fun hHeld2 => ?_)
          clear hK2 K2
          try simp only [pu]
          refine wpAnyH_done (by kernel_rfl) ?_ _
          go_wp2_with fail
          go_meet
          exact ⟨_, rfl, Lib.hid ⟨(But.to_below Kw753.out (Nat.le_refl _) (fun _ _ q => q)), Tw753_1.out⟩⟩
        
        exact AllReadyH.nil
      
      refine AllReadyH.cons (i := 10) rfl (fun K2 hK2 => ?_) ?more55
      · skip
        go_simp
        obtain ⟨w754, hw754⟩ : ∃ x, (w744.alloc (.cells (List.replicate 32 (Value.int .u8 0)).toArray 23)) = x := ⟨_, rfl⟩
        obtain ⟨g754, hg754⟩ : ∃ x, w744.heap.size = x := ⟨_, rfl⟩
        obtain ⟨Kw754, Tw754_1, qw754, fw754⟩ := st_alloc Kw744.out hw754 hg754
        simp only [List.replicate] at hw754; rw [hw754, hg754]; clear hw754 hg754
        have Kw754 := Lib.hid Kw754
        have Tw754_1 := Lib.hid Tw754_1
        obtain ⟨Tw754_0, dw754_0⟩ := fw754 _ _ Tw744_0.out
        have Tw754_0 := Lib.hid Tw754_0
        clear fw754
        refine hK2.out _ _ Kw754.out (fun hHeld2 => ?_)
        clear hK2 K2
        try simp only [pu]
        refine wpAnyH_ready (rs := [3]) (by kernel_rfl) (by simp) ?_
        refine AllReadyH.cons (i := 3) rfl (fun K2 hK2 => ?_) AllReadyH.nil
        go_simp
        go_at_call 40
        refine (HME.out w754).mono ?_
        rintro ev w755 ⟨rfl, bw755⟩
        try go_wp2_with fail
        obtain ⟨Kw755, fw755⟩ := st_call Kw754.out bw755
        have Kw755 := Lib.hid Kw755
        have Tw755_0 := Lib.hid (fw755 _ _ Tw754_0.out)
        have Tw755_1 := Lib.hid (fw755 _ _ Tw754_1.out)
        clear bw755 fw755
        refine hK2.out _ _ Kw755.out (fun hHeld2 => ?_)
        clear hK2 K2
        try simp only [pu]
        refine wpAnyH_ready (rs := [6]) (by kernel_rfl) (by simp) ?_
        refine AllReadyH.cons (i := 6) rfl (fun K2 hK2 => ?_) AllReadyH.nil
        go_simp
        go_at_call 39
        refine (HRC.out w755 (But.to_below Kw755.out (Nat.le_refl _) (fun _ _ q => q))).mono ?_
        rintro ev w756 ⟨rfl, bw756⟩
        try go_wp2_with fail
        obtain ⟨Kw756, fw756⟩ := st_call Kw755.out bw756
        have Kw756 := Lib.hid Kw756
        have Tw756_0 := Lib.hid (fw756 _ _ Tw755_0.out)
        have Tw756_1 := Lib.hid (fw756 _ _ Tw755_1.out)
        clear bw756 fw756
        refine hK2.out _ _ Kw756.out (fun hHeld2 => ?_)
        clear hK2 K2
        try simp only [pu]
        refine tk (i := 7) (v := ?v56) rfl ?y56 ?r56
        case y56 => (intro w hSw; (try dsimp only at hSw); go_simp; (try with_reducible rfl))
        try simp only [pu]
        refine tk (i := 8) (v := ?v57) rfl ?y57 ?r57
        case y57 => (intro w hSw; (try dsimp only at hSw); go_simp; (try with_reducible rfl))
        try simp only [pu]
        refine tk (i := 9) (v := ?v58) rfl ?y58 ?r58
        case y58 => (intro w hSw; (try dsimp only at hSw); go_simp; (try with_reducible rfl))
        try simp only [pu]
        refine wpAnyH_ready (rs := [12]) (by kernel_rfl) (by simp) ?_
        refine AllReadyH.cons (i := 12) rfl (fun K2 hK2 => ?_) AllReadyH.nil
        rw [if_pos (by rfl)]
        refine wp_store_row 23 _ _ rfl g754 vr rfl rfl 23 _ Tw756_1.out Ivr.out (by rw [Zvr.out]; rfl) Ovr.out ?_
        obtain ⟨w757, hw757⟩ : ∃ x, w756.setRow g754 vr = x := ⟨_, rfl⟩
        obtain ⟨Kw757, Tw757_1, fw757⟩ := st_row Kw756.out hw757 (fun h => absurd h (by omega)) Tw756_1.out
        have Kw757 := Lib.hid Kw757
        have Tw757_1 := Lib.hid Tw757_1
        have Tw757_0 := Lib.hid (fw757 _ _ (by omega) Tw756_0.out)
        clear fw757
        rw [hw757]
        clear hw757
        refine hK2.out _ _ Kw757.out (fun hHeld2 => ?_)
        clear hK2 K2
        try simp only [pu]
        refine wpAnyH_ready (rs := [13]) (by kernel_rfl) (by simp) ?_
        refine AllReadyH.cons (i := 13) rfl (fun K2 hK2 => ?_) AllReadyH.nil
        rw [if_pos (by rfl)]
        refine wp_store_row 34 _ _ rfl g744 vz rfl rfl 34 _ Tw757_0.out Ivz.out (by rw [Zvz.out]; rfl) Ovz.out ?_
        obtain ⟨w758, hw758⟩ : ∃ x, w757.setRow g744 vz = x := ⟨_, rfl⟩
        obtain ⟨Kw758, Tw758_0, fw758⟩ := st_row Kw757.out hw758 (fun h => absurd h (by omega)) Tw757_0.out
        have Kw758 := Lib.hid Kw758
        have Tw758_0 := Lib.hid Tw758_0
        have Tw758_1 := Lib.hid (fw758 _ _ (by omega) Tw757_1.out)
        clear fw758
        rw [hw758]
        clear hw758
        refine hK2.out _ _ Kw758.out (fun hHeld2 => ?_)
        clear hK2 K2
        try simp only [pu]
        refine wpAnyH_done (by kernel_rfl) ?_ _
        go_wp2_with fail
        go_meet
        exact ⟨_, rfl, Lib.hid ⟨(But.to_below Kw758.out (Nat.le_refl _) (fun _ _ q => q)), Tw758_1.out⟩⟩
      
      exact AllReadyH.nil

    exact AllReadyH.nil
  case rest =>
    obtain ⟨g9, rfl, H8⟩ := hcut
    obtain ⟨w3, rfl⟩ : ∃ x, x = wc := ⟨_, rfl⟩
    have Bw3 : Hid (Below w1.heap.size w1 w3) := Lib.hid H8.out.1
    have TG : Hid (w3.heap[g9]? = some (.cells vr 23 (0, 0))) := Lib.hid H8.out.2
    have KS3 : Hid (∀ w', But (fun _ => False) w3 w' → w'.cell? ⟨w.heap.size + 1, 0, none⟩ = some (.int .i64 x) ∧ w'.cell? ⟨w.heap.size + 1, 1, none⟩ = some (.slice A 67 c) ∧ w'.cell? ⟨w.heap.size + 1, 2, none⟩ = some (.slice A2 n c2)) := Lib.hid (fun w' hw => HKSA.out w' ((hw.same _ (by have := Bw3.out.size; omega) (fun q => q)).trans ((Bw3.out.block _ (by omega)).trans RS1.out)))
    go_upto_region 4 with fail
    go_cut [11, 12] (fun s1 s2 w8 => ∃ g7 g8 : Nat, s1 = .pointer (some ⟨g7, 0, none⟩) ∧ s2 = .pointer (some ⟨g8, 0, none⟩) ∧ Hid (Below w3.heap.size w3 w8 ∧ w8.heap[g7]? = some (.cells vo 23 (0, 0)) ∧ w8.heap[g8]? = some (.cells vz 34 (0, 0))))
    case first =>
      refine wp_region_held_drew (S := But (fun _ => False) w3) (by kernel_rfl) (But.refl _ _).drew (fun hHeld => ?_)
      refine tk (i := 0) (v := ?v59) rfl ?y59 ?r59
      case y59 => (intro w hSw; (try dsimp only at hSw); go_simp; (try with_reducible rfl))
      try simp only [pu]
      refine tk (i := 1) (v := ?v60) rfl ?y60 ?r60
      case y60 => (intro w hSw; (try dsimp only at hSw); obtain ⟨z0, z1, z2⟩ := KS3.out w hSw; go_simp; (try with_reducible rfl))
      try simp only [pu]
      refine tk (i := 2) (v := ?v61) rfl ?y61 ?r61
      case y61 => (intro w hSw; (try dsimp only at hSw); go_simp; (try with_reducible rfl))
      try simp only [pu]
      refine tk (i := 3) (v := ?v62) rfl ?y62 ?r62
      case y62 => (intro w hSw; (try dsimp only at hSw); go_simp; (try with_reducible rfl))
      try simp only [pu]
      refine tk (i := 4) (v := ?v63) rfl ?y63 ?r63
      case y63 => (intro w hSw; (try dsimp only at hSw); go_simp; (try with_reducible rfl))
      try simp only [pu]
      refine tk (i := 5) (v := ?v64) rfl ?y64 ?r64
      case y64 => (intro w hSw; (try dsimp only at hSw); go_simp; (try with_reducible rfl))
      try simp only [pu]
      refine tw (i := 6) rfl (yieldsIf_load_row (by rfl) 23 _ (by rfl) g9 (by rfl) 23 vr (0, 0) _ (fun w h => (h.same _ (by have := (Array.getElem?_eq_some_iff.1 TG.out).1; exact this) (fun q => q)).trans TG.out) Tryz.underlying23 (by rfl) Ivr.out) ?_
      try simp only [pu]
      refine tk (i := 8) (v := ?v66) rfl ?y66 ?r66
      case y66 => (intro w hSw; (try dsimp only at hSw); go_simp; (try with_reducible rfl))
      try simp only [pu]
      refine tk (i := 9) (v := ?v67) rfl ?y67 ?r67
      case y67 => (intro w hSw; (try dsimp only at hSw); obtain ⟨z0, z1, z2⟩ := KS3.out w hSw; go_simp; (try with_reducible rfl))
      try simp only [pu]
      refine wpAnyH_ready (rs := [7, 14, 15]) (by kernel_rfl) (by simp) ?_
      refine AllReadyH.cons (i := 7) rfl (fun K2 hK2 => ?_) ?more68
      · skip
        go_simp
        go_at_call 42
        refine (HLF.out w3.drew).mono ?_
        rintro ev w759 ⟨rfl, bw759⟩
        try go_wp2_with fail
        obtain ⟨Kw759, fw759⟩ := st_call ((But.refl (fun _ => False) w3).drew) bw759
        have Kw759 := Lib.hid Kw759
        clear bw759 fw759
        refine hK2.out _ _ Kw759.out (fun hHeld2 => ?_)
        clear hK2 K2
        try simp only [pu]
        refine wpAnyH_ready (rs := [10, 14, 15]) (by kernel_rfl) (by simp) ?_
        refine AllReadyH.cons (i := 10) rfl (fun K2 hK2 => ?_) ?more69
        · skip
          go_simp
          go_at_call 41
          refine (HRT.out w759 (Bw3.out.trans (But.to_below Kw759.out Bw3.out.size (fun _ _ q => q)))).mono ?_
          rintro ev w760 ⟨rfl, bw760⟩
          try go_wp2_with fail
          obtain ⟨Kw760, fw760⟩ := st_call Kw759.out bw760
          have Kw760 := Lib.hid Kw760
          clear bw760 fw760
          refine hK2.out _ _ Kw760.out (fun hHeld2 => ?_)
          clear hK2 K2
          try simp only [pu]
          refine tk (i := 11) (v := ?v70) rfl ?y70 ?r70
          case y70 => (intro w hSw; (try dsimp only at hSw); go_simp; (try with_reducible rfl))
          try simp only [pu]
          refine tk (i := 12) (v := ?v71) rfl ?y71 ?r71
          case y71 => (intro w hSw; (try dsimp only at hSw); go_simp; (try with_reducible rfl))
          try simp only [pu]
          refine tk (i := 13) (v := ?v72) rfl ?y72 ?r72
          case y72 => (intro w hSw; (try dsimp only at hSw); go_simp; (try with_reducible rfl))
          try simp only [pu]
          refine wpAnyH_ready (rs := [14, 15]) (by kernel_rfl) (by simp) ?_
          refine AllReadyH.cons (i := 14) rfl (fun K2 hK2 => ?_) ?more73
          · skip
            go_simp
            obtain ⟨w761, hw761⟩ : ∃ x, (w760.alloc (.cells (List.replicate 32 (Value.int .u8 0)).toArray 23)) = x := ⟨_, rfl⟩
            obtain ⟨g761, hg761⟩ : ∃ x, w760.heap.size = x := ⟨_, rfl⟩
            obtain ⟨Kw761, Tw761_0, qw761, fw761⟩ := st_alloc Kw760.out hw761 hg761
            simp only [List.replicate] at hw761; rw [hw761, hg761]; clear hw761 hg761
            have Kw761 := Lib.hid Kw761
            have Tw761_0 := Lib.hid Tw761_0
            clear fw761
            refine hK2.out _ _ Kw761.out (fun hHeld2 => ?_)
            clear hK2 K2
            try simp only [pu]
            refine wpAnyH_ready (rs := [15]) (by kernel_rfl) (by simp) ?_
            refine AllReadyH.cons (i := 15) rfl (fun K2 hK2 => ?_) AllReadyH.nil
            go_simp
            obtain ⟨w762, hw762⟩ : ∃ x, (w761.alloc (.cells #[.int .i64 0, .int .i64 0] 34)) = x := ⟨_, rfl⟩
            obtain ⟨g762, hg762⟩ : ∃ x, w761.heap.size = x := ⟨_, rfl⟩
            obtain ⟨Kw762, Tw762_1, qw762, fw762⟩ := st_alloc Kw761.out hw762 hg762
            rw [hw762, hg762]; clear hw762 hg762
            have Kw762 := Lib.hid Kw762
            have Tw762_1 := Lib.hid Tw762_1
            obtain ⟨Tw762_0, dw762_0⟩ := fw762 _ _ Tw761_0.out
            have Tw762_0 := Lib.hid Tw762_0
            clear fw762
            refine hK2.out _ _ Kw762.out (fun hHeld2 => ?_)
            clear hK2 K2
            try simp only [pu]
            refine wpAnyH_ready (rs := [16]) (by kernel_rfl) (by simp) ?_
            refine AllReadyH.cons (i := 16) rfl (fun K2 hK2 => ?_) AllReadyH.nil
            rw [if_pos (by rfl)]
            refine wp_store_row 23 _ _ rfl g761 vo rfl rfl 23 _ Tw762_0.out Ivo.out (by rw [Zvo.out]; rfl) Ovo.out ?_
            obtain ⟨w763, hw763⟩ : ∃ x, w762.setRow g761 vo = x := ⟨_, rfl⟩
            obtain ⟨Kw763, Tw763_0, fw763⟩ := st_row Kw762.out hw763 (fun h => absurd h (by omega)) Tw762_0.out
            have Kw763 := Lib.hid Kw763
            have Tw763_0 := Lib.hid Tw763_0
            have Tw763_1 := Lib.hid (fw763 _ _ (by omega) Tw762_1.out)
            clear fw763
            rw [hw763]
            clear hw763
            refine hK2.out _ _ Kw763.out (fun hHeld2 => ?_)
            clear hK2 K2
            try simp only [pu]
            refine wpAnyH_ready (rs := [17]) (by kernel_rfl) (by simp) ?_
            refine AllReadyH.cons (i := 17) rfl (fun K2 hK2 => ?_) AllReadyH.nil
            rw [if_pos (by rfl)]
            refine wp_store_row 34 _ _ rfl g762 vz rfl rfl 34 _ Tw763_1.out Ivz.out (by rw [Zvz.out]; rfl) Ovz.out ?_
            obtain ⟨w764, hw764⟩ : ∃ x, w763.setRow g762 vz = x := ⟨_, rfl⟩
            obtain ⟨Kw764, Tw764_1, fw764⟩ := st_row Kw763.out hw764 (fun h => absurd h (by omega)) Tw763_1.out
            have Kw764 := Lib.hid Kw764
            have Tw764_1 := Lib.hid Tw764_1
            have Tw764_0 := Lib.hid (fw764 _ _ (by omega) Tw763_0.out)
            clear fw764
            rw [hw764]
            clear hw764
            refine hK2.out _ _ Kw764.out (fun hHeld2 => ?_)
            clear hK2 K2
            try simp only [pu]
            refine wpAnyH_done (by kernel_rfl) ?_ _
            go_wp2_with fail
            go_meet
            exact ⟨_, _, rfl, rfl, Lib.hid ⟨(But.to_below Kw764.out (Nat.le_refl _) (fun _ _ q => q)), Tw764_0.out, Tw764_1.out⟩⟩
          
          refine AllReadyH.cons (i := 15) rfl (fun K2 hK2 => ?_) ?more74
          · skip
            go_simp
            obtain ⟨w765, hw765⟩ : ∃ x, (w760.alloc (.cells #[.int .i64 0, .int .i64 0] 34)) = x := ⟨_, rfl⟩
            obtain ⟨g765, hg765⟩ : ∃ x, w760.heap.size = x := ⟨_, rfl⟩
            obtain ⟨Kw765, Tw765_0, qw765, fw765⟩ := st_alloc Kw760.out hw765 hg765
            rw [hw765, hg765]; clear hw765 hg765
            have Kw765 := Lib.hid Kw765
            have Tw765_0 := Lib.hid Tw765_0
            clear fw765
            refine hK2.out _ _ Kw765.out (fun hHeld2 => ?_)
            clear hK2 K2
            try simp only [pu]
            refine wpAnyH_ready (rs := [14]) (by kernel_rfl) (by simp) ?_
            refine AllReadyH.cons (i := 14) rfl (fun K2 hK2 => ?_) AllReadyH.nil
            go_simp
            obtain ⟨w766, hw766⟩ : ∃ x, (w765.alloc (.cells (List.replicate 32 (Value.int .u8 0)).toArray 23)) = x := ⟨_, rfl⟩
            obtain ⟨g766, hg766⟩ : ∃ x, w765.heap.size = x := ⟨_, rfl⟩
            obtain ⟨Kw766, Tw766_1, qw766, fw766⟩ := st_alloc Kw765.out hw766 hg766
            simp only [List.replicate] at hw766; rw [hw766, hg766]; clear hw766 hg766
            have Kw766 := Lib.hid Kw766
            have Tw766_1 := Lib.hid Tw766_1
            obtain ⟨Tw766_0, dw766_0⟩ := fw766 _ _ Tw765_0.out
            have Tw766_0 := Lib.hid Tw766_0
            clear fw766
            refine hK2.out _ _ Kw766.out (fun hHeld2 => ?_)
            clear hK2 K2
            try simp only [pu]
            refine wpAnyH_ready (rs := [16]) (by kernel_rfl) (by simp) ?_
            refine AllReadyH.cons (i := 16) rfl (fun K2 hK2 => ?_) AllReadyH.nil
            rw [if_pos (by rfl)]
            refine wp_store_row 23 _ _ rfl g766 vo rfl rfl 23 _ Tw766_1.out Ivo.out (by rw [Zvo.out]; rfl) Ovo.out ?_
            obtain ⟨w767, hw767⟩ : ∃ x, w766.setRow g766 vo = x := ⟨_, rfl⟩
            obtain ⟨Kw767, Tw767_1, fw767⟩ := st_row Kw766.out hw767 (fun h => absurd h (by omega)) Tw766_1.out
            have Kw767 := Lib.hid Kw767
            have Tw767_1 := Lib.hid Tw767_1
            have Tw767_0 := Lib.hid (fw767 _ _ (by omega) Tw766_0.out)
            clear fw767
            rw [hw767]
            clear hw767
            refine hK2.out _ _ Kw767.out (fun hHeld2 => ?_)
            clear hK2 K2
            try simp only [pu]
            refine wpAnyH_ready (rs := [17]) (by kernel_rfl) (by simp) ?_
            refine AllReadyH.cons (i := 17) rfl (fun K2 hK2 => ?_) AllReadyH.nil
            rw [if_pos (by rfl)]
            refine wp_store_row 34 _ _ rfl g765 vz rfl rfl 34 _ Tw767_0.out Ivz.out (by rw [Zvz.out]; rfl) Ovz.out ?_
            obtain ⟨w768, hw768⟩ : ∃ x, w767.setRow g765 vz = x := ⟨_, rfl⟩
            obtain ⟨Kw768, Tw768_0, fw768⟩ := st_row Kw767.out hw768 (fun h => absurd h (by omega)) Tw767_0.out
            have Kw768 := Lib.hid Kw768
            have Tw768_0 := Lib.hid Tw768_0
            have Tw768_1 := Lib.hid (fw768 _ _ (by omega) Tw767_1.out)
            clear fw768
            rw [hw768]
            clear hw768
            refine hK2.out _ _ Kw768.out (fun hHeld2 => ?_)
            clear hK2 K2
            try simp only [pu]
            refine wpAnyH_done (by kernel_rfl) ?_ _
            go_wp2_with fail
            go_meet
            exact ⟨_, _, rfl, rfl, Lib.hid ⟨(But.to_below Kw768.out (Nat.le_refl _) (fun _ _ q => q)), Tw768_1.out, Tw768_0.out⟩⟩
          
          exact AllReadyH.nil
        
        refine AllReadyH.cons (i := 14) rfl (fun K2 hK2 => ?_) ?more75
        · skip
          go_simp
          obtain ⟨w769, hw769⟩ : ∃ x, (w759.alloc (.cells (List.replicate 32 (Value.int .u8 0)).toArray 23)) = x := ⟨_, rfl⟩
          obtain ⟨g769, hg769⟩ : ∃ x, w759.heap.size = x := ⟨_, rfl⟩
          obtain ⟨Kw769, Tw769_0, qw769, fw769⟩ := st_alloc Kw759.out hw769 hg769
          simp only [List.replicate] at hw769; rw [hw769, hg769]; clear hw769 hg769
          have Kw769 := Lib.hid Kw769
          have Tw769_0 := Lib.hid Tw769_0
          clear fw769
          refine hK2.out _ _ Kw769.out (fun hHeld2 => ?_)
          clear hK2 K2
          try simp only [pu]
          refine wpAnyH_ready (rs := [10, 15]) (by kernel_rfl) (by simp) ?_
          refine AllReadyH.cons (i := 10) rfl (fun K2 hK2 => ?_) ?more76
          · skip
            go_simp
            go_at_call 41
            refine (HRT.out w769 (Bw3.out.trans (But.to_below Kw769.out Bw3.out.size (fun _ _ q => q)))).mono ?_
            rintro ev w770 ⟨rfl, bw770⟩
            try go_wp2_with fail
            obtain ⟨Kw770, fw770⟩ := st_call Kw769.out bw770
            have Kw770 := Lib.hid Kw770
            have Tw770_0 := Lib.hid (fw770 _ _ Tw769_0.out)
            clear bw770 fw770
            refine hK2.out _ _ Kw770.out (fun hHeld2 => ?_)
            clear hK2 K2
            try simp only [pu]
            refine tk (i := 11) (v := ?v77) rfl ?y77 ?r77
            case y77 => (intro w hSw; (try dsimp only at hSw); go_simp; (try with_reducible rfl))
            try simp only [pu]
            refine tk (i := 12) (v := ?v78) rfl ?y78 ?r78
            case y78 => (intro w hSw; (try dsimp only at hSw); go_simp; (try with_reducible rfl))
            try simp only [pu]
            refine tk (i := 13) (v := ?v79) rfl ?y79 ?r79
            case y79 => (intro w hSw; (try dsimp only at hSw); go_simp; (try with_reducible rfl))
            try simp only [pu]
            refine wpAnyH_ready (rs := [15]) (by kernel_rfl) (by simp) ?_
            refine AllReadyH.cons (i := 15) rfl (fun K2 hK2 => ?_) AllReadyH.nil
            go_simp
            obtain ⟨w771, hw771⟩ : ∃ x, (w770.alloc (.cells #[.int .i64 0, .int .i64 0] 34)) = x := ⟨_, rfl⟩
            obtain ⟨g771, hg771⟩ : ∃ x, w770.heap.size = x := ⟨_, rfl⟩
            obtain ⟨Kw771, Tw771_1, qw771, fw771⟩ := st_alloc Kw770.out hw771 hg771
            rw [hw771, hg771]; clear hw771 hg771
            have Kw771 := Lib.hid Kw771
            have Tw771_1 := Lib.hid Tw771_1
            obtain ⟨Tw771_0, dw771_0⟩ := fw771 _ _ Tw770_0.out
            have Tw771_0 := Lib.hid Tw771_0
            clear fw771
            refine hK2.out _ _ Kw771.out (fun hHeld2 => ?_)
            clear hK2 K2
            try simp only [pu]
            refine wpAnyH_ready (rs := [16]) (by kernel_rfl) (by simp) ?_
            refine AllReadyH.cons (i := 16) rfl (fun K2 hK2 => ?_) AllReadyH.nil
            rw [if_pos (by rfl)]
            refine wp_store_row 23 _ _ rfl g769 vo rfl rfl 23 _ Tw771_0.out Ivo.out (by rw [Zvo.out]; rfl) Ovo.out ?_
            obtain ⟨w772, hw772⟩ : ∃ x, w771.setRow g769 vo = x := ⟨_, rfl⟩
            obtain ⟨Kw772, Tw772_0, fw772⟩ := st_row Kw771.out hw772 (fun h => absurd h (by omega)) Tw771_0.out
            have Kw772 := Lib.hid Kw772
            have Tw772_0 := Lib.hid Tw772_0
            have Tw772_1 := Lib.hid (fw772 _ _ (by omega) Tw771_1.out)
            clear fw772
            rw [hw772]
            clear hw772
            refine hK2.out _ _ Kw772.out (fun hHeld2 => ?_)
            clear hK2 K2
            try simp only [pu]
            refine wpAnyH_ready (rs := [17]) (by kernel_rfl) (by simp) ?_
            refine AllReadyH.cons (i := 17) rfl (fun K2 hK2 => ?_) AllReadyH.nil
            rw [if_pos (by rfl)]
            refine wp_store_row 34 _ _ rfl g771 vz rfl rfl 34 _ Tw772_1.out Ivz.out (by rw [Zvz.out]; rfl) Ovz.out ?_
            obtain ⟨w773, hw773⟩ : ∃ x, w772.setRow g771 vz = x := ⟨_, rfl⟩
            obtain ⟨Kw773, Tw773_1, fw773⟩ := st_row Kw772.out hw773 (fun h => absurd h (by omega)) Tw772_1.out
            have Kw773 := Lib.hid Kw773
            have Tw773_1 := Lib.hid Tw773_1
            have Tw773_0 := Lib.hid (fw773 _ _ (by omega) Tw772_0.out)
            clear fw773
            rw [hw773]
            clear hw773
            refine hK2.out _ _ Kw773.out (fun hHeld2 => ?_)
            clear hK2 K2
            try simp only [pu]
            refine wpAnyH_done (by kernel_rfl) ?_ _
            go_wp2_with fail
            go_meet
            exact ⟨_, _, rfl, rfl, Lib.hid ⟨(But.to_below Kw773.out (Nat.le_refl _) (fun _ _ q => q)), Tw773_0.out, Tw773_1.out⟩⟩
          
          refine AllReadyH.cons (i := 15) rfl (fun K2 hK2 => ?_) ?more80
          · skip
            go_simp
            obtain ⟨w774, hw774⟩ : ∃ x, (w769.alloc (.cells #[.int .i64 0, .int .i64 0] 34)) = x := ⟨_, rfl⟩
            obtain ⟨g774, hg774⟩ : ∃ x, w769.heap.size = x := ⟨_, rfl⟩
            obtain ⟨Kw774, Tw774_1, qw774, fw774⟩ := st_alloc Kw769.out hw774 hg774
            rw [hw774, hg774]; clear hw774 hg774
            have Kw774 := Lib.hid Kw774
            have Tw774_1 := Lib.hid Tw774_1
            obtain ⟨Tw774_0, dw774_0⟩ := fw774 _ _ Tw769_0.out
            have Tw774_0 := Lib.hid Tw774_0
            clear fw774
            refine hK2.out _ _ Kw774.out (fun hHeld2 => ?_)
            clear hK2 K2
            try simp only [pu]
            refine wpAnyH_ready (rs := [10]) (by kernel_rfl) (by simp) ?_
            refine AllReadyH.cons (i := 10) rfl (fun K2 hK2 => ?_) AllReadyH.nil
            go_simp
            go_at_call 41
            refine (HRT.out w774 (Bw3.out.trans (But.to_below Kw774.out Bw3.out.size (fun _ _ q => q)))).mono ?_
            rintro ev w775 ⟨rfl, bw775⟩
            try go_wp2_with fail
            obtain ⟨Kw775, fw775⟩ := st_call Kw774.out bw775
            have Kw775 := Lib.hid Kw775
            have Tw775_0 := Lib.hid (fw775 _ _ Tw774_0.out)
            have Tw775_1 := Lib.hid (fw775 _ _ Tw774_1.out)
            clear bw775 fw775
            refine hK2.out _ _ Kw775.out (fun hHeld2 => ?_)
            clear hK2 K2
            try simp only [pu]
            refine tk (i := 11) (v := ?v81) rfl ?y81 ?r81
            case y81 => (intro w hSw; (try dsimp only at hSw); go_simp; (try with_reducible rfl))
            try simp only [pu]
            refine tk (i := 12) (v := ?v82) rfl ?y82 ?r82
            case y82 => (intro w hSw; (try dsimp only at hSw); go_simp; (try with_reducible rfl))
            try simp only [pu]
            refine tk (i := 13) (v := ?v83) rfl ?y83 ?r83
            case y83 => (intro w hSw; (try dsimp only at hSw); go_simp; (try with_reducible rfl))
            try simp only [pu]
            refine wpAnyH_ready (rs := [16]) (by kernel_rfl) (by simp) ?_
            refine AllReadyH.cons (i := 16) rfl (fun K2 hK2 => ?_) AllReadyH.nil
            rw [if_pos (by rfl)]
            refine wp_store_row 23 _ _ rfl g769 vo rfl rfl 23 _ Tw775_0.out Ivo.out (by rw [Zvo.out]; rfl) Ovo.out ?_
            obtain ⟨w776, hw776⟩ : ∃ x, w775.setRow g769 vo = x := ⟨_, rfl⟩
            obtain ⟨Kw776, Tw776_0, fw776⟩ := st_row Kw775.out hw776 (fun h => absurd h (by omega)) Tw775_0.out
            have Kw776 := Lib.hid Kw776
            have Tw776_0 := Lib.hid Tw776_0
            have Tw776_1 := Lib.hid (fw776 _ _ (by omega) Tw775_1.out)
            clear fw776
            rw [hw776]
            clear hw776
            refine hK2.out _ _ Kw776.out (fun hHeld2 => ?_)
            clear hK2 K2
            try simp only [pu]
            refine wpAnyH_ready (rs := [17]) (by kernel_rfl) (by simp) ?_
            refine AllReadyH.cons (i := 17) rfl (fun K2 hK2 => ?_) AllReadyH.nil
            rw [if_pos (by rfl)]
            refine wp_store_row 34 _ _ rfl g774 vz rfl rfl 34 _ Tw776_1.out Ivz.out (by rw [Zvz.out]; rfl) Ovz.out ?_
            obtain ⟨w777, hw777⟩ : ∃ x, w776.setRow g774 vz = x := ⟨_, rfl⟩
            obtain ⟨Kw777, Tw777_1, fw777⟩ := st_row Kw776.out hw777 (fun h => absurd h (by omega)) Tw776_1.out
            have Kw777 := Lib.hid Kw777
            have Tw777_1 := Lib.hid Tw777_1
            have Tw777_0 := Lib.hid (fw777 _ _ (by omega) Tw776_0.out)
            clear fw777
            rw [hw777]
            clear hw777
            refine hK2.out _ _ Kw777.out (fun hHeld2 => ?_)
            clear hK2 K2
            try simp only [pu]
            refine wpAnyH_done (by kernel_rfl) ?_ _
            go_wp2_with fail
            go_meet
            exact ⟨_, _, rfl, rfl, Lib.hid ⟨(But.to_below Kw777.out (Nat.le_refl _) (fun _ _ q => q)), Tw777_0.out, Tw777_1.out⟩⟩
          
          exact AllReadyH.nil
        
        refine AllReadyH.cons (i := 15) rfl (fun K2 hK2 => ?_) ?more84
        · skip
          go_simp
          obtain ⟨w778, hw778⟩ : ∃ x, (w759.alloc (.cells #[.int .i64 0, .int .i64 0] 34)) = x := ⟨_, rfl⟩
          obtain ⟨g778, hg778⟩ : ∃ x, w759.heap.size = x := ⟨_, rfl⟩
          obtain ⟨Kw778, Tw778_0, qw778, fw778⟩ := st_alloc Kw759.out hw778 hg778
          rw [hw778, hg778]; clear hw778 hg778
          have Kw778 := Lib.hid Kw778
          have Tw778_0 := Lib.hid Tw778_0
          clear fw778
          refine hK2.out _ _ Kw778.out (fun hHeld2 => ?_)
          clear hK2 K2
          try simp only [pu]
          refine wpAnyH_ready (rs := [10, 14]) (by kernel_rfl) (by simp) ?_
          refine AllReadyH.cons (i := 10) rfl (fun K2 hK2 => ?_) ?more85
          · skip
            go_simp
            go_at_call 41
            refine (HRT.out w778 (Bw3.out.trans (But.to_below Kw778.out Bw3.out.size (fun _ _ q => q)))).mono ?_
            rintro ev w779 ⟨rfl, bw779⟩
            try go_wp2_with fail
            obtain ⟨Kw779, fw779⟩ := st_call Kw778.out bw779
            have Kw779 := Lib.hid Kw779
            have Tw779_0 := Lib.hid (fw779 _ _ Tw778_0.out)
            clear bw779 fw779
            refine hK2.out _ _ Kw779.out (fun hHeld2 => ?_)
            clear hK2 K2
            try simp only [pu]
            refine tk (i := 11) (v := ?v86) rfl ?y86 ?r86
            case y86 => (intro w hSw; (try dsimp only at hSw); go_simp; (try with_reducible rfl))
            try simp only [pu]
            refine tk (i := 12) (v := ?v87) rfl ?y87 ?r87
            case y87 => (intro w hSw; (try dsimp only at hSw); go_simp; (try with_reducible rfl))
            try simp only [pu]
            refine tk (i := 13) (v := ?v88) rfl ?y88 ?r88
            case y88 => (intro w hSw; (try dsimp only at hSw); go_simp; (try with_reducible rfl))
            try simp only [pu]
            refine wpAnyH_ready (rs := [14]) (by kernel_rfl) (by simp) ?_
            refine AllReadyH.cons (i := 14) rfl (fun K2 hK2 => ?_) AllReadyH.nil
            go_simp
            obtain ⟨w780, hw780⟩ : ∃ x, (w779.alloc (.cells (List.replicate 32 (Value.int .u8 0)).toArray 23)) = x := ⟨_, rfl⟩
            obtain ⟨g780, hg780⟩ : ∃ x, w779.heap.size = x := ⟨_, rfl⟩
            obtain ⟨Kw780, Tw780_1, qw780, fw780⟩ := st_alloc Kw779.out hw780 hg780
            simp only [List.replicate] at hw780; rw [hw780, hg780]; clear hw780 hg780
            have Kw780 := Lib.hid Kw780
            have Tw780_1 := Lib.hid Tw780_1
            obtain ⟨Tw780_0, dw780_0⟩ := fw780 _ _ Tw779_0.out
            have Tw780_0 := Lib.hid Tw780_0
            clear fw780
            refine hK2.out _ _ Kw780.out (fun hHeld2 => ?_)
            clear hK2 K2
            try simp only [pu]
            refine wpAnyH_ready (rs := [16]) (by kernel_rfl) (by simp) ?_
            refine AllReadyH.cons (i := 16) rfl (fun K2 hK2 => ?_) AllReadyH.nil
            rw [if_pos (by rfl)]
            refine wp_store_row 23 _ _ rfl g780 vo rfl rfl 23 _ Tw780_1.out Ivo.out (by rw [Zvo.out]; rfl) Ovo.out ?_
            obtain ⟨w781, hw781⟩ : ∃ x, w780.setRow g780 vo = x := ⟨_, rfl⟩
            obtain ⟨Kw781, Tw781_1, fw781⟩ := st_row Kw780.out hw781 (fun h => absurd h (by omega)) Tw780_1.out
            have Kw781 := Lib.hid Kw781
            have Tw781_1 := Lib.hid Tw781_1
            have Tw781_0 := Lib.hid (fw781 _ _ (by omega) Tw780_0.out)
            clear fw781
            rw [hw781]
            clear hw781
            refine hK2.out _ _ Kw781.out (fun hHeld2 => ?_)
            clear hK2 K2
            try simp only [pu]
            refine wpAnyH_ready (rs := [17]) (by kernel_rfl) (by simp) ?_
            refine AllReadyH.cons (i := 17) rfl (fun K2 hK2 => ?_) AllReadyH.nil
            rw [if_pos (by rfl)]
            refine wp_store_row 34 _ _ rfl g778 vz rfl rfl 34 _ Tw781_0.out Ivz.out (by rw [Zvz.out]; rfl) Ovz.out ?_
            obtain ⟨w782, hw782⟩ : ∃ x, w781.setRow g778 vz = x := ⟨_, rfl⟩
            obtain ⟨Kw782, Tw782_0, fw782⟩ := st_row Kw781.out hw782 (fun h => absurd h (by omega)) Tw781_0.out
            have Kw782 := Lib.hid Kw782
            have Tw782_0 := Lib.hid Tw782_0
            have Tw782_1 := Lib.hid (fw782 _ _ (by omega) Tw781_1.out)
            clear fw782
            rw [hw782]
            clear hw782
            refine hK2.out _ _ Kw782.out (fun hHeld2 => ?_)
            clear hK2 K2
            try simp only [pu]
            refine wpAnyH_done (by kernel_rfl) ?_ _
            go_wp2_with fail
            go_meet
            exact ⟨_, _, rfl, rfl, Lib.hid ⟨(But.to_below Kw782.out (Nat.le_refl _) (fun _ _ q => q)), Tw782_1.out, Tw782_0.out⟩⟩
          
          refine AllReadyH.cons (i := 14) rfl (fun K2 hK2 => ?_) ?more89
          · skip
            go_simp
            obtain ⟨w783, hw783⟩ : ∃ x, (w778.alloc (.cells (List.replicate 32 (Value.int .u8 0)).toArray 23)) = x := ⟨_, rfl⟩
            obtain ⟨g783, hg783⟩ : ∃ x, w778.heap.size = x := ⟨_, rfl⟩
            obtain ⟨Kw783, Tw783_1, qw783, fw783⟩ := st_alloc Kw778.out hw783 hg783
            simp only [List.replicate] at hw783; rw [hw783, hg783]; clear hw783 hg783
            have Kw783 := Lib.hid Kw783
            have Tw783_1 := Lib.hid Tw783_1
            obtain ⟨Tw783_0, dw783_0⟩ := fw783 _ _ Tw778_0.out
            have Tw783_0 := Lib.hid Tw783_0
            clear fw783
            refine hK2.out _ _ Kw783.out (fun hHeld2 => ?_)
            clear hK2 K2
            try simp only [pu]
            refine wpAnyH_ready (rs := [10]) (by kernel_rfl) (by simp) ?_
            refine AllReadyH.cons (i := 10) rfl (fun K2 hK2 => ?_) AllReadyH.nil
            go_simp
            go_at_call 41
            refine (HRT.out w783 (Bw3.out.trans (But.to_below Kw783.out Bw3.out.size (fun _ _ q => q)))).mono ?_
            rintro ev w784 ⟨rfl, bw784⟩
            try go_wp2_with fail
            obtain ⟨Kw784, fw784⟩ := st_call Kw783.out bw784
            have Kw784 := Lib.hid Kw784
            have Tw784_0 := Lib.hid (fw784 _ _ Tw783_0.out)
            have Tw784_1 := Lib.hid (fw784 _ _ Tw783_1.out)
            clear bw784 fw784
            refine hK2.out _ _ Kw784.out (fun hHeld2 => ?_)
            clear hK2 K2
            try simp only [pu]
            refine tk (i := 11) (v := ?v90) rfl ?y90 ?r90
            case y90 => (intro w hSw; (try dsimp only at hSw); go_simp; (try with_reducible rfl))
            try simp only [pu]
            refine tk (i := 12) (v := ?v91) rfl ?y91 ?r91
            case y91 => (intro w hSw; (try dsimp only at hSw); go_simp; (try with_reducible rfl))
            try simp only [pu]
            refine tk (i := 13) (v := ?v92) rfl ?y92 ?r92
            case y92 => (intro w hSw; (try dsimp only at hSw); go_simp; (try with_reducible rfl))
            try simp only [pu]
            refine wpAnyH_ready (rs := [16]) (by kernel_rfl) (by simp) ?_
            refine AllReadyH.cons (i := 16) rfl (fun K2 hK2 => ?_) AllReadyH.nil
            rw [if_pos (by rfl)]
            refine wp_store_row 23 _ _ rfl g783 vo rfl rfl 23 _ Tw784_1.out Ivo.out (by rw [Zvo.out]; rfl) Ovo.out ?_
            obtain ⟨w785, hw785⟩ : ∃ x, w784.setRow g783 vo = x := ⟨_, rfl⟩
            obtain ⟨Kw785, Tw785_1, fw785⟩ := st_row Kw784.out hw785 (fun h => absurd h (by omega)) Tw784_1.out
            have Kw785 := Lib.hid Kw785
            have Tw785_1 := Lib.hid Tw785_1
            have Tw785_0 := Lib.hid (fw785 _ _ (by omega) Tw784_0.out)
            clear fw785
            rw [hw785]
            clear hw785
            refine hK2.out _ _ Kw785.out (fun hHeld2 => ?_)
            clear hK2 K2
            try simp only [pu]
            refine wpAnyH_ready (rs := [17]) (by kernel_rfl) (by simp) ?_
            refine AllReadyH.cons (i := 17) rfl (fun K2 hK2 => ?_) AllReadyH.nil
            rw [if_pos (by rfl)]
            refine wp_store_row 34 _ _ rfl g778 vz rfl rfl 34 _ Tw785_0.out Ivz.out (by rw [Zvz.out]; rfl) Ovz.out ?_
            obtain ⟨w786, hw786⟩ : ∃ x, w785.setRow g778 vz = x := ⟨_, rfl⟩
            obtain ⟨Kw786, Tw786_0, fw786⟩ := st_row Kw785.out hw786 (fun h => absurd h (by omega)) Tw785_0.out
            have Kw786 := Lib.hid Kw786
            have Tw786_0 := Lib.hid Tw786_0
            have Tw786_1 := Lib.hid (fw786 _ _ (by omega) Tw785_1.out)
            clear fw786
            rw [hw786]
            clear hw786
            refine hK2.out _ _ Kw786.out (fun hHeld2 => ?_)
            clear hK2 K2
            try simp only [pu]
            refine wpAnyH_done (by kernel_rfl) ?_ _
            go_wp2_with fail
            go_meet
            exact ⟨_, _, rfl, rfl, Lib.hid ⟨(But.to_below Kw786.out (Nat.le_refl _) (fun _ _ q => q)), Tw786_1.out, Tw786_0.out⟩⟩
          
          exact AllReadyH.nil
        
        exact AllReadyH.nil

      refine AllReadyH.cons (i := 14) rfl (fun K2 hK2 => ?_) ?more93
      · skip
        go_simp
        obtain ⟨w787, hw787⟩ : ∃ x, (w3.alloc (.cells (List.replicate 32 (Value.int .u8 0)).toArray 23)).drew = x := ⟨_, rfl⟩
        obtain ⟨g787, hg787⟩ : ∃ x, w3.heap.size = x := ⟨_, rfl⟩
        obtain ⟨Kw787, Tw787_0, qw787, fw787⟩ := st_alloc ((But.refl (fun _ => False) w3).drew) hw787 hg787
        simp only [List.replicate] at hw787; rw [hw787, hg787]; clear hw787 hg787
        have Kw787 := Lib.hid Kw787
        have Tw787_0 := Lib.hid Tw787_0
        clear fw787
        refine hK2.out _ _ Kw787.out (fun hHeld2 => ?_)
        clear hK2 K2
        try simp only [pu]
        refine wpAnyH_ready (rs := [7, 15]) (by kernel_rfl) (by simp) ?_
        refine AllReadyH.cons (i := 7) rfl (fun K2 hK2 => ?_) ?more94
        · skip
          go_simp
          go_at_call 42
          refine (HLF.out w787).mono ?_
          rintro ev w788 ⟨rfl, bw788⟩
          try go_wp2_with fail
          obtain ⟨Kw788, fw788⟩ := st_call Kw787.out bw788
          have Kw788 := Lib.hid Kw788
          have Tw788_0 := Lib.hid (fw788 _ _ Tw787_0.out)
          clear bw788 fw788
          refine hK2.out _ _ Kw788.out (fun hHeld2 => ?_)
          clear hK2 K2
          try simp only [pu]
          refine wpAnyH_ready (rs := [10, 15]) (by kernel_rfl) (by simp) ?_
          refine AllReadyH.cons (i := 10) rfl (fun K2 hK2 => ?_) ?more95
          · skip
            go_simp
            go_at_call 41
            refine (HRT.out w788 (Bw3.out.trans (But.to_below Kw788.out Bw3.out.size (fun _ _ q => q)))).mono ?_
            rintro ev w789 ⟨rfl, bw789⟩
            try go_wp2_with fail
            obtain ⟨Kw789, fw789⟩ := st_call Kw788.out bw789
            have Kw789 := Lib.hid Kw789
            have Tw789_0 := Lib.hid (fw789 _ _ Tw788_0.out)
            clear bw789 fw789
            refine hK2.out _ _ Kw789.out (fun hHeld2 => ?_)
            clear hK2 K2
            try simp only [pu]
            refine tk (i := 11) (v := ?v96) rfl ?y96 ?r96
            case y96 => (intro w hSw; (try dsimp only at hSw); go_simp; (try with_reducible rfl))
            try simp only [pu]
            refine tk (i := 12) (v := ?v97) rfl ?y97 ?r97
            case y97 => (intro w hSw; (try dsimp only at hSw); go_simp; (try with_reducible rfl))
            try simp only [pu]
            refine tk (i := 13) (v := ?v98) rfl ?y98 ?r98
            case y98 => (intro w hSw; (try dsimp only at hSw); go_simp; (try with_reducible rfl))
            try simp only [pu]
            refine wpAnyH_ready (rs := [15]) (by kernel_rfl) (by simp) ?_
            refine AllReadyH.cons (i := 15) rfl (fun K2 hK2 => ?_) AllReadyH.nil
            go_simp
            obtain ⟨w790, hw790⟩ : ∃ x, (w789.alloc (.cells #[.int .i64 0, .int .i64 0] 34)) = x := ⟨_, rfl⟩
            obtain ⟨g790, hg790⟩ : ∃ x, w789.heap.size = x := ⟨_, rfl⟩
            obtain ⟨Kw790, Tw790_1, qw790, fw790⟩ := st_alloc Kw789.out hw790 hg790
            rw [hw790, hg790]; clear hw790 hg790
            have Kw790 := Lib.hid Kw790
            have Tw790_1 := Lib.hid Tw790_1
            obtain ⟨Tw790_0, dw790_0⟩ := fw790 _ _ Tw789_0.out
            have Tw790_0 := Lib.hid Tw790_0
            clear fw790
            refine hK2.out _ _ Kw790.out (fun hHeld2 => ?_)
            clear hK2 K2
            try simp only [pu]
            refine wpAnyH_ready (rs := [16]) (by kernel_rfl) (by simp) ?_
            refine AllReadyH.cons (i := 16) rfl (fun K2 hK2 => ?_) AllReadyH.nil
            rw [if_pos (by rfl)]
            refine wp_store_row 23 _ _ rfl g787 vo rfl rfl 23 _ Tw790_0.out Ivo.out (by rw [Zvo.out]; rfl) Ovo.out ?_
            obtain ⟨w791, hw791⟩ : ∃ x, w790.setRow g787 vo = x := ⟨_, rfl⟩
            obtain ⟨Kw791, Tw791_0, fw791⟩ := st_row Kw790.out hw791 (fun h => absurd h (by omega)) Tw790_0.out
            have Kw791 := Lib.hid Kw791
            have Tw791_0 := Lib.hid Tw791_0
            have Tw791_1 := Lib.hid (fw791 _ _ (by omega) Tw790_1.out)
            clear fw791
            rw [hw791]
            clear hw791
            refine hK2.out _ _ Kw791.out (fun hHeld2 => ?_)
            clear hK2 K2
            try simp only [pu]
            refine wpAnyH_ready (rs := [17]) (by kernel_rfl) (by simp) ?_
            refine AllReadyH.cons (i := 17) rfl (fun K2 hK2 => ?_) AllReadyH.nil
            rw [if_pos (by rfl)]
            refine wp_store_row 34 _ _ rfl g790 vz rfl rfl 34 _ Tw791_1.out Ivz.out (by rw [Zvz.out]; rfl) Ovz.out ?_
            obtain ⟨w792, hw792⟩ : ∃ x, w791.setRow g790 vz = x := ⟨_, rfl⟩
            obtain ⟨Kw792, Tw792_1, fw792⟩ := st_row Kw791.out hw792 (fun h => absurd h (by omega)) Tw791_1.out
            have Kw792 := Lib.hid Kw792
            have Tw792_1 := Lib.hid Tw792_1
            have Tw792_0 := Lib.hid (fw792 _ _ (by omega) Tw791_0.out)
            clear fw792
            rw [hw792]
            clear hw792
            refine hK2.out _ _ Kw792.out (fun hHeld2 => ?_)
            clear hK2 K2
            try simp only [pu]
            refine wpAnyH_done (by kernel_rfl) ?_ _
            go_wp2_with fail
            go_meet
            exact ⟨_, _, rfl, rfl, Lib.hid ⟨(But.to_below Kw792.out (Nat.le_refl _) (fun _ _ q => q)), Tw792_0.out, Tw792_1.out⟩⟩
          
          refine AllReadyH.cons (i := 15) rfl (fun K2 hK2 => ?_) ?more99
          · skip
            go_simp
            obtain ⟨w793, hw793⟩ : ∃ x, (w788.alloc (.cells #[.int .i64 0, .int .i64 0] 34)) = x := ⟨_, rfl⟩
            obtain ⟨g793, hg793⟩ : ∃ x, w788.heap.size = x := ⟨_, rfl⟩
            obtain ⟨Kw793, Tw793_1, qw793, fw793⟩ := st_alloc Kw788.out hw793 hg793
            rw [hw793, hg793]; clear hw793 hg793
            have Kw793 := Lib.hid Kw793
            have Tw793_1 := Lib.hid Tw793_1
            obtain ⟨Tw793_0, dw793_0⟩ := fw793 _ _ Tw788_0.out
            have Tw793_0 := Lib.hid Tw793_0
            clear fw793
            refine hK2.out _ _ Kw793.out (fun hHeld2 => ?_)
            clear hK2 K2
            try simp only [pu]
            refine wpAnyH_ready (rs := [10]) (by kernel_rfl) (by simp) ?_
            refine AllReadyH.cons (i := 10) rfl (fun K2 hK2 => ?_) AllReadyH.nil
            go_simp
            go_at_call 41
            refine (HRT.out w793 (Bw3.out.trans (But.to_below Kw793.out Bw3.out.size (fun _ _ q => q)))).mono ?_
            rintro ev w794 ⟨rfl, bw794⟩
            try go_wp2_with fail
            obtain ⟨Kw794, fw794⟩ := st_call Kw793.out bw794
            have Kw794 := Lib.hid Kw794
            have Tw794_0 := Lib.hid (fw794 _ _ Tw793_0.out)
            have Tw794_1 := Lib.hid (fw794 _ _ Tw793_1.out)
            clear bw794 fw794
            refine hK2.out _ _ Kw794.out (fun hHeld2 => ?_)
            clear hK2 K2
            try simp only [pu]
            refine tk (i := 11) (v := ?v100) rfl ?y100 ?r100
            case y100 => (intro w hSw; (try dsimp only at hSw); go_simp; (try with_reducible rfl))
            try simp only [pu]
            refine tk (i := 12) (v := ?v101) rfl ?y101 ?r101
            case y101 => (intro w hSw; (try dsimp only at hSw); go_simp; (try with_reducible rfl))
            try simp only [pu]
            refine tk (i := 13) (v := ?v102) rfl ?y102 ?r102
            case y102 => (intro w hSw; (try dsimp only at hSw); go_simp; (try with_reducible rfl))
            try simp only [pu]
            refine wpAnyH_ready (rs := [16]) (by kernel_rfl) (by simp) ?_
            refine AllReadyH.cons (i := 16) rfl (fun K2 hK2 => ?_) AllReadyH.nil
            rw [if_pos (by rfl)]
            refine wp_store_row 23 _ _ rfl g787 vo rfl rfl 23 _ Tw794_0.out Ivo.out (by rw [Zvo.out]; rfl) Ovo.out ?_
            obtain ⟨w795, hw795⟩ : ∃ x, w794.setRow g787 vo = x := ⟨_, rfl⟩
            obtain ⟨Kw795, Tw795_0, fw795⟩ := st_row Kw794.out hw795 (fun h => absurd h (by omega)) Tw794_0.out
            have Kw795 := Lib.hid Kw795
            have Tw795_0 := Lib.hid Tw795_0
            have Tw795_1 := Lib.hid (fw795 _ _ (by omega) Tw794_1.out)
            clear fw795
            rw [hw795]
            clear hw795
            refine hK2.out _ _ Kw795.out (fun hHeld2 => ?_)
            clear hK2 K2
            try simp only [pu]
            refine wpAnyH_ready (rs := [17]) (by kernel_rfl) (by simp) ?_
            refine AllReadyH.cons (i := 17) rfl (fun K2 hK2 => ?_) AllReadyH.nil
            rw [if_pos (by rfl)]
            refine wp_store_row 34 _ _ rfl g793 vz rfl rfl 34 _ Tw795_1.out Ivz.out (by rw [Zvz.out]; rfl) Ovz.out ?_
            obtain ⟨w796, hw796⟩ : ∃ x, w795.setRow g793 vz = x := ⟨_, rfl⟩
            obtain ⟨Kw796, Tw796_1, fw796⟩ := st_row Kw795.out hw796 (fun h => absurd h (by omega)) Tw795_1.out
            have Kw796 := Lib.hid Kw796
            have Tw796_1 := Lib.hid Tw796_1
            have Tw796_0 := Lib.hid (fw796 _ _ (by omega) Tw795_0.out)
            clear fw796
            rw [hw796]
            clear hw796
            refine hK2.out _ _ Kw796.out (fun hHeld2 => ?_)
            clear hK2 K2
            try simp only [pu]
            refine wpAnyH_done (by kernel_rfl) ?_ _
            go_wp2_with fail
            go_meet
            exact ⟨_, _, rfl, rfl, Lib.hid ⟨(But.to_below Kw796.out (Nat.le_refl _) (fun _ _ q => q)), Tw796_0.out, Tw796_1.out⟩⟩
          
          exact AllReadyH.nil
        
        refine AllReadyH.cons (i := 15) rfl (fun K2 hK2 => ?_) ?more103
        · skip
          go_simp
          obtain ⟨w797, hw797⟩ : ∃ x, (w787.alloc (.cells #[.int .i64 0, .int .i64 0] 34)) = x := ⟨_, rfl⟩
          obtain ⟨g797, hg797⟩ : ∃ x, w787.heap.size = x := ⟨_, rfl⟩
          obtain ⟨Kw797, Tw797_1, qw797, fw797⟩ := st_alloc Kw787.out hw797 hg797
          rw [hw797, hg797]; clear hw797 hg797
          have Kw797 := Lib.hid Kw797
          have Tw797_1 := Lib.hid Tw797_1
          obtain ⟨Tw797_0, dw797_0⟩ := fw797 _ _ Tw787_0.out
          have Tw797_0 := Lib.hid Tw797_0
          clear fw797
          refine hK2.out _ _ Kw797.out (fun hHeld2 => ?_)
          clear hK2 K2
          try simp only [pu]
          refine wpAnyH_ready (rs := [7]) (by kernel_rfl) (by simp) ?_
          refine AllReadyH.cons (i := 7) rfl (fun K2 hK2 => ?_) AllReadyH.nil
          go_simp
          go_at_call 42
          refine (HLF.out w797).mono ?_
          rintro ev w798 ⟨rfl, bw798⟩
          try go_wp2_with fail
          obtain ⟨Kw798, fw798⟩ := st_call Kw797.out bw798
          have Kw798 := Lib.hid Kw798
          have Tw798_0 := Lib.hid (fw798 _ _ Tw797_0.out)
          have Tw798_1 := Lib.hid (fw798 _ _ Tw797_1.out)
          clear bw798 fw798
          refine hK2.out _ _ Kw798.out (fun hHeld2 => ?_)
          clear hK2 K2
          try simp only [pu]
          refine wpAnyH_ready (rs := [10]) (by kernel_rfl) (by simp) ?_
          refine AllReadyH.cons (i := 10) rfl (fun K2 hK2 => ?_) AllReadyH.nil
          go_simp
          go_at_call 41
          refine (HRT.out w798 (Bw3.out.trans (But.to_below Kw798.out Bw3.out.size (fun _ _ q => q)))).mono ?_
          rintro ev w799 ⟨rfl, bw799⟩
          try go_wp2_with fail
          obtain ⟨Kw799, fw799⟩ := st_call Kw798.out bw799
          have Kw799 := Lib.hid Kw799
          have Tw799_0 := Lib.hid (fw799 _ _ Tw798_0.out)
          have Tw799_1 := Lib.hid (fw799 _ _ Tw798_1.out)
          clear bw799 fw799
          refine hK2.out _ _ Kw799.out (fun hHeld2 => ?_)
          clear hK2 K2
          try simp only [pu]
          refine tk (i := 11) (v := ?v104) rfl ?y104 ?r104
          case y104 => (intro w hSw; (try dsimp only at hSw); go_simp; (try with_reducible rfl))
          try simp only [pu]
          refine tk (i := 12) (v := ?v105) rfl ?y105 ?r105
          case y105 => (intro w hSw; (try dsimp only at hSw); go_simp; (try with_reducible rfl))
          try simp only [pu]
          refine tk (i := 13) (v := ?v106) rfl ?y106 ?r106
          case y106 => (intro w hSw; (try dsimp only at hSw); go_simp; (try with_reducible rfl))
          try simp only [pu]
          refine wpAnyH_ready (rs := [16]) (by kernel_rfl) (by simp) ?_
          refine AllReadyH.cons (i := 16) rfl (fun K2 hK2 => ?_) AllReadyH.nil
          rw [if_pos (by rfl)]
          refine wp_store_row 23 _ _ rfl g787 vo rfl rfl 23 _ Tw799_0.out Ivo.out (by rw [Zvo.out]; rfl) Ovo.out ?_
          obtain ⟨w800, hw800⟩ : ∃ x, w799.setRow g787 vo = x := ⟨_, rfl⟩
          obtain ⟨Kw800, Tw800_0, fw800⟩ := st_row Kw799.out hw800 (fun h => absurd h (by omega)) Tw799_0.out
          have Kw800 := Lib.hid Kw800
          have Tw800_0 := Lib.hid Tw800_0
          have Tw800_1 := Lib.hid (fw800 _ _ (by omega) Tw799_1.out)
          clear fw800
          rw [hw800]
          clear hw800
          refine hK2.out _ _ Kw800.out (fun hHeld2 => ?_)
          clear hK2 K2
          try simp only [pu]
          refine wpAnyH_ready (rs := [17]) (by kernel_rfl) (by simp) ?_
          refine AllReadyH.cons (i := 17) rfl (fun K2 hK2 => ?_) AllReadyH.nil
          rw [if_pos (by rfl)]
          refine wp_store_row 34 _ _ rfl g797 vz rfl rfl 34 _ Tw800_1.out Ivz.out (by rw [Zvz.out]; rfl) Ovz.out ?_
          obtain ⟨w801, hw801⟩ : ∃ x, w800.setRow g797 vz = x := ⟨_, rfl⟩
          obtain ⟨Kw801, Tw801_1, fw801⟩ := st_row Kw800.out hw801 (fun h => absurd h (by omega)) Tw800_1.out
          have Kw801 := Lib.hid Kw801
          have Tw801_1 := Lib.hid Tw801_1
          have Tw801_0 := Lib.hid (fw801 _ _ (by omega) Tw800_0.out)
          clear fw801
          rw [hw801]
          clear hw801
          refine hK2.out _ _ Kw801.out (fun hHeld2 => ?_)
          clear hK2 K2
          try simp only [pu]
          refine wpAnyH_done (by kernel_rfl) ?_ _
          go_wp2_with fail
          go_meet
          exact ⟨_, _, rfl, rfl, Lib.hid ⟨(But.to_below Kw801.out (Nat.le_refl _) (fun _ _ q => q)), Tw801_0.out, Tw801_1.out⟩⟩
        
        exact AllReadyH.nil

      refine AllReadyH.cons (i := 15) rfl (fun K2 hK2 => ?_) ?more107
      · skip
        go_simp
        obtain ⟨w802, hw802⟩ : ∃ x, (w3.alloc (.cells #[.int .i64 0, .int .i64 0] 34)).drew = x := ⟨_, rfl⟩
        obtain ⟨g802, hg802⟩ : ∃ x, w3.heap.size = x := ⟨_, rfl⟩
        obtain ⟨Kw802, Tw802_0, qw802, fw802⟩ := st_alloc ((But.refl (fun _ => False) w3).drew) hw802 hg802
        rw [hw802, hg802]; clear hw802 hg802
        have Kw802 := Lib.hid Kw802
        have Tw802_0 := Lib.hid Tw802_0
        clear fw802
        refine hK2.out _ _ Kw802.out (fun hHeld2 => ?_)
        clear hK2 K2
        try simp only [pu]
        refine wpAnyH_ready (rs := [7, 14]) (by kernel_rfl) (by simp) ?_
        refine AllReadyH.cons (i := 7) rfl (fun K2 hK2 => ?_) ?more108
        · skip
          go_simp
          go_at_call 42
          refine (HLF.out w802).mono ?_
          rintro ev w803 ⟨rfl, bw803⟩
          try go_wp2_with fail
          obtain ⟨Kw803, fw803⟩ := st_call Kw802.out bw803
          have Kw803 := Lib.hid Kw803
          have Tw803_0 := Lib.hid (fw803 _ _ Tw802_0.out)
          clear bw803 fw803
          refine hK2.out _ _ Kw803.out (fun hHeld2 => ?_)
          clear hK2 K2
          try simp only [pu]
          refine wpAnyH_ready (rs := [10, 14]) (by kernel_rfl) (by simp) ?_
          refine AllReadyH.cons (i := 10) rfl (fun K2 hK2 => ?_) ?more109
          · skip
            go_simp
            go_at_call 41
            refine (HRT.out w803 (Bw3.out.trans (But.to_below Kw803.out Bw3.out.size (fun _ _ q => q)))).mono ?_
            rintro ev w804 ⟨rfl, bw804⟩
            try go_wp2_with fail
            obtain ⟨Kw804, fw804⟩ := st_call Kw803.out bw804
            have Kw804 := Lib.hid Kw804
            have Tw804_0 := Lib.hid (fw804 _ _ Tw803_0.out)
            clear bw804 fw804
            refine hK2.out _ _ Kw804.out (fun hHeld2 => ?_)
            clear hK2 K2
            try simp only [pu]
            refine tk (i := 11) (v := ?v110) rfl ?y110 ?r110
            case y110 => (intro w hSw; (try dsimp only at hSw); go_simp; (try with_reducible rfl))
            try simp only [pu]
            refine tk (i := 12) (v := ?v111) rfl ?y111 ?r111
            case y111 => (intro w hSw; (try dsimp only at hSw); go_simp; (try with_reducible rfl))
            try simp only [pu]
            refine tk (i := 13) (v := ?v112) rfl ?y112 ?r112
            case y112 => (intro w hSw; (try dsimp only at hSw); go_simp; (try with_reducible rfl))
            try simp only [pu]
            refine wpAnyH_ready (rs := [14]) (by kernel_rfl) (by simp) ?_
            refine AllReadyH.cons (i := 14) rfl (fun K2 hK2 => ?_) AllReadyH.nil
            go_simp
            obtain ⟨w805, hw805⟩ : ∃ x, (w804.alloc (.cells (List.replicate 32 (Value.int .u8 0)).toArray 23)) = x := ⟨_, rfl⟩
            obtain ⟨g805, hg805⟩ : ∃ x, w804.heap.size = x := ⟨_, rfl⟩
            obtain ⟨Kw805, Tw805_1, qw805, fw805⟩ := st_alloc Kw804.out hw805 hg805
            simp only [List.replicate] at hw805; rw [hw805, hg805]; clear hw805 hg805
            have Kw805 := Lib.hid Kw805
            have Tw805_1 := Lib.hid Tw805_1
            obtain ⟨Tw805_0, dw805_0⟩ := fw805 _ _ Tw804_0.out
            have Tw805_0 := Lib.hid Tw805_0
            clear fw805
            refine hK2.out _ _ Kw805.out (fun hHeld2 => ?_)
            clear hK2 K2
            try simp only [pu]
            refine wpAnyH_ready (rs := [16]) (by kernel_rfl) (by simp) ?_
            refine AllReadyH.cons (i := 16) rfl (fun K2 hK2 => ?_) AllReadyH.nil
            rw [if_pos (by rfl)]
            refine wp_store_row 23 _ _ rfl g805 vo rfl rfl 23 _ Tw805_1.out Ivo.out (by rw [Zvo.out]; rfl) Ovo.out ?_
            obtain ⟨w806, hw806⟩ : ∃ x, w805.setRow g805 vo = x := ⟨_, rfl⟩
            obtain ⟨Kw806, Tw806_1, fw806⟩ := st_row Kw805.out hw806 (fun h => absurd h (by omega)) Tw805_1.out
            have Kw806 := Lib.hid Kw806
            have Tw806_1 := Lib.hid Tw806_1
            have Tw806_0 := Lib.hid (fw806 _ _ (by omega) Tw805_0.out)
            clear fw806
            rw [hw806]
            clear hw806
            refine hK2.out _ _ Kw806.out (fun hHeld2 => ?_)
            clear hK2 K2
            try simp only [pu]
            refine wpAnyH_ready (rs := [17]) (by kernel_rfl) (by simp) ?_
            refine AllReadyH.cons (i := 17) rfl (fun K2 hK2 => ?_) AllReadyH.nil
            rw [if_pos (by rfl)]
            refine wp_store_row 34 _ _ rfl g802 vz rfl rfl 34 _ Tw806_0.out Ivz.out (by rw [Zvz.out]; rfl) Ovz.out ?_
            obtain ⟨w807, hw807⟩ : ∃ x, w806.setRow g802 vz = x := ⟨_, rfl⟩
            obtain ⟨Kw807, Tw807_0, fw807⟩ := st_row Kw806.out hw807 (fun h => absurd h (by omega)) Tw806_0.out
            have Kw807 := Lib.hid Kw807
            have Tw807_0 := Lib.hid Tw807_0
            have Tw807_1 := Lib.hid (fw807 _ _ (by omega) Tw806_1.out)
            clear fw807
            rw [hw807]
            clear hw807
            refine hK2.out _ _ Kw807.out (fun hHeld2 => ?_)
            clear hK2 K2
            try simp only [pu]
            refine wpAnyH_done (by kernel_rfl) ?_ _
            go_wp2_with fail
            go_meet
            exact ⟨_, _, rfl, rfl, Lib.hid ⟨(But.to_below Kw807.out (Nat.le_refl _) (fun _ _ q => q)), Tw807_1.out, Tw807_0.out⟩⟩
          
          refine AllReadyH.cons (i := 14) rfl (fun K2 hK2 => ?_) ?more113
          · skip
            go_simp
            obtain ⟨w808, hw808⟩ : ∃ x, (w803.alloc (.cells (List.replicate 32 (Value.int .u8 0)).toArray 23)) = x := ⟨_, rfl⟩
            obtain ⟨g808, hg808⟩ : ∃ x, w803.heap.size = x := ⟨_, rfl⟩
            obtain ⟨Kw808, Tw808_1, qw808, fw808⟩ := st_alloc Kw803.out hw808 hg808
            simp only [List.replicate] at hw808; rw [hw808, hg808]; clear hw808 hg808
            have Kw808 := Lib.hid Kw808
            have Tw808_1 := Lib.hid Tw808_1
            obtain ⟨Tw808_0, dw808_0⟩ := fw808 _ _ Tw803_0.out
            have Tw808_0 := Lib.hid Tw808_0
            clear fw808
            refine hK2.out _ _ Kw808.out (fun hHeld2 => ?_)
            clear hK2 K2
            try simp only [pu]
            refine wpAnyH_ready (rs := [10]) (by kernel_rfl) (by simp) ?_
            refine AllReadyH.cons (i := 10) rfl (fun K2 hK2 => ?_) AllReadyH.nil
            go_simp
            go_at_call 41
            refine (HRT.out w808 (Bw3.out.trans (But.to_below Kw808.out Bw3.out.size (fun _ _ q => q)))).mono ?_
            rintro ev w809 ⟨rfl, bw809⟩
            try go_wp2_with fail
            obtain ⟨Kw809, fw809⟩ := st_call Kw808.out bw809
            have Kw809 := Lib.hid Kw809
            have Tw809_0 := Lib.hid (fw809 _ _ Tw808_0.out)
            have Tw809_1 := Lib.hid (fw809 _ _ Tw808_1.out)
            clear bw809 fw809
            refine hK2.out _ _ Kw809.out (fun hHeld2 => ?_)
            clear hK2 K2
            try simp only [pu]
            refine tk (i := 11) (v := ?v114) rfl ?y114 ?r114
            case y114 => (intro w hSw; (try dsimp only at hSw); go_simp; (try with_reducible rfl))
            try simp only [pu]
            refine tk (i := 12) (v := ?v115) rfl ?y115 ?r115
            case y115 => (intro w hSw; (try dsimp only at hSw); go_simp; (try with_reducible rfl))
            try simp only [pu]
            refine tk (i := 13) (v := ?v116) rfl ?y116 ?r116
            case y116 => (intro w hSw; (try dsimp only at hSw); go_simp; (try with_reducible rfl))
            try simp only [pu]
            refine wpAnyH_ready (rs := [16]) (by kernel_rfl) (by simp) ?_
            refine AllReadyH.cons (i := 16) rfl (fun K2 hK2 => ?_) AllReadyH.nil
            rw [if_pos (by rfl)]
            refine wp_store_row 23 _ _ rfl g808 vo rfl rfl 23 _ Tw809_1.out Ivo.out (by rw [Zvo.out]; rfl) Ovo.out ?_
            obtain ⟨w810, hw810⟩ : ∃ x, w809.setRow g808 vo = x := ⟨_, rfl⟩
            obtain ⟨Kw810, Tw810_1, fw810⟩ := st_row Kw809.out hw810 (fun h => absurd h (by omega)) Tw809_1.out
            have Kw810 := Lib.hid Kw810
            have Tw810_1 := Lib.hid Tw810_1
            have Tw810_0 := Lib.hid (fw810 _ _ (by omega) Tw809_0.out)
            clear fw810
            rw [hw810]
            clear hw810
            refine hK2.out _ _ Kw810.out (fun hHeld2 => ?_)
            clear hK2 K2
            try simp only [pu]
            refine wpAnyH_ready (rs := [17]) (by kernel_rfl) (by simp) ?_
            refine AllReadyH.cons (i := 17) rfl (fun K2 hK2 => ?_) AllReadyH.nil
            rw [if_pos (by rfl)]
            refine wp_store_row 34 _ _ rfl g802 vz rfl rfl 34 _ Tw810_0.out Ivz.out (by rw [Zvz.out]; rfl) Ovz.out ?_
            obtain ⟨w811, hw811⟩ : ∃ x, w810.setRow g802 vz = x := ⟨_, rfl⟩
            obtain ⟨Kw811, Tw811_0, fw811⟩ := st_row Kw810.out hw811 (fun h => absurd h (by omega)) Tw810_0.out
            have Kw811 := Lib.hid Kw811
            have Tw811_0 := Lib.hid Tw811_0
            have Tw811_1 := Lib.hid (fw811 _ _ (by omega) Tw810_1.out)
            clear fw811
            rw [hw811]
            clear hw811
            refine hK2.out _ _ Kw811.out (fun hHeld2 => ?_)
            clear hK2 K2
            try simp only [pu]
            refine wpAnyH_done (by kernel_rfl) ?_ _
            go_wp2_with fail
            go_meet
            exact ⟨_, _, rfl, rfl, Lib.hid ⟨(But.to_below Kw811.out (Nat.le_refl _) (fun _ _ q => q)), Tw811_1.out, Tw811_0.out⟩⟩
          
          exact AllReadyH.nil
        
        refine AllReadyH.cons (i := 14) rfl (fun K2 hK2 => ?_) ?more117
        · skip
          go_simp
          obtain ⟨w812, hw812⟩ : ∃ x, (w802.alloc (.cells (List.replicate 32 (Value.int .u8 0)).toArray 23)) = x := ⟨_, rfl⟩
          obtain ⟨g812, hg812⟩ : ∃ x, w802.heap.size = x := ⟨_, rfl⟩
          obtain ⟨Kw812, Tw812_1, qw812, fw812⟩ := st_alloc Kw802.out hw812 hg812
          simp only [List.replicate] at hw812; rw [hw812, hg812]; clear hw812 hg812
          have Kw812 := Lib.hid Kw812
          have Tw812_1 := Lib.hid Tw812_1
          obtain ⟨Tw812_0, dw812_0⟩ := fw812 _ _ Tw802_0.out
          have Tw812_0 := Lib.hid Tw812_0
          clear fw812
          refine hK2.out _ _ Kw812.out (fun hHeld2 => ?_)
          clear hK2 K2
          try simp only [pu]
          refine wpAnyH_ready (rs := [7]) (by kernel_rfl) (by simp) ?_
          refine AllReadyH.cons (i := 7) rfl (fun K2 hK2 => ?_) AllReadyH.nil
          go_simp
          go_at_call 42
          refine (HLF.out w812).mono ?_
          rintro ev w813 ⟨rfl, bw813⟩
          try go_wp2_with fail
          obtain ⟨Kw813, fw813⟩ := st_call Kw812.out bw813
          have Kw813 := Lib.hid Kw813
          have Tw813_0 := Lib.hid (fw813 _ _ Tw812_0.out)
          have Tw813_1 := Lib.hid (fw813 _ _ Tw812_1.out)
          clear bw813 fw813
          refine hK2.out _ _ Kw813.out (fun hHeld2 => ?_)
          clear hK2 K2
          try simp only [pu]
          refine wpAnyH_ready (rs := [10]) (by kernel_rfl) (by simp) ?_
          refine AllReadyH.cons (i := 10) rfl (fun K2 hK2 => ?_) AllReadyH.nil
          go_simp
          go_at_call 41
          refine (HRT.out w813 (Bw3.out.trans (But.to_below Kw813.out Bw3.out.size (fun _ _ q => q)))).mono ?_
          rintro ev w814 ⟨rfl, bw814⟩
          try go_wp2_with fail
          obtain ⟨Kw814, fw814⟩ := st_call Kw813.out bw814
          have Kw814 := Lib.hid Kw814
          have Tw814_0 := Lib.hid (fw814 _ _ Tw813_0.out)
          have Tw814_1 := Lib.hid (fw814 _ _ Tw813_1.out)
          clear bw814 fw814
          refine hK2.out _ _ Kw814.out (fun hHeld2 => ?_)
          clear hK2 K2
          try simp only [pu]
          refine tk (i := 11) (v := ?v118) rfl ?y118 ?r118
          case y118 => (intro w hSw; (try dsimp only at hSw); go_simp; (try with_reducible rfl))
          try simp only [pu]
          refine tk (i := 12) (v := ?v119) rfl ?y119 ?r119
          case y119 => (intro w hSw; (try dsimp only at hSw); go_simp; (try with_reducible rfl))
          try simp only [pu]
          refine tk (i := 13) (v := ?v120) rfl ?y120 ?r120
          case y120 => (intro w hSw; (try dsimp only at hSw); go_simp; (try with_reducible rfl))
          try simp only [pu]
          refine wpAnyH_ready (rs := [16]) (by kernel_rfl) (by simp) ?_
          refine AllReadyH.cons (i := 16) rfl (fun K2 hK2 => ?_) AllReadyH.nil
          rw [if_pos (by rfl)]
          refine wp_store_row 23 _ _ rfl g812 vo rfl rfl 23 _ Tw814_1.out Ivo.out (by rw [Zvo.out]; rfl) Ovo.out ?_
          obtain ⟨w815, hw815⟩ : ∃ x, w814.setRow g812 vo = x := ⟨_, rfl⟩
          obtain ⟨Kw815, Tw815_1, fw815⟩ := st_row Kw814.out hw815 (fun h => absurd h (by omega)) Tw814_1.out
          have Kw815 := Lib.hid Kw815
          have Tw815_1 := Lib.hid Tw815_1
          have Tw815_0 := Lib.hid (fw815 _ _ (by omega) Tw814_0.out)
          clear fw815
          rw [hw815]
          clear hw815
          refine hK2.out _ _ Kw815.out (fun hHeld2 => ?_)
          clear hK2 K2
          try simp only [pu]
          refine wpAnyH_ready (rs := [17]) (by kernel_rfl) (by simp) ?_
          refine AllReadyH.cons (i := 17) rfl (fun K2 hK2 => ?_) AllReadyH.nil
          rw [if_pos (by rfl)]
          refine wp_store_row 34 _ _ rfl g802 vz rfl rfl 34 _ Tw815_0.out Ivz.out (by rw [Zvz.out]; rfl) Ovz.out ?_
          obtain ⟨w816, hw816⟩ : ∃ x, w815.setRow g802 vz = x := ⟨_, rfl⟩
          obtain ⟨Kw816, Tw816_0, fw816⟩ := st_row Kw815.out hw816 (fun h => absurd h (by omega)) Tw815_0.out
          have Kw816 := Lib.hid Kw816
          have Tw816_0 := Lib.hid Tw816_0
          have Tw816_1 := Lib.hid (fw816 _ _ (by omega) Tw815_1.out)
          clear fw816
          rw [hw816]
          clear hw816
          refine hK2.out _ _ Kw816.out (fun hHeld2 => ?_)
          clear hK2 K2
          try simp only [pu]
          refine wpAnyH_done (by kernel_rfl) ?_ _
          go_wp2_with fail
          go_meet
          exact ⟨_, _, rfl, rfl, Lib.hid ⟨(But.to_below Kw816.out (Nat.le_refl _) (fun _ _ q => q)), Tw816_1.out, Tw816_0.out⟩⟩
        
        exact AllReadyH.nil

      exact AllReadyH.nil
    case rest =>
      obtain ⟨g7, g8, rfl, rfl, H9⟩ := hcut
      obtain ⟨w6, rfl⟩ : ∃ x, x = wc := ⟨_, rfl⟩
      have Bw6 : Hid (Below w3.heap.size w3 w6) := Lib.hid H9.out.1
      have TO : Hid (w6.heap[g7]? = some (.cells vo 23 (0, 0))) := Lib.hid H9.out.2.1
      have TZ : Hid (w6.heap[g8]? = some (.cells vz 34 (0, 0))) := Lib.hid H9.out.2.2
      have B6 : Hid (Below wv.heap.size wv w6) := Lib.hid (B1.out.trans ((Bw3.out.trans (Bw6.out.mono Bw3.out.size)).mono B1.out.size))
      have RFx : Hid (w6.heap[(w.heap.size + 1 + 1)]? = some (.cells #[.int .i64 0, .int .i64 0] 34 (0, 0))) := Lib.hid ((B6.out.block _ (by omega)).trans RF.out)
      have RV6 : Hid (w6.heap[w.heap.size]? = some (.cells v0 23 (0, 0))) := Lib.hid ((B6.out.block _ (by omega)).trans RV.out)
      have zf : w6.cell? ⟨g8, 0, none⟩ = some (.int .i64 0) := by
        have := cell_of_row w6 g8 0 _ 34 (0, 0) TZ.out
        rw [HVZ.out] at this; exact this.trans rfl
      by_cases hrp : r = p
      · have hq9 : ∀ w, (Op.equalIn 10000 23 (.agg vo) (.agg v0)).run Tryz.prog w = .ok true w := fun w => by rw [eq_hash r p HRP.out.1 HRP.out.2 vo v0 EVO.out EV0.out w]; simp [hrp]
        rw [if_pos hrp] at EVF
        obtain rfl : vf = vz := by have := EVF.out.symm.trans EVZ.out; injection this
        clear hrp
        go_wp2_with (first
          | (refine wpList_load_row_g rfl 23 _ rfl g7 rfl 23 vo (0, 0) _ TO.out Tryz.underlying23 rfl Ivo.out ?_)
          | (refine wpList_load_row_g rfl 23 _ rfl w.heap.size rfl 23 v0 (0, 0) _ RV6.out Tryz.underlying23 rfl Iv0.out ?_)
          | (refine wpList_store_row rfl 34 _ _ rfl (w.heap.size + 1 + 1) vf rfl (by rw [HVZ.out]; rfl) 34 _ RFx.out Ivf.out (by rw [Zvf.out]; rfl) Ovf.out ?_))
        refine bodyPost_ret (v := .agg vf) (results_cell_row rfl _ _ (w.heap.size + 1 + 1) 34 vf (0, 0) _ rfl (setRow_heap _ _ _ _ _ _ RFx.out) Tryz.underlying34 rfl Ivf.out) rfl ⟨rfl, below_setRow (HBv.out.trans (B6.out.mono HBv.out.size)) _ _ (by omega)⟩
      · have hq9 : ∀ w, (Op.equalIn 10000 23 (.agg vo) (.agg v0)).run Tryz.prog w = .ok false w := fun w => by rw [eq_hash r p HRP.out.1 HRP.out.2 vo v0 EVO.out EV0.out w]; simp [hrp]
        rw [if_neg hrp] at EVF
        have PLAIN : Hid (∀ w, Calls Tryz.prog 17 #[.int .i64 12] w fun ev w' => ev = .returned (.agg vf) ∧ Below w.heap.size w w') := Lib.hid (fun w => by rw [← EVF.out]; exact plain18 12 (by decide) (by decide) w)
        clear hrp
        go_wp2_with (first
          | (refine wpList_load_row_g rfl 23 _ rfl g7 rfl 23 vo (0, 0) _ TO.out Tryz.underlying23 rfl Ivo.out ?_)
          | (refine wpList_load_row_g rfl 23 _ rfl w.heap.size rfl 23 v0 (0, 0) _ RV6.out Tryz.underlying23 rfl Iv0.out ?_))
        refine (PLAIN.out w6).mono ?_
        rintro ev w9 ⟨rfl, b9⟩
        have R9 := Lib.hid ((b9.block _ (by have := B6.out.size; omega)).trans RFx.out)
        have HF9 := Lib.hid (HBv.out.trans ((B6.out.trans (b9.mono B6.out.size)).mono HBv.out.size))
        clear b9
        go_wp2_with (refine wpList_store_row rfl 34 _ _ rfl (w.heap.size + 1 + 1) vf rfl rfl 34 _ R9.out Ivf.out (by rw [Zvf.out]; rfl) Ovf.out ?_)
        refine bodyPost_ret (v := .agg vf) (results_cell_row rfl _ _ (w.heap.size + 1 + 1) 34 vf (0, 0) _ rfl (setRow_heap _ _ _ _ _ _ R9.out) Tryz.underlying34 rfl Ivf.out) rfl ⟨rfl, below_setRow HF9.out _ _ (by omega)⟩

end Go.Proofs.YtnpblpbcchminaaGreatDoor
