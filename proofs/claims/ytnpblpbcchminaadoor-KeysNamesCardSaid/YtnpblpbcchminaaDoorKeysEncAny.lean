/- keys.Encode where the signature is none; SameSigned of two alike. Condition: the table reads as listed. -/
import Derived.Test.YtnpblpbcchminaaDoorMem
import Derived.Test.YtnpblpbcchminaaDoorKeysMay
import Derived.Test.YtnpblpbcchminaaDoorKeysEnc
namespace Go.Proofs.YtnpblpbcchminaaDoor
open Go.ChangeShapes Go.WideShapes Go.ChangeAt Go.RowKit
set_option linter.unusedVariables false
set_option maxRecDepth 100000 in
set_option maxHeartbeats 8000000 in
theorem enc_bad (a : Nat → Addr) (B : Nat) (x : Int) (m n : Nat) (A A2 : Option Addr) (c c2 : Nat) (w : World) (hE : Env B a w) (hx : ¬ (0 ≤ x ∧ x < 64 ∧ m = 67 ∧ n ≤ 6)) :
    Calls Tryd.prog 16 #[.agg #[.int .i64 x, .slice A m c, .slice A2 n c2]] w fun ev w' => ev = .returned (.tuple #[.string ⟨#[]⟩, errV a 2]) ∧ Below w.heap.size w w' := by
  obtain ⟨sv, hsv9⟩ : ∃ y : Array Value, #[.int .i64 x, .slice A m c, .slice A2 n c2] = y := ⟨_, rfl⟩
  have Zsv : Hid (sv.size = 3) := Lib.hid (by rw [← hsv9]; rfl)
  have Isv : Hid ((Tryd.prog.info? 35).map (·.size) = some sv.size) := Lib.hid (by rw [Zsv.out]; kernel_rfl)
  obtain ⟨wv, hwv⟩ : ∃ y9 : World, (w.alloc (.cells sv 35)) = y9 := ⟨_, rfl⟩
  have HBv : Hid (Below w.heap.size w wv) := Lib.hid (by rw [← hwv]; exact ((Below.refl _ _).alloc (by simp <;> omega) _))
  have HSV : Hid (wv.heap.size = w.heap.size + 1) := Lib.hid (by rw [← hwv]; simp)
  have RS : Hid (wv.heap[w.heap.size]? = some (.cells sv 35 (0, 0))) := Lib.hid (by rw [← hwv]; exact heap_at _ _ _ (by simp <;> omega))
  have HWV := Lib.hid hwv
  have hsvv := HSV.out
  have HMAY : Hid (∀ w', Calls Tryd.prog 27 #[.agg sv] w' fun ev w2 => ev = .returned (.bool false) ∧ Below w'.heap.size w' w2) := Lib.hid (fun w' => by
    have := may_any x m n A A2 c c2 w'
    rw [hsv9, show decide (0 ≤ x ∧ x < 64 ∧ m = 67 ∧ n ≤ 6) = false from decide_eq_false hx] at this
    exact this)
  have HE := Lib.hid (hE.step HBv.out)
  rw [hsv9]
  clear hwv hsv9 hE hx
  go_enter Tryd.func16, Tryd.ntmps16
  go_upto_region 1 with fail
  rw [HWV.out]
  go_wp2_with (refine wpList_load_row rfl 35 _ rfl w.heap.size rfl 35 sv (0, 0) _ RS.out Tryd.underlying35 rfl Isv.out ?_)
  refine (HMAY.out wv).mono ?_
  rintro ev w1 ⟨rfl, b1⟩
  have BF := Lib.hid (HBv.out.trans (b1.mono HBv.out.size))
  have KEI : Hid (∀ w', But (fun _ => False) w1 w' → w'.cell? ⟨0, 0, none⟩ = some (errV a 2)) := Lib.hid (fun w' hw => hw.cell ((HE.out.step b1).laid.e2) (fun e => e))
  unfold errV at KEI
  clear b1
  go_upto_region 2 with fail
  refine wp_region_held_drew (S := But (fun _ => False) w1) (by kernel_rfl) (But.refl _ _).drew (fun hHeld => ?_)
  refine tk (i := 0) (v := ?v1) rfl ?y1 ?r1
  case y1 => (intro w hSw; (try dsimp only at hSw); have q9 := KEI.out w hSw; go_simp; (try with_reducible rfl))
  try simp only [pu]
  refine tk (i := 1) (v := ?v2) rfl ?y2 ?r2
  case y2 => (intro w hSw; (try dsimp only at hSw); go_simp; (try with_reducible rfl))
  try simp only [pu]
  refine tk (i := 2) (v := ?v3) rfl ?y3 ?r3
  case y3 => (intro w hSw; (try dsimp only at hSw); go_simp; (try with_reducible rfl))
  try simp only [pu]
  refine wpAnyH_done (by kernel_rfl) ?_ _
  have KE := Lib.hid ((But.refl (fun _ => False) w1).drew)
  go_wp2
  refine bodyPost_ret (v := .tuple #[.string ⟨#[]⟩, errV a 2]) (by simp [results, Tryd.results16, go_sem, errV]) rfl ⟨rfl, BF.out.trans ((But.to_below KE.out (Nat.le_refl _) (fun _ _ q => q)).mono BF.out.size)⟩
set_option maxRecDepth 100000 in
set_option maxHeartbeats 8000000 in
theorem same_yes (x : Int) (m n : Nat) (A A2 B1 B2 : Option Addr) (c c2 d1 d2 : Nat) (C P : List (List UInt8)) (w : World) (hm : m ≤ 1048576) (hn : n ≤ 1048576) (h1 : HIn w A m c C) (h2 : HIn w A2 n c2 P) (g1 : HIn w B1 m d1 C) (g2 : HIn w B2 n d2 P) :
    Calls Tryd.prog 11 #[.agg #[.int .i64 x, .slice A m c, .slice A2 n c2], .agg #[.int .i64 x, .slice B1 m d1, .slice B2 n d2]] w fun ev w' => ev = .returned (.bool true) ∧ Below w.heap.size w w' := by
  obtain ⟨wv, hwv⟩ : ∃ y9 : World, ((w.alloc (.cells #[.int .i64 x, .slice A m c, .slice A2 n c2] 35)).alloc (.cells #[.int .i64 x, .slice B1 m d1, .slice B2 n d2] 35)) = y9 := ⟨_, rfl⟩
  have HBv : Hid (Below w.heap.size w wv) := Lib.hid (by rw [← hwv]; exact (((Below.refl _ _).alloc (by simp <;> omega) _).alloc (by simp <;> omega) _))
  have HSV : Hid (wv.heap.size = w.heap.size + 2) := Lib.hid (by rw [← hwv]; simp)
  have RA : Hid (wv.heap[w.heap.size]? = some (.cells #[.int .i64 x, .slice A m c, .slice A2 n c2] 35 (0, 0))) := Lib.hid (by rw [← hwv]; exact (((Below.refl (w.alloc (.cells #[.int .i64 x, .slice A m c, .slice A2 n c2] 35)).heap.size (w.alloc (.cells #[.int .i64 x, .slice A m c, .slice A2 n c2] 35))).alloc (Nat.le_refl _) _).block w.heap.size (by simp <;> omega)).trans (heap_at _ _ _ (by simp <;> omega)))
  have RB : Hid (wv.heap[(w.heap.size + 1)]? = some (.cells #[.int .i64 x, .slice B1 m d1, .slice B2 n d2] 35 (0, 0))) := Lib.hid (by rw [← hwv]; exact heap_at _ _ _ (by simp <;> omega))
  have HWV := Lib.hid hwv
  have hsv := HSV.out
  have HSH1 : Hid (∀ w', Below w.heap.size w w' → Calls Tryd.prog 26 #[.slice A m c, .slice B1 m d1] w' fun ev w2 => ev = .returned (.bool true) ∧ Below w'.heap.size w' w2) := Lib.hid (fun w' hb => by
    have := same_hashes C C A B1 m m c d1 w' (by omega) (h1.below hb) (g1.below hb)
    rw [show decide (C = C) = true by simp] at this; exact this)
  have HSH2 : Hid (∀ w', Below w.heap.size w w' → Calls Tryd.prog 26 #[.slice A2 n c2, .slice B2 n d2] w' fun ev w2 => ev = .returned (.bool true) ∧ Below w'.heap.size w' w2) := Lib.hid (fun w' hb => by
    have := same_hashes P P A2 B2 n n c2 d2 w' (by omega) (h2.below hb) (g2.below hb)
    rw [show decide (P = P) = true by simp] at this; exact this)
  have a0 : wv.cell? ⟨w.heap.size, 0, none⟩ = some (.int .i64 x) := (cell_of_row wv _ 0 _ 35 (0, 0) RA.out).trans rfl
  have a1 : wv.cell? ⟨w.heap.size, 1, none⟩ = some (.slice A m c) := (cell_of_row wv _ 1 _ 35 (0, 0) RA.out).trans rfl
  have b0 : wv.cell? ⟨w.heap.size + 1, 0, none⟩ = some (.int .i64 x) := (cell_of_row wv _ 0 _ 35 (0, 0) RB.out).trans rfl
  have b1 : wv.cell? ⟨w.heap.size + 1, 1, none⟩ = some (.slice B1 m d1) := (cell_of_row wv _ 1 _ 35 (0, 0) RB.out).trans rfl
  have hxx : (x == x) = true := by simp
  clear h1 h2 g1 g2 hwv
  go_enter Tryd.func11, Tryd.ntmps11
  go_upto_region 1 with fail
  rw [HWV.out]
  go_wp2_with fail
  refine (HSH1.out wv HBv.out).mono ?_
  rintro ev w1 ⟨rfl, b⟩
  have B1' := Lib.hid (HBv.out.trans (b.mono HBv.out.size))
  have c0 : w1.cell? ⟨w.heap.size, 2, none⟩ = some (.slice A2 n c2) := (cell_of_row w1 _ 2 _ 35 (0, 0) ((b.block _ (by omega)).trans RA.out)).trans rfl
  have c1 : w1.cell? ⟨w.heap.size + 1, 2, none⟩ = some (.slice B2 n d2) := (cell_of_row w1 _ 2 _ 35 (0, 0) ((b.block _ (by omega)).trans RB.out)).trans rfl
  clear b
  go_wp2_with fail
  refine (HSH2.out w1 B1'.out).mono ?_
  rintro ev w2 ⟨rfl, b⟩
  have B2' := Lib.hid (B1'.out.trans (b.mono B1'.out.size))
  clear b
  go_wp2_with fail
  go_ret
  exact ⟨rfl, B2'.out⟩
end Go.Proofs.YtnpblpbcchminaaDoor
