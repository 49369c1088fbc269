/- The walk of ShapePeaks: whatever it is given it answers true. Condition: the package-level variables read as listed. -/
import Derived.Test.YtnddjadjmgfgnaaGreatDoorPairCoord
import Derived.Test.YtnddjadjmgfgnaaGreatDoorRefPeaks
import Derived.Test.YtnddjadjmgfgnaaGreatDoorLawSame
import Derived.Test.YtnddjadjmgfgnaaGreatDoorSameLists
namespace Go.Proofs.YtnddjadjmgfgnaaGreatDoor
open Go.ChangeShapes Go.WideShapes Go.ChangeAt Go.RowKit
set_option linter.unusedVariables false
set_option maxRecDepth 100000 in
set_option maxHeartbeats 4000000 in
theorem refPeaks_good (a : Nat → Addr) (B : Nat) (sz : Int) (w : World) (hE0 : Env B a w) (h0 : 0 ≤ sz) (h2 : sz ≤ 9223372036854775808) :
    Calls Tryz.prog 3 #[.int .u64 sz] w fun ev w' => ev = .returned (.bool true) ∧ Below w.heap.size w w' := by
  have hE := Lib.hid hE0
  clear hE0
  have HLEN0 := coverL_len 128 0 sz.toNat
  have PO0 := fun (w' : World) (h : Env B a w') => peaks_ok a B sz w' h h0 h2
  have RO0 := fun w' : World => refPeaks_ok sz w' h0 h2
  obtain ⟨L, hLL⟩ : ∃ L, coverL 128 0 sz.toNat = L := ⟨_, rfl⟩
  simp only [hLL] at PO0 RO0 HLEN0
  have HLEN := Lib.hid HLEN0
  have PO := Lib.hid PO0
  have RO := Lib.hid RO0
  clear hLL HLEN0 PO0 RO0
  go_enter Tryz.func3, Tryz.ntmps3
  go_wp2_with fail
  refine (PO.out _ (by (repeat (first | exact hE.out | (refine Env.step ?_ (by assumption)) | (refine Env.alloc ?_ _))))).mono ?_
  rintro ev w1 ⟨v1, rfl, o1, b1⟩
  have hs1 := b1.size
  go_wp2_with fail
  refine (PO.out _ (by (repeat (first | exact hE.out | (refine Env.step ?_ (by assumption)) | (refine Env.alloc ?_ _))))).mono ?_
  rintro ev w2 ⟨v2, rfl, o2, b2⟩
  have hs2 := b2.size
  go_wp2_with fail
  refine (RO.out _).mono ?_
  rintro ev w3 ⟨v3, rfl, o3, b3⟩
  have hs3 := b3.size
  have HAP : Hid (v1.ownBlock = none ∨ v1.ownBlock ≠ v2.ownBlock) := Lib.hid (by
    cases hq : v1.ownBlock with
    | none => exact .inl rfl
    | some g => exact .inr (fun q => by have := (o1.lt g hq).2; have := (o2.lt g q.symm).1; omega))
  have HO1 := Lib.hid (own_mono (base' := w.heap.size) (own_below (own_below o1 b2 (Nat.le_refl _)) b3 (Nat.le_refl _)) (Nat.le_refl _))
  have HO2 := Lib.hid (own_mono (base' := w.heap.size) (own_below o2 b3 (Nat.le_refl _)) (by omega))
  have HRD := Lib.hid (rd_own o3)
  have hE3 := Lib.hid (show Env B a w3 from (by (repeat (first | exact hE.out | (refine Env.step ?_ (by assumption)) | (refine Env.alloc ?_ _)))))
  have HB := Lib.hid (show Gr w w3 from (by (repeat (first | exact Gr.refl _ | (refine Gr.step ?_ (by assumption)) | (refine Gr.alloc ?_ _) | (refine Gr.drew ?_) | (refine Gr.drewN ?_ _)))))
  clear o1 o2 o3 b1 b2 b3
  have e0 : (w3.alloc (.cells #[.int .i64 0, .int .i64 0] 29)).cell? ⟨w3.heap.size, 0, none⟩ = some (.int .i64 0) := cell_new _ _ 0 _ rfl
  have e1 : (w3.alloc (.cells #[.int .i64 0, .int .i64 0] 29)).cell? ⟨w3.heap.size, 1, none⟩ = some (.int .i64 0) := cell_new _ _ 1 _ rfl
  go_wp2_with fail
  obtain ⟨V, hV⟩ : ∃ V, w3.alloc (.cells #[.int .i64 0, .int .i64 0] 29) = V := ⟨_, rfl⟩
  rw [hV] at e0 e1 ⊢
  have hVs : w3.heap.size < V.heap.size := by rw [← hV]; simp
  have hVE : Hid (Env B a V) := Lib.hid (by rw [← hV]; exact hE3.out.alloc _)
  have hVG : Hid (Gr w V) := Lib.hid (by rw [← hV]; exact HB.out.alloc _)
  have HO1 : Hid (V.ownsRow w.heap.size 77 2 v1 (L).length (coordCells L)) := Lib.hid (by rw [← hV]; exact HO1.out.alloc _)
  have HO2 : Hid (V.ownsRow w.heap.size 77 2 v2 (L).length (coordCells L)) := Lib.hid (by rw [← hV]; exact HO2.out.alloc _)
  have HRD : Hid (Rd V v3 2 (L).length (coordCells L)) := Lib.hid (by rw [← hV]; exact HRD.out.alloc _)
  clear hV
  refine (same_coords L _ _ _ (by have := HLEN.out; omega) (rd_own HO1.out) HRD.out).mono ?_
  rintro ev w4 ⟨rfl, b4⟩
  have e0 := cell_below b4 e0 hVs
  have e1 := cell_below b4 e1 hVs
  have hs4 := b4.size
  have h4 : Hid (Gr V w4) := Lib.hid b4
  clear b4
  go_wp2_with fail
  refine (same_coords L _ _ _ (by have := HLEN.out; omega) ((rd_own HO2.out).below h4.out) (HRD.out.below h4.out)).mono ?_
  rintro ev w5 ⟨rfl, b5⟩
  have e0 := cell_below b5 e0 (by omega)
  have e1 := cell_below b5 e1 (by omega)
  have hs5 := b5.size
  have h5 : Hid (Gr V w5) := Lib.hid (h4.out.step b5)
  clear b5
  go_wp2_with fail
  refine (same_none _).mono ?_
  rintro ev w6 ⟨rfl, b6⟩
  have e0 := cell_below b6 e0 (by omega)
  have e1 := cell_below b6 e1 (by omega)
  have hs6 := b6.size
  have h5 : Hid (Gr V w6) := Lib.hid (h5.out.step b6)
  clear b6
  go_wp2_with fail
  refine (same_none _).mono ?_
  rintro ev w7 ⟨rfl, b7⟩
  have h7 : Hid (Gr w w7) := Lib.hid (hVG.out.step (h5.out.step b7))
  have h7V : Hid (Gr V w7) := Lib.hid (h5.out.step b7)
  have hs7 : w.heap.size ≤ w7.heap.size := h7.out.size
  clear b7
  have hbk := Lib.hid (bookCoord_new w7)
  have hW : Hid (Below V.heap.size V (w7.alloc (.cells #[.int .i64 0, .slice none 0 0, .slice none 0 0, .slice none 0 0, .slice none 0 0, .slice none 0 0, .slice none 0 0, .slice none 0 0, .slice none 0 0, .slice none 0 0, .slice none 0 0, .slice none 0 0, .slice none 0 0, .slice none 0 0, .slice none 0 0, .slice none 0 0, .slice none 0 0] 52))) := Lib.hid (h7V.out.alloc _)
  obtain ⟨_, A1, c1, hv1, _⟩ := rd_own HO1.out
  obtain ⟨_, A2, c2, hv2, _⟩ := rd_own HO2.out
  obtain ⟨n, hn⟩ : ∃ n, (L).length = n := ⟨_, rfl⟩
  rw [hn] at hv1 hv2
  have HN := Lib.hid hn
  have hn1 : n ≤ 1000 := by have := HLEN.out; omega
  subst hv1; subst hv2
  clear hn
  go_wp2_with fail
  obtain ⟨W, hWW⟩ : ∃ W, w7.alloc (.cells #[.int .i64 0, .slice none 0 0, .slice none 0 0, .slice none 0 0, .slice none 0 0, .slice none 0 0, .slice none 0 0, .slice none 0 0, .slice none 0 0, .slice none 0 0, .slice none 0 0, .slice none 0 0, .slice none 0 0, .slice none 0 0, .slice none 0 0, .slice none 0 0, .slice none 0 0] 52) = W := ⟨_, rfl⟩
  rw [hWW] at hbk hW ⊢
  have hKW : w7.heap.size < W.heap.size := by rw [← hWW]; simp
  clear hWW
  have HOA2 := Lib.hid (own_below HO1.out hW.out (Nat.le_refl _))
  have HOB2 := Lib.hid (own_below HO2.out hW.out (Nat.le_refl _))
  refine (book_coord w.heap.size w7.heap.size 0 0 none 0 0 [] A1 n c1 _ hbk.out (World.ownsRow_nil _ _ _ _) (by simp [Value.ownBlock]) (by omega) (by omega) (by omega) (by omega)).mono ?_
  rintro ev w8 ⟨rfl, g1, cap1, hb8, o8, col8⟩
  have HB8 := Lib.hid hb8
  have HO8 := Lib.hid o8
  have HC8 := Lib.hid col8
  have hg1 : W.heap.size ≤ g1 := by
    rcases col8.blk g1 rfl with q | q
    · cases q
    · exact q
  have hs8 := col8.size
  clear hb8 o8 col8
  go_wp2_with fail
  refine (book_coord w.heap.size w7.heap.size (0 + 1) (0 + 1) (some ⟨g1, 0, none⟩) (0 + 1) cap1 _ A2 n c2 _ HB8.out HO8.out (by simp [Value.ownBlock]; omega) (by omega) (by omega) (by omega) (by omega)).mono ?_
  rintro ev w9 ⟨rfl, g2, cap2, hb9, o9, col9⟩
  have HB9 := Lib.hid hb9
  have hK1 : ∀ v : Value, (∀ g, v.ownBlock = some g → g < V.heap.size) → some w7.heap.size ≠ v.ownBlock := fun v hv q => by have := hv _ q.symm; have := h7V.out.size; omega
  have HP := Lib.hid (pair_coord (K := w7.heap.size) (by omega) hKW HOA2.out HOB2.out (hK1 _ (fun g q => (HO1.out.lt g q).2)) (hK1 _ (fun g q => (HO2.out.lt g q).2)) HAP.out HC8.out col9 o9)
  have hs9 := col9.size
  clear hb9 o9 col9 hK1
  go_wp2_with fail
  refine (apart_coord w.heap.size w7.heap.size g2 2 cap2 _ [⟨.slice A1 n c1, (L).length, 1⟩, ⟨.slice A2 n c2, (L).length, 2⟩] _ rfl (by omega) (by omega) HB9.out HP.out.1 HP.out.2.2.2.1 HP.out.2.2.2.2.1 (by omega) HP.out.2.1 HP.out.2.2.1 ?_).mono ?_
  · intro t h ht
    match t, ht with
    | 0, ht => cases ht; exact ⟨by simp only; have := HN.out; omega, by simp only; omega, by simp only; omega⟩
    | 1, ht => cases ht; exact ⟨by simp only; have := HN.out; omega, by simp only; omega, by simp only; omega⟩
    | t + 2, ht => simp at ht
  rintro ev wA ⟨rfl, bA⟩
  have HBB : Hid (Below w.heap.size w wA) := Lib.hid ((hVG.out.trans (hW.out.mono hVG.out.size)).trans (HP.out.2.2.2.2.2.trans bA))
  clear bA
  go_wp2
  go_ret
  exact ⟨rfl, HBB.out⟩

set_option maxRecDepth 100000 in
set_option maxHeartbeats 4000000 in
theorem refPeaks_bad (a : Nat → Addr) (B : Nat) (sz : Int) (w : World) (hE0 : Env B a w) (h0 : 9223372036854775808 < sz) (h2 : sz < 18446744073709551616) :
    Calls Tryz.prog 3 #[.int .u64 sz] w fun ev w' => ev = .returned (.bool true) ∧ Below w.heap.size w w' := by
  have hE := Lib.hid hE0
  clear hE0
  obtain ⟨L, hL0⟩ : ∃ L : List (Nat × Nat), L = [] := ⟨_, rfl⟩
  have HLEN : Hid (L.length ≤ 128) := Lib.hid (by rw [hL0]; simp)
  have HL0 := Lib.hid hL0
  clear hL0
  go_enter Tryz.func3, Tryz.ntmps3
  go_wp2_with fail
  refine (peaks_fail a B sz _ (by (repeat (first | exact hE.out | (refine Env.step ?_ (by assumption)) | (refine Env.alloc ?_ _)))) h0 h2).mono ?_
  rintro ev w1 ⟨rfl, b1⟩
  have hs1 := b1.size
  go_wp2_with fail
  refine (peaks_fail a B sz _ (by (repeat (first | exact hE.out | (refine Env.step ?_ (by assumption)) | (refine Env.alloc ?_ _)))) h0 h2).mono ?_
  rintro ev w2 ⟨rfl, b2⟩
  have hs2 := b2.size
  go_wp2_with fail
  refine (refPeaks_fail sz _ h0 h2).mono ?_
  rintro ev w3 ⟨rfl, b3⟩
  have hs3 := b3.size
  have hE3 := Lib.hid (show Env B a w3 from (by (repeat (first | exact hE.out | (refine Env.step ?_ (by assumption)) | (refine Env.alloc ?_ _)))))
  have HB := Lib.hid (show Gr w w3 from (by (repeat (first | exact Gr.refl _ | (refine Gr.step ?_ (by assumption)) | (refine Gr.alloc ?_ _) | (refine Gr.drew ?_) | (refine Gr.drewN ?_ _)))))
  clear b1 b2 b3
  obtain ⟨v1, hv1⟩ : ∃ v : Value, v = .slice none 0 0 := ⟨_, rfl⟩
  have hO0 : w3.ownsRow w.heap.size 77 2 (.slice none 0 0) L.length (coordCells L) := by rw [HL0.out]; exact World.ownsRow_nil _ _ _ _
  have HAP : Hid ((Value.slice none 0 0).ownBlock = none ∨ (Value.slice none 0 0).ownBlock ≠ (Value.slice none 0 0).ownBlock) := Lib.hid (.inl rfl)
  have HO1 := Lib.hid hO0
  have HO2 := Lib.hid hO0
  have HRD := Lib.hid (rd_own hO0)
  clear hO0 hv1 v1
  have e0 : (w3.alloc (.cells #[.int .i64 5, .int .i64 (-1)] 29)).cell? ⟨w3.heap.size, 0, none⟩ = some (.int .i64 5) := cell_new _ _ 0 _ rfl
  have e1 : (w3.alloc (.cells #[.int .i64 5, .int .i64 (-1)] 29)).cell? ⟨w3.heap.size, 1, none⟩ = some (.int .i64 (-1)) := cell_new _ _ 1 _ rfl
  go_wp2_with fail
  obtain ⟨V, hV⟩ : ∃ V, w3.alloc (.cells #[.int .i64 5, .int .i64 (-1)] 29) = V := ⟨_, rfl⟩
  rw [hV] at e0 e1 ⊢
  have hVs : w3.heap.size < V.heap.size := by rw [← hV]; simp
  have hVE : Hid (Env B a V) := Lib.hid (by rw [← hV]; exact hE3.out.alloc _)
  have hVG : Hid (Gr w V) := Lib.hid (by rw [← hV]; exact HB.out.alloc _)
  have HO1 : Hid (V.ownsRow w.heap.size 77 2 (.slice none 0 0) (L).length (coordCells L)) := Lib.hid (by rw [← hV]; exact HO1.out.alloc _)
  have HO2 : Hid (V.ownsRow w.heap.size 77 2 (.slice none 0 0) (L).length (coordCells L)) := Lib.hid (by rw [← hV]; exact HO2.out.alloc _)
  have HRD : Hid (Rd V (.slice none 0 0) 2 (L).length (coordCells L)) := Lib.hid (by rw [← hV]; exact HRD.out.alloc _)
  clear hV
  refine (same_coords L _ _ _ (by have := HLEN.out; omega) (rd_own HO1.out) HRD.out).mono ?_
  rintro ev w4 ⟨rfl, b4⟩
  have e0 := cell_below b4 e0 hVs
  have e1 := cell_below b4 e1 hVs
  have hs4 := b4.size
  have h4 : Hid (Gr V w4) := Lib.hid b4
  clear b4
  go_wp2_with fail
  refine (same_coords L _ _ _ (by have := HLEN.out; omega) ((rd_own HO2.out).below h4.out) (HRD.out.below h4.out)).mono ?_
  rintro ev w5 ⟨rfl, b5⟩
  have e0 := cell_below b5 e0 (by omega)
  have e1 := cell_below b5 e1 (by omega)
  have hs5 := b5.size
  have h5 : Hid (Gr V w5) := Lib.hid (h4.out.step b5)
  clear b5
  go_wp2_with fail
  refine (same_sent a B 5 _ (hVE.out.step h5.out) (by omega) (by omega)).mono ?_
  rintro ev w6 ⟨rfl, b6⟩
  have e0 := cell_below b6 e0 (by omega)
  have e1 := cell_below b6 e1 (by omega)
  have hs6 := b6.size
  have h5 : Hid (Gr V w6) := Lib.hid (h5.out.step b6)
  clear b6
  go_wp2_with fail
  refine (same_sent a B 5 _ (hVE.out.step h5.out) (by omega) (by omega)).mono ?_
  rintro ev w7 ⟨rfl, b7⟩
  have h7 : Hid (Gr w w7) := Lib.hid (hVG.out.step (h5.out.step b7))
  have h7V : Hid (Gr V w7) := Lib.hid (h5.out.step b7)
  have hs7 : w.heap.size ≤ w7.heap.size := h7.out.size
  clear b7
  have hbk := Lib.hid (bookCoord_new w7)
  have hW : Hid (Below V.heap.size V (w7.alloc (.cells #[.int .i64 0, .slice none 0 0, .slice none 0 0, .slice none 0 0, .slice none 0 0, .slice none 0 0, .slice none 0 0, .slice none 0 0, .slice none 0 0, .slice none 0 0, .slice none 0 0, .slice none 0 0, .slice none 0 0, .slice none 0 0, .slice none 0 0, .slice none 0 0, .slice none 0 0] 52))) := Lib.hid (h7V.out.alloc _)
  have HN : Hid (L.length = 0) := Lib.hid (by rw [HL0.out]; rfl)
  go_wp2_with fail
  obtain ⟨W, hWW⟩ : ∃ W, w7.alloc (.cells #[.int .i64 0, .slice none 0 0, .slice none 0 0, .slice none 0 0, .slice none 0 0, .slice none 0 0, .slice none 0 0, .slice none 0 0, .slice none 0 0, .slice none 0 0, .slice none 0 0, .slice none 0 0, .slice none 0 0, .slice none 0 0, .slice none 0 0, .slice none 0 0, .slice none 0 0] 52) = W := ⟨_, rfl⟩
  rw [hWW] at hbk hW ⊢
  have hKW : w7.heap.size < W.heap.size := by rw [← hWW]; simp
  clear hWW
  have HOA2 := Lib.hid (own_below HO1.out hW.out (Nat.le_refl _))
  have HOB2 := Lib.hid (own_below HO2.out hW.out (Nat.le_refl _))
  refine (book_coord w.heap.size w7.heap.size 0 0 none 0 0 [] none 0 0 _ hbk.out (World.ownsRow_nil _ _ _ _) (by simp [Value.ownBlock]) (by omega) (by omega) (by omega) (by omega)).mono ?_
  rintro ev w8 ⟨rfl, g1, cap1, hb8, o8, col8⟩
  have HB8 := Lib.hid hb8
  have HO8 := Lib.hid o8
  have HC8 := Lib.hid col8
  have hg1 : W.heap.size ≤ g1 := by
    rcases col8.blk g1 rfl with q | q
    · cases q
    · exact q
  have hs8 := col8.size
  clear hb8 o8 col8
  go_wp2_with fail
  refine (book_coord w.heap.size w7.heap.size (0 + 1) (0 + 1) (some ⟨g1, 0, none⟩) (0 + 1) cap1 _ none 0 0 _ HB8.out HO8.out (by simp [Value.ownBlock]; omega) (by omega) (by omega) (by omega) (by omega)).mono ?_
  rintro ev w9 ⟨rfl, g2, cap2, hb9, o9, col9⟩
  have HB9 := Lib.hid hb9
  have hK1 : ∀ v : Value, (∀ g, v.ownBlock = some g → g < V.heap.size) → some w7.heap.size ≠ v.ownBlock := fun v hv q => by have := hv _ q.symm; have := h7V.out.size; omega
  have HP := Lib.hid (pair_coord (K := w7.heap.size) (by omega) hKW HOA2.out HOB2.out (hK1 _ (fun g q => (HO1.out.lt g q).2)) (hK1 _ (fun g q => (HO2.out.lt g q).2)) HAP.out HC8.out col9 o9)
  have hs9 := col9.size
  clear hb9 o9 col9 hK1
  go_wp2_with fail
  refine (apart_coord w.heap.size w7.heap.size g2 2 cap2 _ [⟨.slice none 0 0, (L).length, 1⟩, ⟨.slice none 0 0, (L).length, 2⟩] _ rfl (by omega) (by omega) HB9.out HP.out.1 HP.out.2.2.2.1 HP.out.2.2.2.2.1 (by omega) HP.out.2.1 HP.out.2.2.1 ?_).mono ?_
  · intro t h ht
    match t, ht with
    | 0, ht => cases ht; exact ⟨by simp only; have := HN.out; omega, by simp only; omega, by simp only; omega⟩
    | 1, ht => cases ht; exact ⟨by simp only; have := HN.out; omega, by simp only; omega, by simp only; omega⟩
    | t + 2, ht => simp at ht
  rintro ev wA ⟨rfl, bA⟩
  have HBB : Hid (Below w.heap.size w wA) := Lib.hid ((hVG.out.trans (hW.out.mono hVG.out.size)).trans (HP.out.2.2.2.2.2.trans bA))
  clear bA
  go_wp2
  go_ret
  exact ⟨rfl, HBB.out⟩

end Go.Proofs.YtnddjadjmgfgnaaGreatDoor
