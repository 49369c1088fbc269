/- cartularylaw07.spans: twice the same list as the reference's, in memory of their own: true. Condition: the package-level variables read as listed. -/
import Derived.Test.YtnddjadjmgfgnaaGreatDoorPairSpan
import Derived.Test.YtnddjadjmgfgnaaGreatDoorLawSame
import Derived.Test.YtnddjadjmgfgnaaGreatDoorSameLists
namespace Go.Proofs.YtnddjadjmgfgnaaGreatDoor
open Go.ChangeShapes Go.WideShapes Go.ChangeAt Go.RowKit
set_option linter.unusedVariables false
set_option maxRecDepth 100000 in
set_option maxHeartbeats 4000000 in
theorem spans_any (a : Nat → Addr) (B base : Nat) (l : List (Int × Int)) (er : Value) (c p : Int) (va vb vw : Value) (w : World) (hE : Env B a w) (hl : l.length ≤ 1000) (hbase : base ≤ w.heap.size)
    (hsame : ∀ w', Env B a w' → Calls Tryz.prog 10 #[er, .agg #[.int .i64 c, .int .i64 p]] w' fun ev w'' => ev = .returned (.bool true) ∧ Below w'.heap.size w' w'')
    (oa : w.ownsRow base 70 2 va l.length (spanCells l)) (ob : w.ownsRow base 70 2 vb l.length (spanCells l)) (hr : Rd w vw 2 l.length (spanCells l)) (hap : va.ownBlock = none ∨ va.ownBlock ≠ vb.ownBlock) :
    Calls Tryz.prog 15 #[va, vb, er, er, vw, .agg #[.int .i64 c, .int .i64 p]] w fun ev w' => ev = .returned (.bool true) ∧ Below base w w' := by
  have HE := Lib.hid hE
  have HS := Lib.hid hsame
  have HR := Lib.hid hr
  have HOA := Lib.hid oa
  have HOB := Lib.hid ob
  have HAP := Lib.hid hap
  obtain ⟨_, A1, c1, hv1, _⟩ := rd_own oa
  obtain ⟨_, A2, c2, hv2, _⟩ := rd_own ob
  obtain ⟨n, hn⟩ : ∃ n, l.length = n := ⟨_, rfl⟩
  rw [hn] at hv1 hv2 hl
  have HN := Lib.hid hn
  subst hv1; subst hv2
  clear hE hsame hr oa ob hap hn
  go_enter Tryz.func15, Tryz.ntmps15
  go_wp2_with fail
  refine (same_spans l _ _ _ (by rw [HN.out]; omega) ((rd_own HOA.out).alloc _) (HR.out.alloc _)).mono ?_
  rintro ev w1 ⟨rfl, b1⟩
  have e0 := cell_below b1 (cell_new #[.int .i64 c, .int .i64 p] 29 0 (.int .i64 c) rfl) (by simp)
  have e1 := cell_below b1 (cell_new #[.int .i64 c, .int .i64 p] 29 1 (.int .i64 p) rfl) (by simp)
  have hs1 := b1.size
  simp only [World.size_alloc] at hs1
  have h1 : Hid (Gr w w1) := Lib.hid (((Gr.refl w).alloc _).step b1)
  clear b1
  go_wp2_with fail
  refine (same_spans l _ _ _ (by rw [HN.out]; omega) ((rd_own HOB.out).below h1.out) (HR.out.below h1.out)).mono ?_
  rintro ev w2 ⟨rfl, b2⟩
  have e0 := cell_below b2 e0 (by omega)
  have e1 := cell_below b2 e1 (by omega)
  have h2 : Hid (Gr w w2) := Lib.hid (h1.out.step b2)
  have hs2 := b2.size
  clear b2
  go_wp2_with fail
  refine (HS.out _ (HE.out.step h2.out)).mono ?_
  rintro ev w3 ⟨rfl, b3⟩
  have e0 := cell_below b3 e0 (by omega)
  have e1 := cell_below b3 e1 (by omega)
  have h3 : Hid (Gr w w3) := Lib.hid (h2.out.step b3)
  have hs3 := b3.size
  clear b3
  go_wp2_with fail
  refine (HS.out _ (HE.out.step h3.out)).mono ?_
  rintro ev w4 ⟨rfl, b4⟩
  have h4 : Hid (Gr w w4) := Lib.hid (h3.out.step b4)
  have hs4 : w.heap.size ≤ w4.heap.size := h4.out.size
  clear b4
  have hbk := Lib.hid (bookSpan_new w4)
  have hW : Hid (Below w.heap.size w (w4.alloc (.cells #[.int .i64 0, .slice none 0 0, .slice none 0 0, .slice none 0 0, .slice none 0 0, .slice none 0 0, .slice none 0 0, .slice none 0 0, .slice none 0 0, .slice none 0 0, .slice none 0 0, .slice none 0 0, .slice none 0 0, .slice none 0 0, .slice none 0 0, .slice none 0 0, .slice none 0 0] 52))) := Lib.hid (h4.out.alloc _)
  go_wp2_with fail
  obtain ⟨W, hWW⟩ : ∃ W, w4.alloc (.cells #[.int .i64 0, .slice none 0 0, .slice none 0 0, .slice none 0 0, .slice none 0 0, .slice none 0 0, .slice none 0 0, .slice none 0 0, .slice none 0 0, .slice none 0 0, .slice none 0 0, .slice none 0 0, .slice none 0 0, .slice none 0 0, .slice none 0 0, .slice none 0 0, .slice none 0 0] 52) = W := ⟨_, rfl⟩
  rw [hWW] at hbk hW ⊢
  have hKW : w4.heap.size < W.heap.size := by rw [← hWW]; simp
  clear hWW
  have oA := own_below HOA.out hW.out (Nat.le_refl _)
  have oB := own_below HOB.out hW.out (Nat.le_refl _)
  have HOA2 := Lib.hid oA
  have HOB2 := Lib.hid oB
  clear oA oB
  refine (book_span base w4.heap.size 0 0 none 0 0 [] A1 n c1 _ hbk.out (World.ownsRow_nil _ _ _ _) (by simp [Value.ownBlock]) (by omega) (by omega) (by omega) (by omega)).mono ?_
  rintro ev w5 ⟨rfl, g1, cap1, hb5, o5, col5⟩
  have HB5 := Lib.hid hb5
  have HO5 := Lib.hid o5
  have HC5 := Lib.hid col5
  have hg1 : W.heap.size ≤ g1 := by
    rcases col5.blk g1 rfl with q | q
    · cases q
    · exact q
  have hs5 := col5.size
  clear hb5 o5 col5
  go_wp2_with fail
  refine (book_span base w4.heap.size (0 + 1) (0 + 1) (some ⟨g1, 0, none⟩) (0 + 1) cap1 _ A2 n c2 _ HB5.out HO5.out (by simp [Value.ownBlock]; omega) (by omega) (by omega) (by omega) (by omega)).mono ?_
  rintro ev w6 ⟨rfl, g2, cap2, hb6, o6, col6⟩
  have HB6 := Lib.hid hb6
  have hK1 : ∀ v : Value, (∀ g, v.ownBlock = some g → g < w.heap.size) → some w4.heap.size ≠ v.ownBlock := fun v hv q => by have := hv _ q.symm; omega
  have HP := Lib.hid (pair_span (K := w4.heap.size) (by omega) hKW HOA2.out HOB2.out (hK1 _ (fun g q => (HOA.out.lt g q).2)) (hK1 _ (fun g q => (HOB.out.lt g q).2)) HAP.out HC5.out col6 o6)
  have hs6 := col6.size
  clear hb6 o6 col6 hK1
  go_wp2_with fail
  refine (apart_span base w4.heap.size g2 2 cap2 _ [⟨.slice A1 n c1, l.length, 1⟩, ⟨.slice A2 n c2, l.length, 2⟩] _ rfl (by omega) (by omega) HB6.out HP.out.1 HP.out.2.2.2.1 HP.out.2.2.2.2.1 (by omega) HP.out.2.1 HP.out.2.2.1 ?_).mono ?_
  · intro t h ht
    match t, ht with
    | 0, ht => cases ht; exact ⟨by simp only; have := HN.out; omega, by simp only; omega, by simp only; omega⟩
    | 1, ht => cases ht; exact ⟨by simp only; have := HN.out; omega, by simp only; omega, by simp only; omega⟩
    | t + 2, ht => simp at ht
  rintro ev w7 ⟨rfl, b7⟩
  have HBB : Hid (Below base w w7) := Lib.hid ((hW.out.mono hbase).trans (HP.out.2.2.2.2.2.trans b7))
  clear b7
  go_wp2
  go_ret
  exact ⟨rfl, HBB.out⟩
end Go.Proofs.YtnddjadjmgfgnaaGreatDoor
