/- cartularylaw01.Book: two lists in a new book. No condition. -/
import Derived.Test.YtnddjadjmgfgnaaGreatDoorApartCoord
namespace Go.Proofs.YtnddjadjmgfgnaaGreatDoor
open Go.ChangeShapes Go.WideShapes Go.ChangeAt Go.RowKit
set_option linter.unusedVariables false
theorem own_collCoord {K base size n : Nat} {e : TypeId} {w w' : World} {v rv rv' : Value} {xs : List Value} (h : w.ownsRow base e size v n xs) (c : Coll K w w' rv rv') (hK : some K ≠ v.ownBlock) (hr : v.ownBlock = none ∨ v.ownBlock ≠ rv.ownBlock) : w'.ownsRow base e size v n xs := by
  refine ⟨h.1, ?_⟩
  rcases h.2 with q | ⟨g, cap, cur, h1, h2, h3, h4⟩
  · exact .inl q
  · have hb : v.ownBlock = some g := by rw [h1]; rfl
    refine .inr ⟨g, cap, cur, h1, h2, ?_, h4⟩
    rw [c.same g (h.lt g hb).2 (fun q => hK (by rw [hb, q])) (fun q => by
      rcases hr with z | z
      · rw [z] at hb; cases hb
      · exact z (by rw [hb, q]))]
    exact h3
/-- a book with nothing in it -/
theorem bookCoord_new (w : World) : BookCoord w.heap.size 0 (.slice none 0 0) (w.alloc (.cells #[.int .i64 0, .slice none 0 0, .slice none 0 0, .slice none 0 0, .slice none 0 0, .slice none 0 0, .slice none 0 0, .slice none 0 0, .slice none 0 0, .slice none 0 0, .slice none 0 0, .slice none 0 0, .slice none 0 0, .slice none 0 0, .slice none 0 0, .slice none 0 0, .slice none 0 0] 52)) := by
  refine ⟨cell_new _ _ 0 _ rfl, cell_new _ _ 6 _ rfl, fun i h1 h2 _ => ?_, fun i => by simp⟩
  rcases (show i = 1 ∨ i = 2 ∨ i = 3 ∨ i = 4 ∨ i = 5 ∨ i = 6 ∨ i = 7 ∨ i = 8 ∨ i = 9 ∨ i = 10 ∨ i = 11 ∨ i = 12 ∨ i = 13 ∨ i = 14 ∨ i = 15 ∨ i = 16 by omega) with rfl | rfl | rfl | rfl | rfl | rfl | rfl | rfl | rfl | rfl | rfl | rfl | rfl | rfl | rfl | rfl
  all_goals exact cell_new _ _ _ _ rfl
theorem pair_coord {base K n : Nat} {va vb : Value} {W w1 w2 : World} {g1 cap1 g2 cap2 : Nat} {xa xb : List Value} (hbK : base ≤ K) (hKW : K < W.heap.size) (oa : W.ownsRow base 77 2 va n xa) (ob : W.ownsRow base 77 2 vb n xb)
    (ha : some K ≠ va.ownBlock) (hb : some K ≠ vb.ownBlock) (hap : va.ownBlock = none ∨ va.ownBlock ≠ vb.ownBlock)
    (c1 : Coll K W w1 (.slice none 0 0) (.slice (some ⟨g1, 0, none⟩) (0 + 1) cap1)) (c2 : Coll K w1 w2 (.slice (some ⟨g1, 0, none⟩) (0 + 1) cap1) (.slice (some ⟨g2, 0, none⟩) (0 + 1 + 1) cap2))
    (o2 : w2.ownsRow base 93 3 (.slice (some ⟨g2, 0, none⟩) (0 + 1 + 1) cap2) (0 + 1 + 1) (([] ++ [va, .slice none 0 0, .int .i64 (0 + 1)]) ++ [vb, .slice none 0 0, .int .i64 (0 + 1 + 1)])) :
    RowAt g2 [⟨va, n, 1⟩, ⟨vb, n, 2⟩] (fun _ => .slice none 0 0) w2 ∧ Away K g2 [⟨va, n, 1⟩, ⟨vb, n, 2⟩] ∧ (∀ (t : Nat) (h : Hold), [(⟨va, n, 1⟩ : Hold), ⟨vb, n, 2⟩][t]? = some h → ∃ ys, w2.ownsRow base 77 2 h.v h.n ys) ∧ g2 < w2.heap.size ∧ base ≤ g2 ∧ Below base W w2 := by
  have g1lo : W.heap.size ≤ g1 := by
    rcases c1.blk g1 rfl with q | q
    · cases q
    · exact q
  have g2lo : W.heap.size ≤ g2 := by
    rcases c2.blk g2 rfl with q | q
    · have q : g1 = g2 := by simpa [Value.ownBlock] using q
      omega
    · have := c1.size; omega
  have hlta : ∀ g, va.ownBlock = some g → g < W.heap.size := fun g q => (oa.lt g q).2
  have hltb : ∀ g, vb.ownBlock = some g → g < W.heap.size := fun g q => (ob.lt g q).2
  have far : ∀ (v : Value), (∀ g, v.ownBlock = some g → g < W.heap.size) → ∀ g', W.heap.size ≤ g' → v.ownBlock = none ∨ v.ownBlock ≠ some g' := fun v hv g' hg => .inr (fun q => by have := hv g' q; omega)
  have oa1 := own_collCoord oa c1 ha (by cases va.ownBlock <;> simp [Value.ownBlock])
  have ob1 := own_collCoord ob c1 hb (by cases vb.ownBlock <;> simp [Value.ownBlock])
  have oa2 := own_collCoord oa1 c2 ha (far va hlta g1 g1lo)
  have ob2 := own_collCoord ob1 c2 hb (far vb hltb g1 g1lo)
  have hc := o2.cells (g := g2) rfl
  refine ⟨⟨fun i h hi => ?_, fun i => o2.frozenAt i⟩, ⟨by omega, fun i h hi => ?_, fun i j h g hi hj hne => ?_⟩, fun t h ht => ?_, (o2.lt g2 rfl).2, (o2.lt g2 rfl).1, (c1.trans c2).to_below hbK hKW rfl⟩
  · match i, hi with
    | 0, hi => cases hi; exact ⟨by have := hc 0 va rfl; rwa [addr_add] at this, by have := hc 1 (.slice none 0 0) rfl; rwa [addr_add] at this, by have := hc 2 (.int .i64 (0 + 1)) rfl; rwa [addr_add] at this⟩
    | 1, hi => cases hi; exact ⟨by have := hc 3 vb rfl; rwa [addr_add] at this, by have := hc 4 (.slice none 0 0) rfl; rwa [addr_add] at this, by have := hc 5 (.int .i64 (0 + 1 + 1)) rfl; rwa [addr_add] at this⟩
    | i + 2, hi => simp at hi
  · match i, hi with
    | 0, hi => cases hi; exact ⟨fun q => ha q.symm, fun q => by have := hlta g2 q; omega⟩
    | 1, hi => cases hi; exact ⟨fun q => hb q.symm, fun q => by have := hltb g2 q; omega⟩
    | i + 2, hi => simp at hi
  · have sym : vb.ownBlock = none ∨ vb.ownBlock ≠ va.ownBlock := by
      rcases hap with q | q
      · rw [q]; cases vb.ownBlock <;> simp
      · exact .inr (fun z => q z.symm)
    match i, j, hi, hj with
    | 0, 0, _, _ => exact absurd rfl hne
    | 0, 1, hi, hj => cases hi; cases hj; exact hap
    | 1, 0, hi, hj => cases hi; cases hj; exact sym
    | 1, 1, _, _ => exact absurd rfl hne
    | i + 2, _, hi, _ => simp at hi
    | _, j + 2, _, hj => simp at hj
  · match t, ht with
    | 0, ht => cases ht; exact ⟨_, oa2⟩
    | 1, ht => cases ht; exact ⟨_, ob2⟩
    | t + 2, ht => simp at ht
end Go.Proofs.YtnddjadjmgfgnaaGreatDoor
