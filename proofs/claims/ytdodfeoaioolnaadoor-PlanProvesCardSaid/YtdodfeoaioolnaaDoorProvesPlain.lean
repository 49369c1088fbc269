/- Plain facts: the hashes of a log's stretches, and the folded covers. No program in sight. -/
import Derived.Test.YtdodfeoaioolnaaDoorPartMem
import Derived.Test.YtdodfeoaioolnaaDoorHashAid
namespace Go.Proofs.YtdodfeoaioolnaaDoor
open Go.ChangeShapes Go.WideShapes Go.ChangeAt Go.RowKit
set_option linter.unusedVariables false
def gL (L : List (List UInt8)) (i : Int) : List UInt8 := L.getD i.toNat []
def treeI (L : List (List UInt8)) (b e : Int) : List UInt8 := if b = e then shaB [] else treeT nodeH (gL L) b e
theorem treeI_empty (L : List (List UInt8)) (b : Int) : treeI L b b = shaB [] := if_pos rfl
theorem treeI_leaf (L : List (List UInt8)) (b : Int) : treeI L b (b + 1) = gL L b := by unfold treeI; rw [if_neg (by omega), treeT_leaf _ _ _ _ (by omega)]
theorem treeI_node (L : List (List UInt8)) (b e : Int) (h : 2 ≤ e - b) (hm : e - b ≤ pow2 64) : treeI L b e = nodeH (treeI L b (b + blwI (e - b))) (treeI L (b + blwI (e - b)) e) := by
  have hb := blwI_bd (n := e - b) h
  unfold treeI
  rw [if_neg (by omega), if_neg (by omega), if_neg (by omega), treeT_node _ _ _ _ h hm]
theorem treeI_len {L : List (List UInt8)} (h : H32 L) (b e : Int) (h0 : 0 ≤ b) (h1 : b ≤ e) (h2 : e ≤ (L.length : Int)) (hm : e - b ≤ pow2 64) : (treeI L b e).length = 32 := by
  by_cases h3 : b = e
  · subst h3; rw [treeI_empty]; exact shaB_length _
  · by_cases h4 : e = b + 1
    · subst h4
      rw [treeI_leaf]
      unfold gL
      rw [List.getD_eq_getElem?_getD, List.getElem?_eq_getElem (by omega)]
      exact h _ (List.getElem_mem _)
    · rw [treeI_node L b e (by omega) hm]; exact nodeH_length _ _
theorem fold_part (L : List (List UInt8)) {b e : Int} (h : Half b e) : foldR nodeH zeroH ((coverS (b, e)).map fun c => treeI L (spanOf c).1 (spanOf c).2) = treeI L b e := by
  have := fold_cover nodeH zeroH (gL L) h
  have e1 : ((coverS (b, e)).map fun c => treeI L (spanOf c).1 (spanOf c).2) = (coverS (b, e)).map fun c => treeT nodeH (gL L) (spanOf c).1 (spanOf c).2 := by
    refine List.map_congr_left fun c _ => ?_
    have := Nat.two_pow_pos c.1
    unfold treeI
    rw [if_neg (by simp only [spanOf, Nat.add_mul, Nat.one_mul]; omega)]
  rw [e1, this]
  unfold treeI
  rw [if_neg (by have := h.2.1; omega)]
theorem foldR_len : ∀ (l : List (List UInt8)), H32 l → (foldR nodeH zeroH l).length = 32
  | [], _ => zeroH_length
  | [h], h32 => h32 h (by simp)
  | h :: x :: r, _ => nodeH_length _ _
end Go.Proofs.YtdodfeoaioolnaaDoor
