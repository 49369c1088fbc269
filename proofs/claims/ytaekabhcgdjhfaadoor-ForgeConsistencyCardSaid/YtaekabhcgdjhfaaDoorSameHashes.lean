/- SameHashes: element by element. No condition. -/
import Derived.Test.YtaekabhcgdjhfaaDoorHashAid
import Derived.StillTailTactics
namespace Go.Proofs.YtaekabhcgdjhfaaDoor
open Go.ChangeShapes Go.WideShapes Go.ChangeAt Go.RowKit
set_option linter.unusedVariables false
/-- the row of one hash of a list, wherever only the draws turned -/
theorem HIn.row {w : World} {A : Option Addr} {n cap : Nat} {l : List (List UInt8)} (h : HIn w A n cap l) {k : Nat} {x : List UInt8} (hk : l[k]? = some x) : ∃ g o, A = some ⟨g, o, none⟩ ∧ g < w.heap.size ∧ w.rangeAt g (o + k * 32) (bytesV x) ∧ x.length = 32 := by
  obtain ⟨h1, h2, h3, h4, h5⟩ := h
  rcases h5 with rfl | ⟨g, o, rfl, h7⟩
  · simp at hk
  · have hr : w.rangeAt g (o + k * 32) (bytesV x) := fun j v hj => by rw [Nat.add_assoc]; exact h7 _ v (hashCells_at h1 hk hj)
    exact ⟨g, o, rfl, rangeAt_lt hr (by intro q; have := congrArg List.length q; rw [bytesV_length, h1.at hk] at this; simp at this), hr, h1.at hk⟩
theorem list_beq_step {α : Type} [BEq α] [LawfulBEq α] {l m : List α} (h : l.length = m.length) (hk : ∀ i, i < l.length → l[i]? = m[i]?) : l = m := by
  refine List.ext_getElem? fun i => ?_
  by_cases hi : i < l.length
  · exact hk i hi
  · rw [List.getElem?_eq_none (by omega), List.getElem?_eq_none (by omega)]
end Go.Proofs.YtaekabhcgdjhfaaDoor
