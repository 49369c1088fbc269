/- Plain facts: the stretches of a path, a proof, a batch proof lie in the log. No program in sight. -/
import Derived.Test.YtaekabhcgdjhfaaDoorShapeProof
import Derived.Test.YtaekabhcgdjhfaaDoorShapeBatch
import Derived.Test.YtaekabhcgdjhfaaDoorNotePlain
namespace Go.Proofs.YtaekabhcgdjhfaaDoor
open Go.ChangeShapes Go.WideShapes Go.ChangeAt Go.RowKit
set_option linter.unusedVariables false
/-- stretches of a log of that size, none of them empty -/
def SpansIn (l : List (Int × Int)) (sz : Int) : Prop := ∀ p ∈ l, 0 ≤ p.1 ∧ p.1 < p.2 ∧ p.2 ≤ sz
theorem proofL_in : ∀ (f : Nat) (old b e : Int) (s : Int × Int), b < old → old ≤ e → e - b ≤ pow2 f → s ∈ proofL f old b e → b ≤ s.1 ∧ s.1 < s.2 ∧ s.2 ≤ e
  | 0, old, b, e, s, h1, h2, hp, h => by
      rw [pow2_zero] at hp
      rw [proofL] at h
      rw [if_pos (by omega)] at h
      by_cases q : 0 < b
      · rw [if_pos q] at h; simp at h; subst h; simp only; omega
      · rw [if_neg q] at h; simp at h
  | f + 1, old, b, e, s, h1, h2, hp, h => by
      rw [proofL] at h
      by_cases he : e = old
      · rw [if_pos he] at h
        by_cases q : 0 < b
        · rw [if_pos q] at h; simp at h; subst h; simp only; omega
        · rw [if_neg q] at h; simp at h
      · have hb := blwI_bd (n := e - b) (by omega)
        have hk := blwI_le_pow (n := e - b) (f := f) (by omega) hp
        rw [if_neg he] at h
        by_cases hx : old ≤ b + blwI (e - b)
        · rw [if_pos hx, List.mem_append] at h
          rcases h with h | h
          · have := proofL_in f old b _ s h1 hx (by omega) h; omega
          · simp at h; subst h; simp only; omega
        · rw [if_neg hx, List.mem_append] at h
          rcases h with h | h
          · have := proofL_in f old _ e s (by omega) h2 (by omega) h; omega
          · simp at h; subst h; simp only; omega
theorem batchL_span : ∀ (f : Nat) (x y b e : Int) (s : Int × Int), b < e → e - b ≤ pow2 f → s ∈ batchL f x y b e → b ≤ s.1 ∧ s.1 < s.2 ∧ s.2 ≤ e
  | 0, x, y, b, e, s, h1, hp, h => by
      by_cases ho : e ≤ x ∨ y ≤ b
      · rw [batchL_out ho] at h; simp at h; subst h; simp only; omega
      · rw [batchL, if_neg ho] at h; simp at h
  | f + 1, x, y, b, e, s, h1, hp, h => by
      by_cases ho : e ≤ x ∨ y ≤ b
      · rw [batchL_out ho] at h; simp at h; subst h; simp only; omega
      · by_cases hi : x ≤ b ∧ e ≤ y
        · rw [batchL_in ho hi] at h; simp at h
        · have hb := blwI_bd (n := e - b) (by omega)
          have hk := blwI_le_pow (n := e - b) (f := f) (by omega) hp
          rw [batchL_half ho hi, List.mem_append] at h
          rcases h with h | h
          · have := batchL_span f x y b _ s (by omega) (by omega) h; omega
          · have := batchL_span f x y _ e s (by omega) (by omega) h; omega
theorem path_spansIn (ix sz : Int) (h0 : 0 ≤ ix) (h1 : ix < sz) (h2 : sz ≤ 9223372036854775808) : SpansIn (pathL 64 ix 0 sz) sz := fun p hp => by
  have := pathL_in 64 ix 0 sz p h0 h1 (by rw [pow2_64]; omega) hp; omega
theorem proof_spansIn (ix sz : Int) (h0 : 0 < ix) (h1 : ix ≤ sz) (h2 : sz ≤ 9223372036854775808) : SpansIn (proofL 64 ix 0 sz) sz := fun p hp => by
  have := proofL_in 64 ix 0 sz p h0 h1 (by rw [pow2_64]; omega) hp; omega
theorem batch_spansIn (x y sz : Int) (h0 : 0 ≤ x) (h1 : x < y) (h3 : y ≤ sz) (h2 : sz ≤ 9223372036854775808) : SpansIn (batchL 64 x y 0 sz) sz := fun p hp => by
  have := batchL_span 64 x y 0 sz p (by omega) (by rw [pow2_64]; omega) hp; omega
end Go.Proofs.YtaekabhcgdjhfaaDoor
