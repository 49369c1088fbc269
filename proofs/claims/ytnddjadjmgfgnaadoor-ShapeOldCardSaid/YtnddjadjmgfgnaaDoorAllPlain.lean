/- The stretches of a path: how many, and that they are those of the batch proof of that leaf alone. No program in sight. -/
import Derived.Test.YtnddjadjmgfgnaaDoorRisingPlain
namespace Go.Proofs.YtnddjadjmgfgnaaDoor
open Go.ChangeShapes Go.WideShapes Go.ChangeAt Go.RowKit
set_option linter.unusedVariables false
theorem blen_mono {a b : Nat} (h : a ≤ b) : blen a ≤ blen b := blen_le (Nat.lt_of_le_of_lt h (blen_hi b))
theorem lgI_mono {a b : Int} (h : a ≤ b) : lgI a ≤ lgI b := by
  have := blen_mono (show a.toNat - 1 ≤ b.toNat - 1 by omega)
  unfold lgI lg; omega
theorem pathL_perm : ∀ (f : Nat) (ix b e : Int), b ≤ ix → ix < e → e - b ≤ pow2 f → (pathL f ix b e).Perm (batchL f ix (ix + 1) b e)
  | 0, ix, b, e, h0, h1, hp => by
      rw [pow2_zero] at hp
      rw [batchL_in (by omega) (by omega)]; exact List.Perm.refl _
  | f + 1, ix, b, e, h0, h1, hp => by
      by_cases h2 : e - b < 2
      · rw [batchL_in (by omega) (by omega), pathL, if_pos h2]
      · have hk := blwI_bd (n := e - b) (by omega)
        have hkf := blwI_le_pow (n := e - b) (f := f) (by omega) hp
        rw [batchL_half (by omega) (by omega), pathL, if_neg h2]
        by_cases h3 : ix < b + blwI (e - b)
        · rw [if_pos h3, batchL_out (b := b + blwI (e - b)) (.inr (by omega))]
          exact (pathL_perm f ix b (b + blwI (e - b)) h0 h3 (by omega)).append_right _
        · rw [if_neg h3, batchL_out (b := b) (e := b + blwI (e - b)) (.inl (by omega))]
          exact ((pathL_perm f ix (b + blwI (e - b)) e (by omega) h1 (by omega)).append_right _).trans List.perm_append_comm
theorem pathL_log : ∀ (f : Nat) (ix b e : Int), b < e → e - b ≤ pow2 f → ((pathL f ix b e).length : Int) ≤ lgI (e - b)
  | 0, ix, b, e, h, hp => by
      have : (0 : Int) ≤ lgI (e - b) := by unfold lgI; omega
      simpa [pathL] using this
  | f + 1, ix, b, e, h, hp => by
      have h0 : (0 : Int) ≤ lgI (e - b) := by unfold lgI; omega
      rw [pathL]
      by_cases h2 : e - b < 2
      · rw [if_pos h2]; simpa using h0
      · have hk := blwI_bd (n := e - b) (by omega)
        have hkf := blwI_le_pow (n := e - b) (f := f) (by omega) hp
        have hl := lgI_blwI (n := e - b) (by omega)
        rw [if_neg h2]
        by_cases h3 : ix < b + blwI (e - b)
        · have ih := pathL_log f ix b (b + blwI (e - b)) (by omega) (by omega)
          rw [show b + blwI (e - b) - b = blwI (e - b) by omega] at ih
          rw [if_pos h3, List.length_append]; simp; omega
        · have ih := pathL_log f ix (b + blwI (e - b)) e (by omega) (by omega)
          have hm := lgI_mono (show e - (b + blwI (e - b)) ≤ blwI (e - b) by omega)
          rw [if_neg h3, List.length_append]; simp; omega
theorem pathL_tiles {ix sz : Int} (h0 : 0 ≤ ix) (h1 : ix < sz) (h3 : sz ≤ 9223372036854775808) :
    ∃ C, Chain 0 C sz ∧ C.Perm ((ix, ix + 1) :: pathL 64 ix 0 sz) := by
  obtain ⟨⟨C, c1, c2⟩, _⟩ := batchL_tiles h0 (show ix < ix + 1 by omega) (show ix + 1 ≤ sz by omega) h3
  exact ⟨C, c1, c2.trans ((pathL_perm 64 ix 0 sz h0 h1 (by rw [pow2_64]; omega)).symm.cons _)⟩
end Go.Proofs.YtnddjadjmgfgnaaDoor
