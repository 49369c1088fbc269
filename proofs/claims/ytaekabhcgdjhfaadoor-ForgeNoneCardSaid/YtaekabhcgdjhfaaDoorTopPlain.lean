/- Plain facts: how many stretches a path and a proof have; what a log's consistency proof says. No program in sight. -/
import Derived.Test.YtaekabhcgdjhfaaDoorConsPlain
import Derived.Test.YtaekabhcgdjhfaaDoorVerifyIncl
namespace Go.Proofs.YtaekabhcgdjhfaaDoor
open Go.ChangeShapes Go.WideShapes Go.ChangeAt Go.RowKit
set_option linter.unusedVariables false
theorem blen_mono {a b : Nat} (h : a ≤ b) : blen a ≤ blen b := blen_le (Nat.lt_of_le_of_lt h (blen_hi b))
theorem lgI_mono {a b : Int} (h : a ≤ b) : lgI a ≤ lgI b := by
  have := blen_mono (show a.toNat - 1 ≤ b.toNat - 1 by omega)
  unfold lgI lg; omega
theorem pathL_log : ∀ (f : Nat) (ix b e : Int), b < e → e - b ≤ pow2 f → ((pathL f ix b e).length : Int) ≤ lgI (e - b)
  | 0, ix, b, e, h, hp => by
      have : (0 : Int) ≤ lgI (e - b) := by unfold lgI; omega
      simpa [pathL] using this
  | f + 1, ix, b, e, h, hp => by
      have h0 : (0 : Int) ≤ lgI (e - b) := by unfold lgI; omega
      rw [pathL]
      by_cases h2 : e - b < 2
      · rw [if_pos h2]; simpa using h0
      · have hk := blwI_bd (n := e - b) (by omega)
        have hkf := blwI_le_pow (n := e - b) (f := f) (by omega) hp
        have hl := lgI_blwI (n := e - b) (by omega)
        rw [if_neg h2]
        by_cases h3 : ix < b + blwI (e - b)
        · have ih := pathL_log f ix b (b + blwI (e - b)) (by omega) (by omega)
          rw [show b + blwI (e - b) - b = blwI (e - b) by omega] at ih
          rw [if_pos h3, List.length_append]; simp; omega
        · have ih := pathL_log f ix (b + blwI (e - b)) e (by omega) (by omega)
          have hm := lgI_mono (show e - (b + blwI (e - b)) ≤ blwI (e - b) by omega)
          rw [if_neg h3, List.length_append]; simp; omega

theorem proofL_log : ∀ (f : Nat) (old b e : Int), b < old → old ≤ e → e - b ≤ pow2 f → ((proofL f old b e).length : Int) ≤ lgI (e - b) + 1
  | 0, old, b, e, h, h1, hp => by
      have : (0 : Int) ≤ lgI (e - b) := by unfold lgI; omega
      unfold proofL; split <;> (try split) <;> simp <;> omega
  | f + 1, old, b, e, h, h1, hp => by
      have h0 : (0 : Int) ≤ lgI (e - b) := by unfold lgI; omega
      rw [proofL]
      by_cases h2 : e = old
      · rw [if_pos h2]; split <;> simp <;> omega
      · have hk := blwI_bd (n := e - b) (by omega)
        have hkf := blwI_le_pow (n := e - b) (f := f) (by omega) hp
        have hl := lgI_blwI (n := e - b) (by omega)
        rw [if_neg h2]
        by_cases h3 : old ≤ b + blwI (e - b)
        · have ih := proofL_log f old b (b + blwI (e - b)) h (by omega) (by omega)
          rw [show b + blwI (e - b) - b = blwI (e - b) by omega] at ih
          rw [if_pos h3, List.length_append]; simp; omega
        · have ih := proofL_log f old (b + blwI (e - b)) e (by omega) h1 (by omega)
          have hm := lgI_mono (show e - (b + blwI (e - b)) ≤ blwI (e - b) by omega)
          rw [if_neg h3, List.length_append]; simp; omega
/-- what the consistency proof of a log's beginning says -/
theorem logs_cons (L : List ByteArray) (M N : Nat) (hN9 : N ≤ 1048576) (h0 : 0 < M) (h1 : M < N) :
    ∃ (k n : Nat) (h : List UInt8) (rest : List (List UInt8)), M = 2 ^ k * (n + 1) ∧ n % 2 = 0 ∧ treesB L (proofL 64 M 0 N) = (if M = 2 ^ k then [] else [h]) ++ rest ∧ (M = 2 ^ k → h = treeB L 0 M) ∧ h.length = 32 ∧ CSays nodeH n ((N - 1) / 2 ^ k) h h rest (treeB L 0 M) (treeB L 0 N) := by
  obtain ⟨k, n, rest, i1, i2, i3, i4⟩ := cons_bot nodeH 64 (leafG L) M 0 N (by omega) (by omega) (by omega) (by rw [pow2_64]; omega) (by omega)
  have hP := Nat.two_pow_pos k
  have hM : M = 2 ^ k * (n + 1) := by have := i1; omega
  have hPM : 2 ^ k ≤ M := by rw [hM]; exact Nat.le_mul_of_pos_right _ (by omega)
  have hb : ∀ b e : Int, b < e → treeB L b e = treeT nodeH (leafG L) b e := fun b e h => by unfold treeB; rw [if_neg (by omega)]
  have hp := proof_spansIn (M : Int) N (by omega) (by omega) (by omega)
  have hnl : 2 ^ k < M ∨ 2 ^ k = M := by omega
  obtain ⟨p, hp2⟩ : ∃ p, 2 ^ k = p := ⟨_, rfl⟩
  rw [hp2] at i3 i4 hP hPM hnl hM
  have hr : ∀ s ∈ rest, s.1 < s.2 := fun s hs => (hp s (by rw [i3]; simp [hs])).2.1
  refine ⟨k, n, treeB L ((M : Int) - p) M, treesB L rest, by rw [hp2]; exact hM, i2, ?_, ?_, treeB_len _ _ _, ?_⟩
  · rw [i3, hp2]
    unfold treesB
    by_cases e : M = p
    · rw [if_neg (by omega), if_pos e]; rfl
    · rw [if_pos (by omega), if_neg e]; rfl
  · intro e
    rw [hp2] at e
    rw [← e]; congr 1; omega
  · rw [hp2]
    refine ⟨64, ?_, ?_⟩
    · have := Nat.div_le_self (N - 1) p; omega
    · have e1 : ((N : Int) - 0 - 1).toNat = N - 1 := by omega
      rw [e1] at i4
      rw [hb _ _ (by omega), hb 0 M (by omega), hb 0 N (by omega)]
      have e2 : (treesB L rest).map sib = rest.map fun s => sib (treeT nodeH (leafG L) s.1 s.2) := by
        unfold treesB
        rw [List.map_map]
        refine List.map_congr_left fun s hs => ?_
        show sib (treeB L s.1 s.2) = _
        rw [hb _ _ (hr s hs)]
      rw [e2]
      exact i4
end Go.Proofs.YtaekabhcgdjhfaaDoor
