/- Plain facts on the powers of two that a number is the sum of. No program in sight. -/
import Derived.Test.YtaekhijmnbeahaaLogPlain
import Derived.Laws.BitsAllLaws
namespace Go.Proofs.Ytaekhijmnbeahaa
open Go.ChangeShapes Go.WideShapes Go.ChangeAt Go.RowKit
set_option linter.unusedVariables false
/-- the powers of two below 2^k that a number is the sum of, the greatest first -/
def powL : Nat → Nat → List Nat
  | 0, _ => []
  | k + 1, n => if 2 ^ k ≤ n then 2 ^ k :: powL k (n - 2 ^ k) else powL k n
theorem powL_yes {k n : Nat} (h : 2 ^ k ≤ n) : powL (k + 1) n = 2 ^ k :: powL k (n - 2 ^ k) := by rw [powL, if_pos h]
theorem powL_no {k n : Nat} (h : n < 2 ^ k) : powL (k + 1) n = powL k n := by rw [powL, if_neg (by omega)]
theorem powL_len : ∀ (k n : Nat), (powL k n).length ≤ k
  | 0, _ => Nat.le_refl _
  | k + 1, n => by
      by_cases h : 2 ^ k ≤ n
      · rw [powL_yes h]; have := powL_len k (n - 2 ^ k); simp; omega
      · rw [powL_no (by omega)]; have := powL_len k n; omega
theorem powL_sum : ∀ (k n : Nat), n < 2 ^ k → (powL k n).sum = n
  | 0, n, h => by have : n = 0 := by simpa using h
                  subst this; rfl
  | k + 1, n, h => by
      have e : 2 ^ (k + 1) = 2 ^ k * 2 := Nat.pow_succ ..
      by_cases hc : 2 ^ k ≤ n
      · rw [powL_yes hc, List.sum_cons, powL_sum k (n - 2 ^ k) (by omega)]; omega
      · rw [powL_no (by omega)]; exact powL_sum k n (by omega)
theorem powL_mem : ∀ (k n p : Nat), p ∈ powL k n → ∃ j, j < k ∧ p = 2 ^ j
  | 0, _, _, h => by simp [powL] at h
  | k + 1, n, p, h => by
      by_cases hc : 2 ^ k ≤ n
      · rw [powL_yes hc] at h
        rcases List.mem_cons.1 h with rfl | h
        · exact ⟨k, by omega, rfl⟩
        · obtain ⟨j, hj, e⟩ := powL_mem k _ p h; exact ⟨j, by omega, e⟩
      · rw [powL_no (by omega)] at h
        obtain ⟨j, hj, e⟩ := powL_mem k _ p h; exact ⟨j, by omega, e⟩
theorem cntF_add : ∀ (f k m : Nat), k < f → m < 2 ^ k → cntF f (2 ^ k + m) = cntF f m + 1
  | 0, k, m, h, _ => by omega
  | f + 1, 0, m, _, hm => by
      have : m = 0 := by simpa using hm
      subst this; rw [cntF.eq_2, cntF.eq_2]; simp [cntF_zero]
  | f + 1, k + 1, m, h, hm => by
      have e : 2 ^ (k + 1) = 2 ^ k * 2 := Nat.pow_succ ..
      have := cntF_add f k (m / 2) (by omega) (by omega)
      rw [cntF.eq_2, cntF.eq_2, show (2 ^ (k + 1) + m) % 2 = m % 2 by omega, show (2 ^ (k + 1) + m) / 2 = 2 ^ k + m / 2 by omega, this]; omega
theorem powL_cnt : ∀ (k n : Nat), k ≤ 64 → n < 2 ^ k → (powL k n).length = cnt n
  | 0, n, _, h => by have : n = 0 := by simpa using h
                     subst this; rw [cnt_zero]; rfl
  | k + 1, n, hk, h => by
      have e : 2 ^ (k + 1) = 2 ^ k * 2 := Nat.pow_succ ..
      by_cases hc : 2 ^ k ≤ n
      · have := cntF_add 64 k (n - 2 ^ k) (by omega) (by omega)
        rw [show 2 ^ k + (n - 2 ^ k) = n by omega] at this
        rw [powL_yes hc, List.length_cons, powL_cnt k (n - 2 ^ k) (by omega) (by omega)]; exact this.symm
      · rw [powL_no (by omega)]; exact powL_cnt k n (by omega) (by omega)
/-- each is below all before it -/
theorem powL_falls : ∀ (k n : Nat), (powL k n).Pairwise (· > ·)
  | 0, _ => List.Pairwise.nil
  | k + 1, n => by
      by_cases hc : 2 ^ k ≤ n
      · rw [powL_yes hc]
        refine List.pairwise_cons.2 ⟨fun p hp => ?_, powL_falls k _⟩
        obtain ⟨j, hj, rfl⟩ := powL_mem k _ p hp
        exact Nat.pow_lt_pow_right (by omega) hj
      · rw [powL_no (by omega)]; exact powL_falls k n
/-- 'n & p' where p is a power of two -/
theorem and_pow (n k : Nat) : n &&& 2 ^ k = if 2 ^ k ≤ n % 2 ^ (k + 1) then 2 ^ k else 0 := by
  have hb : n.testBit k = decide (2 ^ k ≤ n % 2 ^ (k + 1)) := by
    rw [Nat.testBit_eq_decide_div_mod_eq]
    have h1 := Nat.mod_pow_succ (b := 2) (x := n) (k := k)
    have h2 := Nat.mod_lt n (Nat.two_pow_pos k)
    rcases Nat.mod_two_eq_zero_or_one (n / 2 ^ k) with h | h
    · rw [h] at h1 ⊢; simp at h1 ⊢; omega
    · rw [h] at h1 ⊢; simp at h1 ⊢; omega
  by_cases h : 2 ^ k ≤ n % 2 ^ (k + 1)
  · rw [if_pos h]
    refine Nat.eq_of_testBit_eq fun i => ?_
    rw [Nat.testBit_and, Nat.testBit_two_pow]
    by_cases e : k = i
    · subst e; rw [hb]; simp [h]
    · simp [e]
  · rw [if_neg h]
    refine Nat.eq_of_testBit_eq fun i => ?_
    rw [Nat.testBit_and, Nat.testBit_two_pow, Nat.zero_testBit]
    by_cases e : k = i
    · subst e; rw [hb]; simp [h]
    · simp [e]
theorem mod_next (n k : Nat) : n % 2 ^ k = if 2 ^ k ≤ n % 2 ^ (k + 1) then n % 2 ^ (k + 1) - 2 ^ k else n % 2 ^ (k + 1) := by
  have h1 := Nat.mod_pow_succ (b := 2) (x := n) (k := k)
  have h2 := Nat.mod_lt n (Nat.two_pow_pos k)
  rcases Nat.mod_two_eq_zero_or_one (n / 2 ^ k) with h | h
  · rw [h] at h1; simp at h1; rw [if_neg (by omega)]; omega
  · rw [h] at h1; simp at h1; rw [if_pos (by omega)]; omega
end Go.Proofs.Ytaekhijmnbeahaa
