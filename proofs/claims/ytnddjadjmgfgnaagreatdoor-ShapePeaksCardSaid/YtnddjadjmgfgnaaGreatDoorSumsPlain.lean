/- The peaks of a log: whole trees one behind the other, of falling levels, as many as the size has ones. No program in sight. -/
import Derived.Test.YtnddjadjmgfgnaaGreatDoorCoverPlain
namespace Go.Proofs.YtnddjadjmgfgnaaGreatDoor
open Go.ChangeShapes Go.WideShapes Go.ChangeAt Go.RowKit
set_option linter.unusedVariables false
theorem cntF_top : ∀ f c s : Nat, c < f → s < 2 ^ c → cntF f (2 ^ c + s) = 1 + cntF f s
  | 0, _, _, h, _ => by omega
  | f + 1, 0, s, _, h => by
      have : s = 0 := by simpa using h
      subst this
      rw [cntF.eq_2, cntF.eq_2]; simp [cntF_zero]
  | f + 1, c + 1, s, h, hs => by
      have hp : 2 ^ (c + 1) = 2 * 2 ^ c := by rw [Nat.pow_succ]; omega
      have ih := cntF_top f c (s / 2) (by omega) (by omega)
      rw [cntF.eq_2, cntF.eq_2]
      have e1 : (2 ^ (c + 1) + s) % 2 = s % 2 := by omega
      have e2 : (2 ^ (c + 1) + s) / 2 = 2 ^ c + s / 2 := by omega
      rw [e1, e2, ih]; omega
theorem cnt_top {c s : Nat} (h : c < 64) (hs : s < 2 ^ c) : cnt (2 ^ c + s) = 1 + cnt s := cntF_top 64 c s h hs
/-- trees one behind the other from a to b -/
def Lie : Nat → List (Nat × Nat) → Nat → Prop
  | a, [], b => a = b
  | a, p :: r, b => p.2 * 2 ^ p.1 = a ∧ Lie (a + 2 ^ p.1) r b
/-- falling levels, all below k -/
def Fall : Nat → List (Nat × Nat) → Prop
  | _, [] => True
  | k, p :: r => p.1 < k ∧ Fall p.1 r
theorem Lie.le : ∀ {l : List (Nat × Nat)} {a b : Nat}, Lie a l b → a ≤ b
  | [], _, _, h => Nat.le_of_eq h
  | p :: r, a, b, h => by have := Lie.le h.2; have := Nat.two_pow_pos p.1; omega
theorem coverL_lie : ∀ (f a n k : Nat), 2 ^ k ∣ a → n - a < 2 ^ k → a ≤ n → k ≤ f → k ≤ 64 → n < 2 ^ 64 →
    Lie a (coverL f a n) n ∧ (coverL f a n).length = cnt (n - a) ∧ Fall k (coverL f a n)
  | 0, a, n, k, hd, hr, ha, hk, h64, hn => by
      obtain rfl : k = 0 := by omega
      obtain rfl : a = n := by simp at hr; omega
      exact ⟨rfl, by rw [Nat.sub_self, cnt_zero]; rfl, trivial⟩
  | f + 1, a, n, k, hd, hr, ha, hk, h64, hn => by
      by_cases hlt : a < n
      · have hb1 := blen_lo (y := n - a) (by omega)
        have hb2 := blen_hi (n - a)
        have hb3 : blen (n - a) = (blen (n - a) - 1) + 1 := by rw [blen_pos (by omega)]; omega
        obtain ⟨c, hcc⟩ : ∃ c, blen (n - a) - 1 = c := ⟨_, rfl⟩
        rw [hb3, hcc, Nat.pow_succ] at hb2
        rw [hcc] at hb1
        have hck : c < k := (Nat.pow_lt_pow_iff_right (a := 2) (by decide)).1 (by omega)
        have hda : 2 ^ c ∣ a := Nat.dvd_trans (Nat.pow_dvd_pow 2 (by omega)) hd
        have hl : lvN a n = c := by
          unfold lvN
          split
          · rename_i h0
            have := tz_ge h0 (by omega) hd
            omega
          · exact hcc
        rw [coverL_step hlt, hl]
        have hda' : 2 ^ c ∣ a + 2 ^ c := (Nat.dvd_add_iff_right hda).1 (Nat.dvd_refl _)
        obtain ⟨i1, i2, i3⟩ := coverL_lie f (a + 2 ^ c) n c hda' (by omega) (by omega) (by omega) (by omega) hn
        refine ⟨⟨Nat.div_mul_cancel hda, i1⟩, ?_, hck, i3⟩
        rw [List.length_cons, i2]
        have := cnt_top (c := c) (s := n - (a + 2 ^ c)) (by omega) (by omega)
        rw [show 2 ^ c + (n - (a + 2 ^ c)) = n - a by omega] at this
        omega
      · obtain rfl : a = n := by omega
        rw [coverL_done (Nat.le_refl _)]
        exact ⟨rfl, by rw [Nat.sub_self, cnt_zero]; rfl, trivial⟩
theorem peaks_lie {n : Nat} (hn : n < 2 ^ 64) : Lie 0 (coverL 128 0 n) n ∧ (coverL 128 0 n).length = cnt n ∧ Fall 64 (coverL 128 0 n) :=
  coverL_lie 128 0 n 64 (Nat.dvd_zero _) (by omega) (by omega) (by omega) (by omega) hn
/-- the first of two peaks and more is the greatest power of two below the size -/
theorem peaks_first {n : Nat} (hn : n < 2 ^ 64) {p q : Nat × Nat} {r : List (Nat × Nat)} (h : coverL 128 0 n = p :: q :: r) : 2 ^ p.1 = blw n ∧ p.2 = 0 := by
  obtain ⟨h1, h2, h3⟩ := peaks_lie hn
  rw [h] at h1 h2 h3
  obtain ⟨a1, a2, a3⟩ := h1
  have hle := Lie.le a3
  have e1 := blen_lo (y := n) (by have := Nat.two_pow_pos p.1; have := Nat.two_pow_pos q.1; omega)
  have hp0 : p.2 = 0 := by
    have := Nat.two_pow_pos p.1
    rcases Nat.mul_eq_zero.1 a1 with h | h
    · exact h
    · omega
  have hpos := Nat.two_pow_pos q.1
  have hn0 : 0 < n := by have := Nat.two_pow_pos p.1; omega
  have hp1 : p.1 = blen n - 1 := by
    rw [coverL_step hn0] at h
    injection h with h _
    rw [← h]
    show lvN 0 n = _
    unfold lvN; simp
  have hhi := blen_hi n
  rw [show blen n = (blen n - 1) + 1 by rw [blen_pos hn0]; omega, ← hp1] at hhi
  refine ⟨(blw_eq (by omega) (by omega)).symm, hp0⟩
end Go.Proofs.YtnddjadjmgfgnaaGreatDoor
