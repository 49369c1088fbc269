/- Zeros at a number's end; the whole trees that cover a stretch, by fuel. No program in sight. -/
import Derived.Test.YtdodfeoaioolnaaDoorLogPlain
import Derived.Lib.TrailingZeros
namespace Go.Proofs.YtdodfeoaioolnaaDoor
open Go.ChangeShapes Go.WideShapes Go.ChangeAt Go.RowKit
set_option linter.unusedVariables false
def tzN (x : Nat) : Nat := Lib.ctz 64 x
theorem tz_spec {x : Nat} (h0 : 0 < x) (h : x < 2 ^ 64) : ∃ m, x = 2 ^ tzN x * (2 * m + 1) ∧ tzN x < 64 := by
  unfold tzN Lib.ctz; rw [if_neg (by omega)]; exact Lib.ctzFrom_spec 64 x h0 h
theorem tz_dvd {x : Nat} (h0 : 0 < x) (h : x < 2 ^ 64) : 2 ^ tzN x ∣ x := by obtain ⟨m, hm, _⟩ := tz_spec h0 h; exact ⟨_, hm⟩
theorem tz_ge {x k : Nat} (h0 : 0 < x) (h : x < 2 ^ 64) (hd : 2 ^ k ∣ x) : k ≤ tzN x := by
  obtain ⟨m, hm, _⟩ := tz_spec h0 h
  by_cases hk : k ≤ tzN x
  · exact hk
  · exfalso
    obtain ⟨q, hq⟩ : 2 ^ (tzN x + 1) ∣ x := Nat.dvd_trans (Nat.pow_dvd_pow 2 (by omega)) hd
    have h2 : 2 ^ tzN x * (2 * m + 1) = 2 ^ tzN x * (2 * q) := by rw [← hm, ← Nat.mul_assoc, ← Nat.pow_succ]; exact hq
    have h3 := Nat.eq_of_mul_eq_mul_left (Nat.two_pow_pos (tzN x)) h2
    omega
theorem tz_next {x : Nat} (h0 : 0 < x) (h : x < 2 ^ 64) : 2 ^ (tzN x + 1) ∣ x + 2 ^ tzN x := by
  obtain ⟨m, hm, _⟩ := tz_spec h0 h
  refine ⟨m + 1, ?_⟩
  obtain ⟨t, ht⟩ : ∃ t, 2 ^ tzN x = t := ⟨_, rfl⟩
  rw [ht] at hm ⊢
  rw [Nat.pow_succ, ht, hm]
  rw [Nat.mul_add, Nat.mul_one, Nat.mul_add, Nat.mul_one, Nat.mul_assoc]; omega

/-- the level of the tree that stands next -/
def lvN (a e : Nat) : Nat := if 0 < a then min (blen (e - a) - 1) (tzN a) else blen (e - a) - 1
def coverL : Nat → Nat → Nat → List (Nat × Nat)
  | 0, _, _ => []
  | f + 1, a, e => if a < e then (lvN a e, a / 2 ^ lvN a e) :: coverL f (a + 2 ^ lvN a e) e else []
theorem coverL_len : ∀ f a e : Nat, (coverL f a e).length ≤ f
  | 0, _, _ => Nat.le_refl _
  | f + 1, a, e => by unfold coverL; have := coverL_len f (a + 2 ^ lvN a e) e; split <;> simp; omega
/-- f trees are enough -/
def Pot (f a e : Nat) : Prop := ∃ k, k ≤ 64 ∧ 2 ^ k ∣ a ∧ ((e - a < 2 ^ k ∧ k ≤ f) ∨ (0 < a ∧ 128 ≤ f + k))
theorem pot_start (a e : Nat) (h : e < 2 ^ 64) : Pot 128 a e := by
  by_cases h0 : a = 0
  · exact ⟨64, Nat.le_refl _, by rw [h0]; exact Nat.dvd_zero _, .inl ⟨by omega, by omega⟩⟩
  · exact ⟨0, by omega, by simp, .inr ⟨by omega, by omega⟩⟩
theorem pot_zero {a e : Nat} (h : Pot 0 a e) : e ≤ a := by
  obtain ⟨k, hk, _, ⟨h1, h2⟩ | ⟨h1, h2⟩⟩ := h
  · obtain rfl : k = 0 := by omega
    simp at h1; omega
  · omega
theorem lvN_le {a e : Nat} (h : a < e) : 2 ^ lvN a e ≤ e - a := by
  have h1 := blen_lo (y := e - a) (by omega)
  have h2 : lvN a e ≤ blen (e - a) - 1 := by unfold lvN; split <;> omega
  exact Nat.le_trans (Nat.pow_le_pow_right (by decide) h2) h1
theorem pot_step {f a e : Nat} (h : Pot (f + 1) a e) (hlt : a < e) (he : e < 2 ^ 64) : Pot f (a + 2 ^ lvN a e) e := by
  obtain ⟨k, hk, hd, hc⟩ := h
  have hb1 := blen_lo (y := e - a) (by omega)
  have hb2 := blen_hi (e - a)
  have hb3 : blen (e - a) = (blen (e - a) - 1) + 1 := by rw [blen_pos (by omega)]; omega
  obtain ⟨c, hcc⟩ : ∃ c, blen (e - a) - 1 = c := ⟨_, rfl⟩
  rw [hb3, hcc, Nat.pow_succ] at hb2
  rw [hcc] at hb1
  have hc64 : c < 64 := by
    have : 2 ^ c < 2 ^ 64 := by omega
    exact (Nat.pow_lt_pow_iff_right (a := 2) (by decide)).1 this
  -- the second phase: the tree is as great as there is room for
  have phase2 : lvN a e = c → 2 ^ c ∣ a → Pot c (a + 2 ^ c) e := fun _ hda =>
    ⟨c, by omega, (Nat.dvd_add_iff_right hda).1 (Nat.dvd_refl _), .inl ⟨by omega, Nat.le_refl _⟩⟩
  have more : ∀ g, g ≤ f → Pot g (a + 2 ^ lvN a e) e → Pot f (a + 2 ^ lvN a e) e := fun g hg ⟨k', h1, h2, h3⟩ => ⟨k', h1, h2, by omega⟩
  rcases hc with ⟨h1, h2⟩ | ⟨h1, h2⟩
  · have hck : c < k := (Nat.pow_lt_pow_iff_right (a := 2) (by decide)).1 (by omega)
    have hda : 2 ^ c ∣ a := Nat.dvd_trans (Nat.pow_dvd_pow 2 (by omega)) hd
    have hl : lvN a e = c := by
      unfold lvN
      split
      · rename_i h0
        have := tz_ge h0 (by omega) hd
        omega
      · exact hcc
    have := phase2 hl hda
    rw [hl]
    have h3 := more c (by omega) (by rw [hl]; exact this)
    rwa [hl] at h3
  · have hl : lvN a e = min c (tzN a) := by unfold lvN; rw [if_pos h1, hcc]
    have ht := tz_ge h1 (by omega) hd
    obtain ⟨_, _, ht64⟩ := tz_spec h1 (by omega)
    by_cases hm : tzN a ≤ c
    · rw [hl, Nat.min_eq_right hm]
      exact ⟨tzN a + 1, by omega, tz_next h1 (by omega), .inr ⟨Nat.add_pos_left h1 _, by omega⟩⟩
    · have hcle : c ≤ tzN a := Nat.le_of_lt (Nat.lt_of_not_le hm)
      have hl' : lvN a e = c := by rw [hl, Nat.min_eq_left hcle]
      have hda : 2 ^ c ∣ a := Nat.dvd_trans (Nat.pow_dvd_pow 2 hcle) (tz_dvd h1 (by omega))
      have := more c (by omega) (by rw [hl']; exact phase2 hl' hda)
      exact this
theorem lvN_lt {a e : Nat} (h : a < e) (he : e < 2 ^ 64) : lvN a e < 64 := by
  have h1 := lvN_le h
  have : 2 ^ lvN a e < 2 ^ 64 := by omega
  exact (Nat.pow_lt_pow_iff_right (a := 2) (by decide)).1 this
theorem coverL_step {f a e : Nat} (h : a < e) : coverL (f + 1) a e = (lvN a e, a / 2 ^ lvN a e) :: coverL f (a + 2 ^ lvN a e) e := by rw [coverL, if_pos h]
theorem coverL_done {f a e : Nat} (h : e ≤ a) : coverL f a e = [] := by
  cases f
  · rfl
  · unfold coverL; rw [if_neg (by omega)]
def coordCells (l : List (Nat × Nat)) : List Value := l.flatMap fun p => [.int .u8 (p.1 : Int), .int .u64 (p.2 : Int)]
theorem coordCells_append (a b : List (Nat × Nat)) : coordCells (a ++ b) = coordCells a ++ coordCells b := by simp [coordCells]
end Go.Proofs.YtdodfeoaioolnaaDoor
