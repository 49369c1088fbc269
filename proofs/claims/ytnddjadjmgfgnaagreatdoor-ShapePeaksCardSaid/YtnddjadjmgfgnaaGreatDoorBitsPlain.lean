/- Plain facts behind package bits: ones at the end, ones in all, shifts. No program in sight. -/
import Derived.Test.YtnddjadjmgfgnaaGreatDoorAid
import Derived.Laws.Bits64b
namespace Go.Proofs.YtnddjadjmgfgnaaGreatDoor
open Go.ChangeShapes Go.WideShapes Go.ChangeAt Go.RowKit
set_option linter.unusedVariables false

def onesF : Nat → Nat → Nat
  | 0, _ => 0
  | f + 1, x => if x % 2 = 1 then onesF f (x / 2) + 1 else 0
def cntF : Nat → Nat → Nat
  | 0, _ => 0
  | f + 1, x => x % 2 + cntF f (x / 2)

theorem onesF_le : ∀ f x : Nat, onesF f x ≤ f
  | 0, _ => Nat.le_refl _
  | f + 1, x => by unfold onesF; have := onesF_le f (x / 2); split <;> omega
theorem cntF_le : ∀ f x : Nat, cntF f x ≤ f
  | 0, _ => Nat.le_refl _
  | f + 1, x => by unfold cntF; have := cntF_le f (x / 2); omega
theorem onesF_stable : ∀ f x : Nat, x < 2 ^ f → onesF (f + 1) x = onesF f x
  | 0, x, h => by have : x = 0 := by simpa using h
                  subst this; rfl
  | f + 1, x, h => by
      have hx : x / 2 < 2 ^ f := by rw [Nat.pow_succ] at h; omega
      have ih := onesF_stable f (x / 2) hx
      rw [onesF.eq_2 x (f + 1), onesF.eq_2 x f, ih]
theorem cntF_stable : ∀ f x : Nat, x < 2 ^ f → cntF (f + 1) x = cntF f x
  | 0, x, h => by have : x = 0 := by simpa using h
                  subst this; rfl
  | f + 1, x, h => by
      have hx : x / 2 < 2 ^ f := by rw [Nat.pow_succ] at h; omega
      have ih := cntF_stable f (x / 2) hx
      rw [cntF.eq_2 x (f + 1), cntF.eq_2 x f, ih]
theorem cntF_zero : ∀ f : Nat, cntF f 0 = 0
  | 0 => rfl
  | f + 1 => by unfold cntF; simp [cntF_zero f]
def ones (x : Nat) : Nat := onesF 64 x
def cnt (x : Nat) : Nat := cntF 64 x
theorem ones_le (x : Nat) : ones x ≤ 64 := onesF_le 64 x
theorem cnt_le (x : Nat) : cnt x ≤ 64 := cntF_le 64 x
theorem cnt_zero : cnt 0 = 0 := cntF_zero 64
theorem ones_odd {x : Nat} (h : x < 18446744073709551616) (o : x % 2 = 1) : ones x = ones (x / 2) + 1 := by
  have := onesF_stable 64 x h; unfold ones; rw [← this, onesF.eq_2, if_pos o]
theorem ones_even {x : Nat} (o : x % 2 ≠ 1) : ones x = 0 := by
  unfold ones; rw [onesF.eq_2, if_neg o]
theorem cnt_half {x : Nat} (h : x < 18446744073709551616) : cnt x = x % 2 + cnt (x / 2) := by
  have := cntF_stable 64 x h; unfold cnt; rw [← this, cntF.eq_2]
theorem and_mod2 (a b : Nat) (h : b % 2 = 0) : (a &&& b) % 2 = 0 := by
  have := (Nat.and_mod_two_eq_one (a := a) (b := b)); omega
theorem cntF_clear : ∀ f x : Nat, 0 < x → x < 2 ^ f → cntF f (x &&& (x - 1)) + 1 = cntF f x
  | 0, x, h, h' => by have : x < 1 := by simpa using h'
                      omega
  | f + 1, x, h, h' => by
      have hx : x / 2 < 2 ^ f := by rw [Nat.pow_succ] at h'; omega
      rw [cntF.eq_2, cntF.eq_2, Nat.and_div_two]
      rcases Nat.mod_two_eq_zero_or_one x with o | o
      · have e1 : (x - 1) / 2 = x / 2 - 1 := by omega
        have hz : (x &&& (x - 1)) % 2 = 0 := by rw [Nat.and_comm]; exact and_mod2 _ _ o
        have ih := cntF_clear f (x / 2) (by omega) hx
        rw [e1, hz, o]; omega
      · have e1 : (x - 1) / 2 = x / 2 := by omega
        have hz : (x &&& (x - 1)) % 2 = 0 := and_mod2 _ _ (by omega)
        rw [e1, hz, o, Nat.and_self]; omega
theorem cnt_clear {x : Nat} (h : 0 < x) (h' : x < 18446744073709551616) : cnt (x &&& (x - 1)) + 1 = cnt x := cntF_clear 64 x h h'
theorem clear_lt {x : Nat} (h : 0 < x) : x &&& (x - 1) < x := Nat.lt_of_le_of_lt (Nat.and_le_right (n := x) (m := x - 1)) (by omega)

/-! 'and' of two numbers that the kind holds -/
theorem and_u8 (a b : Nat) (ha : a < 256) (hb : b < 256) : bits .and .u8 (a : Int) (b : Int) = ((a &&& b : Nat) : Int) :=
  (bits_nat .u8 8 (by decide) (fun n h h' => IntWalk.u8_in n ⟨h, by simp at h'; omega⟩) a b ha hb).1
theorem and_u16 (a b : Nat) (ha : a < 65536) (hb : b < 65536) : bits .and .u16 (a : Int) (b : Int) = ((a &&& b : Nat) : Int) :=
  (bits_nat .u16 16 (by decide) (fun n h h' => IntWalk.u16_in n ⟨h, by simp at h'; omega⟩) a b ha hb).1
theorem and_u32 (a b : Nat) (ha : a < 4294967296) (hb : b < 4294967296) : bits .and .u32 (a : Int) (b : Int) = ((a &&& b : Nat) : Int) :=
  (bits_nat .u32 32 (by decide) (fun n h h' => IntWalk.u32_in n ⟨h, by simp at h'; omega⟩) a b ha hb).1
theorem and_u64 (a b : Nat) (ha : a < 18446744073709551616) (hb : b < 18446744073709551616) : bits .and .u64 (a : Int) (b : Int) = ((a &&& b : Nat) : Int) :=
  bits_and_u64_nat a b ha hb

/-! shifts up, and down again -/
theorem left_yes (W : Nat) (m x : Int) (k : Nat) (hm : m = 2 ^ W) (hx : 0 ≤ x) (h : x * 2 ^ k < m) :
    x * 2 ^ min k W % m = x * 2 ^ k ∧ x * 2 ^ min k W % m / 2 ^ min k W = x := by
  have p2 : ∀ j : Nat, (0 : Int) < 2 ^ j := fun j => Int.pow_pos (by decide)
  have h0 : 0 ≤ x * 2 ^ k := Int.mul_nonneg hx (Int.le_of_lt (p2 k))
  have hk : x * 2 ^ min k W = x * 2 ^ k := by
    by_cases e : x = 0
    · subst e; simp
    · have : k < W := by
        have h1 : (2 : Int) ^ k ≤ x * 2 ^ k := by
          have := Int.mul_le_mul_of_nonneg_right (show (1 : Int) ≤ x by omega) (Int.le_of_lt (p2 k)); simpa using this
        have h2 : (2 : Int) ^ k < 2 ^ W := by rw [← hm]; omega
        have h3 : (2 : Nat) ^ k < 2 ^ W := by exact_mod_cast h2
        exact (Nat.pow_lt_pow_iff_right (by decide)).1 h3
      rw [Nat.min_eq_left (by omega)]
  have e1 : x * 2 ^ min k W % m = x * 2 ^ k := by rw [hk]; exact Int.emod_eq_of_lt h0 h
  refine ⟨e1, ?_⟩
  rw [e1, ← hk]
  exact Int.mul_ediv_cancel x (Int.ne_of_gt (p2 _))
theorem left_no (W : Nat) (m x : Int) (k : Nat) (hm : m = 2 ^ W) (h : m ≤ x * 2 ^ k) :
    x * 2 ^ min k W % m / 2 ^ min k W ≠ x := by
  have p2 : ∀ j : Nat, (0 : Int) < 2 ^ j := fun j => Int.pow_pos (by decide)
  have hmp : 0 < m := hm ▸ p2 W
  intro e
  by_cases hk : k ≤ W
  · rw [Nat.min_eq_left hk] at e
    have h1 := Int.ediv_mul_le (x * 2 ^ k % m) (Int.ne_of_gt (p2 k))
    rw [e] at h1
    have h2 := Int.emod_lt_of_pos (x * 2 ^ k) hmp
    omega
  · rw [Nat.min_eq_right (by omega), hm, Int.mul_emod_left, Int.zero_ediv] at e
    subst e; simp at h; omega
def leftV (m x : Int) (k : Nat) : Int := if x * 2 ^ k < m then x * 2 ^ k else 0
def leftB (m x : Int) (k : Nat) : Bool := decide (x * 2 ^ k < m)
theorem leftV_yes {m x : Int} {k : Nat} (h : x * 2 ^ k < m) : leftV m x k = x * 2 ^ k := if_pos h
theorem leftV_no {m x : Int} {k : Nat} (h : m ≤ x * 2 ^ k) : leftV m x k = 0 := if_neg (by omega)
theorem leftB_yes {m x : Int} {k : Nat} (h : x * 2 ^ k < m) : leftB m x k = true := decide_eq_true h
theorem leftB_no {m x : Int} {k : Nat} (h : m ≤ x * 2 ^ k) : leftB m x k = false := decide_eq_false (by omega)
theorem pow_grow (x : Int) (i k : Nat) (hx : 0 ≤ x) (h : i ≤ k) : x * 2 ^ i ≤ x * 2 ^ k := by
  refine Int.mul_le_mul_of_nonneg_left ?_ hx
  have := Nat.pow_le_pow_right (n := 2) (by omega) h
  exact_mod_cast this
theorem pow_next (x : Int) (i : Nat) : x * 2 ^ (i + 1) = x * 2 ^ i * 2 := by rw [Int.pow_succ, Int.mul_assoc]
end Go.Proofs.YtnddjadjmgfgnaaGreatDoor
