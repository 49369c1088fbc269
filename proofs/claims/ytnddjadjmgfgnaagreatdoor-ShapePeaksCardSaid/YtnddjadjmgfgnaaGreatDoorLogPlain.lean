/- Plain facts on lengths in bits, logarithms, powers of two below a number. No program in sight. -/
import Derived.Test.YtnddjadjmgfgnaaGreatDoorBitsPlain
namespace Go.Proofs.YtnddjadjmgfgnaaGreatDoor
open Go.ChangeShapes Go.WideShapes Go.ChangeAt Go.RowKit
set_option linter.unusedVariables false

/-- how many bits a number has -/
def blen (y : Nat) : Nat := if y = 0 then 0 else Nat.log2 y + 1
theorem blen_zero : blen 0 = 0 := rfl
theorem blen_pos {y : Nat} (h : 0 < y) : blen y = Nat.log2 y + 1 := if_neg (by omega)
theorem blen_eq {y k : Nat} (h1 : 2 ^ k ≤ y) (h2 : y < 2 ^ (k + 1)) : blen y = k + 1 := by
  have hp : 0 < y := Nat.lt_of_lt_of_le (Nat.two_pow_pos k) h1
  rw [blen_pos hp, (Nat.log2_eq_iff (by omega)).2 ⟨h1, h2⟩]
theorem blen_lo {y : Nat} (h : 0 < y) : 2 ^ (blen y - 1) ≤ y := by
  rw [blen_pos h, Nat.add_sub_cancel]; exact Nat.log2_self_le (by omega)
theorem blen_hi (y : Nat) : y < 2 ^ blen y := by
  by_cases h : y = 0
  · subst h; decide
  · rw [blen_pos (by omega)]; exact Nat.lt_log2_self
theorem blen_half {y : Nat} (h : 0 < y) : blen y = blen (y / 2) + 1 := by
  by_cases h1 : y = 1
  · subst h1; decide
  · have a := blen_lo (y := y / 2) (by omega)
    have b := blen_hi (y / 2)
    have c : blen (y / 2) = (blen (y / 2) - 1) + 1 := by rw [blen_pos (by omega)]; omega
    rw [c] at b
    have hb : 2 ^ ((blen (y / 2) - 1) + 1) ≤ y := by rw [Nat.pow_succ]; omega
    have hc : y < 2 ^ ((blen (y / 2) - 1) + 1 + 1) := by rw [Nat.pow_succ]; omega
    have := blen_eq hb hc
    omega
theorem blen_le {y k : Nat} (h : y < 2 ^ k) : blen y ≤ k := by
  by_cases h0 : y = 0
  · subst h0; rw [blen_zero]; omega
  · have a := blen_lo (y := y) (by omega)
    have : 2 ^ (blen y - 1) < 2 ^ k := by omega
    have := (Nat.pow_lt_pow_iff_right (a := 2) (by decide)).1 this
    omega
theorem blen_le64 {y : Nat} (h : y < 18446744073709551616) : blen y ≤ 64 := blen_le (k := 64) h

/-- the exponent of the least power of two that is not below n -/
def lg (n : Nat) : Nat := blen (n - 1)
/-- the greatest power of two below n (of 2 and more) -/
def blw (n : Nat) : Nat := 2 ^ (blen (n - 1) - 1)
theorem lg_le {n : Nat} (h : n < 18446744073709551616) : lg n ≤ 64 := blen_le64 (by omega)
theorem blw_lt {n : Nat} (h : 2 ≤ n) : blw n < n := by have := blen_lo (y := n - 1) (by omega); unfold blw; omega
theorem blw_dbl {n : Nat} (h : 2 ≤ n) : n ≤ 2 * blw n := by
  have := blen_hi (n - 1); have c : blen (n - 1) = (blen (n - 1) - 1) + 1 := by rw [blen_pos (by omega)]; omega
  rw [c, Nat.pow_succ] at this; unfold blw; omega
theorem blw_pos (n : Nat) : 0 < blw n := Nat.two_pow_pos _
theorem blw_le63 {n : Nat} (h : n < 18446744073709551616) : blw n ≤ 9223372036854775808 := by
  have h1 := blen_le64 (y := n - 1) (by omega)
  have := Nat.pow_le_pow_right (n := 2) (by omega) (show blen (n - 1) - 1 ≤ 63 by omega)
  unfold blw; omega
theorem blw_eq {n e : Nat} (h1 : 2 ^ e < n) (h2 : n ≤ 2 ^ (e + 1)) : blw n = 2 ^ e := by
  have := blen_eq (y := n - 1) (k := e) (by omega) (by omega)
  unfold blw; rw [this]; rfl
theorem lg_eq {n e : Nat} (h1 : 2 ^ e < n) (h2 : n ≤ 2 ^ (e + 1)) : lg n = e + 1 := blen_eq (by omega) (by omega)
theorem lg_one : lg 1 = 0 := rfl
theorem lg_blw {n : Nat} (h : 2 ≤ n) : lg (blw n) + 1 = lg n := by
  have hp : 0 < blen (n - 1) := by rw [blen_pos (by omega)]; omega
  by_cases e : blen (n - 1) - 1 = 0
  · have : blw n = 1 := by unfold blw; rw [e]
    rw [this, lg_one]; unfold lg; omega
  · obtain ⟨k, hk⟩ : ∃ k, blen (n - 1) - 1 = k + 1 := ⟨blen (n - 1) - 2, by omega⟩
    have hb : blw n = 2 ^ (k + 1) := by unfold blw; rw [hk]
    have := lg_eq (n := blw n) (e := k) (by rw [hb, Nat.pow_succ]; have := Nat.two_pow_pos k; omega) (by rw [hb]; exact Nat.le_refl _)
    rw [this]; unfold lg; omega
theorem blw_lg {n : Nat} (h : 2 ≤ n) : blw n = 2 ^ (lg n - 1) := rfl
theorem lg_pos {n : Nat} (h : 2 ≤ n) : 1 ≤ lg n := by unfold lg; rw [blen_pos (by omega)]; omega
theorem cntF_pow : ∀ f e : Nat, e < f → cntF f (2 ^ e) = 1
  | 0, e, h => by omega
  | f + 1, 0, _ => by rw [cntF.eq_2]; simp [cntF_zero]
  | f + 1, e + 1, h => by
      have := cntF_pow f e (by omega)
      rw [cntF.eq_2, Nat.pow_succ, Nat.mul_mod_left, Nat.mul_div_cancel _ (by decide), this]
theorem cnt_pow {e : Nat} (h : e < 64) : cnt (2 ^ e) = 1 := cntF_pow 64 e h
theorem cnt_blw {n : Nat} (h : n < 18446744073709551616) (h2 : 2 ≤ n) : cnt (blw n) = 1 := by
  have h1 := blen_le64 (y := n - 1) (by omega)
  have : 0 < blen (n - 1) := by rw [blen_pos (by omega)]; omega
  exact cnt_pow (by omega)
/-! the same over integers, as the walks meet them -/
def blwI (n : Int) : Int := ((blw n.toNat : Nat) : Int)
def lgI (n : Int) : Int := ((lg n.toNat : Nat) : Int)
def cntI (n : Int) : Int := ((cnt n.toNat : Nat) : Int)
def onesI (n : Int) : Int := ((ones n.toNat : Nat) : Int)
theorem blwI_bd {n : Int} (h2 : 2 ≤ n) : 1 ≤ blwI n ∧ blwI n < n ∧ n ≤ 2 * blwI n := by
  have h1 := blw_lt (n := n.toNat) (by omega); have h3 := blw_dbl (n := n.toNat) (by omega); have h4 := blw_pos n.toNat
  unfold blwI; omega
theorem blwI_le {n : Int} (h : n < 18446744073709551616) : blwI n ≤ 9223372036854775808 := by
  have := blw_le63 (n := n.toNat) (by omega); unfold blwI; omega
theorem lgI_bd {n : Int} (h : n < 18446744073709551616) : 0 ≤ lgI n ∧ lgI n ≤ 64 := by
  have := lg_le (n := n.toNat) (by omega); unfold lgI; omega
theorem pw_lt {a b : Nat} (h : ((2 ^ a : Nat) : Int) < ((2 ^ b : Nat) : Int)) : a < b := (Nat.pow_lt_pow_iff_right (a := 2) (by decide)).1 (by omega)
theorem pw_succ (e : Nat) : ((2 ^ (e + 1) : Nat) : Int) = 2 * ((2 ^ e : Nat) : Int) := by rw [Nat.pow_succ]; omega
theorem pw_pos (e : Nat) : 1 ≤ ((2 ^ e : Nat) : Int) := by have := Nat.two_pow_pos e; omega
theorem pw_zero : ((2 ^ 0 : Nat) : Int) = 1 := rfl
theorem pw_63 : ((2 ^ 63 : Nat) : Int) = 9223372036854775808 := rfl
theorem pw_le {a b : Nat} (h : a ≤ b) : ((2 ^ a : Nat) : Int) ≤ ((2 ^ b : Nat) : Int) := by have := Nat.pow_le_pow_right (n := 2) (by omega) h; omega
theorem blwI_eq {n p : Int} {e : Nat} (hp : p = ((2 ^ e : Nat) : Int)) (h1 : p < n) (h2 : n ≤ 2 * p) : p = blwI n := by
  have := pw_pos e
  have h3 := blw_eq (n := n.toNat) (e := e) (by omega) (by rw [Nat.pow_succ]; omega)
  unfold blwI; rw [h3]; exact hp
theorem lgI_eq {n p : Int} {e : Nat} (hp : p = ((2 ^ e : Nat) : Int)) (h1 : p < n) (h2 : n ≤ 2 * p) : lgI n = e + 1 := by
  have := pw_pos e
  have h3 := lg_eq (n := n.toNat) (e := e) (by omega) (by rw [Nat.pow_succ]; omega)
  unfold lgI; rw [h3]; rfl
theorem lgI_one : lgI 1 = 0 := rfl
theorem pw_half {p : Int} {e : Nat} (hp : p = ((2 ^ e : Nat) : Int)) (h : 2 ≤ p) : p / 2 = ((2 ^ (e - 1) : Nat) : Int) ∧ p = 2 * (p / 2) := by
  cases e with
  | zero => rw [pw_zero] at hp; omega
  | succ k => rw [pw_succ] at hp; rw [Nat.add_sub_cancel]; omega
theorem pw_lt63 {p : Int} {e : Nat} (hp : p = ((2 ^ e : Nat) : Int)) (h : p < 9223372036854775808) : e + 1 ≤ 63 ∧ 2 * p ≤ 9223372036854775808 := by
  have h1 : e < 63 := pw_lt (by rw [pw_63]; omega)
  have h2 := pw_le (show e + 1 ≤ 63 by omega)
  rw [pw_succ, pw_63] at h2; omega
def blenI (y : Int) : Int := ((blen y.toNat : Nat) : Int)
theorem blenI_zero : blenI 0 = 0 := rfl
theorem blenI_half {y : Int} (h : 0 < y) : blenI y = blenI (y / 2) + 1 := by
  have := blen_half (y := y.toNat) (by omega)
  have e : (y / 2).toNat = y.toNat / 2 := by omega
  unfold blenI; rw [e]; omega
theorem blenI_lg {n : Int} (h : 1 ≤ n) : blenI (n - 1) = lgI n := by
  have e : (n - 1).toNat = n.toNat - 1 := by omega
  unfold blenI lgI lg; rw [e]
theorem blenI_bd {y : Int} (h : y < 18446744073709551616) : 0 ≤ blenI y ∧ blenI y ≤ 64 := by
  have := blen_le64 (y := y.toNat) (by omega); unfold blenI; omega
theorem lgI_blwI {n : Int} (h : 2 ≤ n) : lgI (blwI n) + 1 = lgI n := by
  have := lg_blw (n := n.toNat) (by omega)
  unfold lgI blwI; rw [Int.toNat_natCast]; omega
theorem lgI_pos {n : Int} (h : 2 ≤ n) : 1 ≤ lgI n := by
  have := lg_pos (n := n.toNat) (by omega); unfold lgI; omega
theorem cntI_blwI {n : Int} (h : n < 18446744073709551616) (h2 : 2 ≤ n) : cntI (blwI n) = 1 := by
  have := cnt_blw (n := n.toNat) (by omega) (by omega)
  unfold cntI blwI; rw [Int.toNat_natCast, this]; rfl
theorem blwI_pow {n : Int} (h : 2 ≤ n) : blwI n = 2 ^ (lgI n - 1).toNat := by
  have h1 := lg_pos (n := n.toNat) (by omega)
  have e : (lgI n - 1).toNat = lg n.toNat - 1 := by unfold lgI; omega
  rw [e]; unfold blwI; rw [blw_lg (by omega)]; simp
theorem blwI_5 : blwI 5 = 4 := rfl
theorem lgI_5 : lgI 5 = 3 := rfl
theorem cntI_11 : cntI 11 = 3 := rfl
theorem onesI_11 : onesI 11 = 2 := rfl
theorem cntI_bd (n : Int) : 0 ≤ cntI n ∧ cntI n ≤ 64 := by have := cnt_le n.toNat; unfold cntI; omega
theorem onesI_bd (n : Int) : 0 ≤ onesI n ∧ onesI n ≤ 64 := by have := ones_le n.toNat; unfold onesI; omega
attribute [irreducible] blwI lgI cntI onesI blenI
end Go.Proofs.YtnddjadjmgfgnaaGreatDoor
