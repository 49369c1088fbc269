import Derived.Test.YtnpblpbcchminaaDoorAid
import Derived.Laws.Bits64b
/- Plain facts behind package bits: ones at the end, ones in all, shifts. No program in sight. -/
namespace Go.Proofs.YtnpblpbcchminaaDoor
open Go.ChangeShapes Go.WideShapes Go.ChangeAt Go.RowKit
set_option linter.unusedVariables false

def onesF : Nat → Nat → Nat
  | 0, _ => 0
  | f + 1, x => if x % 2 = 1 then onesF f (x / 2) + 1 else 0
def cntF : Nat → Nat → Nat
  | 0, _ => 0
  | f + 1, x => x % 2 + cntF f (x / 2)

theorem onesF_le : ∀ f x : Nat, onesF f x ≤ f
  | 0, _ => Nat.le_refl _
  | f + 1, x => by unfold onesF; have := onesF_le f (x / 2); split <;> omega
theorem cntF_le : ∀ f x : Nat, cntF f x ≤ f
  | 0, _ => Nat.le_refl _
  | f + 1, x => by unfold cntF; have := cntF_le f (x / 2); omega
theorem onesF_stable : ∀ f x : Nat, x < 2 ^ f → onesF (f + 1) x = onesF f x
  | 0, x, h => by have : x = 0 := by simpa using h
                  subst this; rfl
  | f + 1, x, h => by
      have hx : x / 2 < 2 ^ f := by rw [Nat.pow_succ] at h; omega
      have ih := onesF_stable f (x / 2) hx
      rw [onesF.eq_2 x (f + 1), onesF.eq_2 x f, ih]
theorem cntF_stable : ∀ f x : Nat, x < 2 ^ f → cntF (f + 1) x = cntF f x
  | 0, x, h => by have : x = 0 := by simpa using h
                  subst this; rfl
  | f + 1, x, h => by
      have hx : x / 2 < 2 ^ f := by rw [Nat.pow_succ] at h; omega
      have ih := cntF_stable f (x / 2) hx
      rw [cntF.eq_2 x (f + 1), cntF.eq_2 x f, ih]
theorem cntF_zero : ∀ f : Nat, cntF f 0 = 0
  | 0 => rfl
  | f + 1 => by unfold cntF; simp [cntF_zero f]
def ones (x : Nat) : Nat := onesF 64 x
def cnt (x : Nat) : Nat := cntF 64 x
theorem ones_le (x : Nat) : ones x ≤ 64 := onesF_le 64 x
theorem cnt_le (x : Nat) : cnt x ≤ 64 := cntF_le 64 x
theorem cnt_zero : cnt 0 = 0 := cntF_zero 64
theorem ones_odd {x : Nat} (h : x < 18446744073709551616) (o : x % 2 = 1) : ones x = ones (x / 2) + 1 := by
  have := onesF_stable 64 x h; unfold ones; rw [← this, onesF.eq_2, if_pos o]
theorem ones_even {x : Nat} (o : x % 2 ≠ 1) : ones x = 0 := by
  unfold ones; rw [onesF.eq_2, if_neg o]
theorem cnt_half {x : Nat} (h : x < 18446744073709551616) : cnt x = x % 2 + cnt (x / 2) := by
  have := cntF_stable 64 x h; unfold cnt; rw [← this, cntF.eq_2]
theorem and_mod2 (a b : Nat) (h : b % 2 = 0) : (a &&& b) % 2 = 0 := by
  have := (Nat.and_mod_two_eq_one (a := a) (b := b)); omega
theorem cntF_clear : ∀ f x : Nat, 0 < x → x < 2 ^ f → cntF f (x &&& (x - 1)) + 1 = cntF f x
  | 0, x, h, h' => by have : x < 1 := by simpa using h'
                      omega
  | f + 1, x, h, h' => by
      have hx : x / 2 < 2 ^ f := by rw [Nat.pow_succ] at h'; omega
      rw [cntF.eq_2, cntF.eq_2, Nat.and_div_two]
      rcases Nat.mod_two_eq_zero_or_one x with o | o
      · have e1 : (x - 1) / 2 = x / 2 - 1 := by omega
        have hz : (x &&& (x - 1)) % 2 = 0 := by rw [Nat.and_comm]; exact and_mod2 _ _ o
        have ih := cntF_clear f (x / 2) (by omega) hx
        rw [e1, hz, o]; omega
      · have e1 : (x - 1) / 2 = x / 2 := by omega
        have hz : (x &&& (x - 1)) % 2 = 0 := and_mod2 _ _ (by omega)
        rw [e1, hz, o, Nat.and_self]; omega
theorem cnt_clear {x : Nat} (h : 0 < x) (h' : x < 18446744073709551616) : cnt (x &&& (x - 1)) + 1 = cnt x := cntF_clear 64 x h h'
theorem clear_lt {x : Nat} (h : 0 < x) : x &&& (x - 1) < x := Nat.lt_of_le_of_lt (Nat.and_le_right (n := x) (m := x - 1)) (by omega)

/-! 'and' of two numbers that the kind holds -/
theorem and_u8 (a b : Nat) (ha : a < 256) (hb : b < 256) : bits .and .u8 (a : Int) (b : Int) = ((a &&& b : Nat) : Int) :=
  (bits_nat .u8 8 (by decide) (fun n h h' => IntWalk.u8_in n ⟨h, by simp at h'; omega⟩) a b ha hb).1
theorem and_u16 (a b : Nat) (ha : a < 65536) (hb : b < 65536) : bits .and .u16 (a : Int) (b : Int) = ((a &&& b : Nat) : Int) :=
  (bits_nat .u16 16 (by decide) (fun n h h' => IntWalk.u16_in n ⟨h, by simp at h'; omega⟩) a b ha hb).1
theorem and_u32 (a b : Nat) (ha : a < 4294967296) (hb : b < 4294967296) : bits .and .u32 (a : Int) (b : Int) = ((a &&& b : Nat) : Int) :=
  (bits_nat .u32 32 (by decide) (fun n h h' => IntWalk.u32_in n ⟨h, by simp at h'; omega⟩) a b ha hb).1
theorem and_u64 (a b : Nat) (ha : a < 18446744073709551616) (hb : b < 18446744073709551616) : bits .and .u64 (a : Int) (b : Int) = ((a &&& b : Nat) : Int) :=
  bits_and_u64_nat a b ha hb

/-! shifts up, and down again -/
theorem left_yes (W : Nat) (m x : Int) (k : Nat) (hm : m = 2 ^ W) (hx : 0 ≤ x) (h : x * 2 ^ k < m) :
    x * 2 ^ min k W % m = x * 2 ^ k ∧ x * 2 ^ min k W % m / 2 ^ min k W = x := by
  have p2 : ∀ j : Nat, (0 : Int) < 2 ^ j := fun j => Int.pow_pos (by decide)
  have h0 : 0 ≤ x * 2 ^ k := Int.mul_nonneg hx (Int.le_of_lt (p2 k))
  have hk : x * 2 ^ min k W = x * 2 ^ k := by
    by_cases e : x = 0
    · subst e; simp
    · have : k < W := by
        have h1 : (2 : Int) ^ k ≤ x * 2 ^ k := by
          have := Int.mul_le_mul_of_nonneg_right (show (1 : Int) ≤ x by omega) (Int.le_of_lt (p2 k)); simpa using this
        have h2 : (2 : Int) ^ k < 2 ^ W := by rw [← hm]; omega
        have h3 : (2 : Nat) ^ k < 2 ^ W := by exact_mod_cast h2
        exact (Nat.pow_lt_pow_iff_right (by decide)).1 h3
      rw [Nat.min_eq_left (by omega)]
  have e1 : x * 2 ^ min k W % m = x * 2 ^ k := by rw [hk]; exact Int.emod_eq_of_lt h0 h
  refine ⟨e1, ?_⟩
  rw [e1, ← hk]
  exact Int.mul_ediv_cancel x (Int.ne_of_gt (p2 _))
theorem left_no (W : Nat) (m x : Int) (k : Nat) (hm : m = 2 ^ W) (h : m ≤ x * 2 ^ k) :
    x * 2 ^ min k W % m / 2 ^ min k W ≠ x := by
  have p2 : ∀ j : Nat, (0 : Int) < 2 ^ j := fun j => Int.pow_pos (by decide)
  have hmp : 0 < m := hm ▸ p2 W
  intro e
  by_cases hk : k ≤ W
  · rw [Nat.min_eq_left hk] at e
    have h1 := Int.ediv_mul_le (x * 2 ^ k % m) (Int.ne_of_gt (p2 k))
    rw [e] at h1
    have h2 := Int.emod_lt_of_pos (x * 2 ^ k) hmp
    omega
  · rw [Nat.min_eq_right (by omega), hm, Int.mul_emod_left, Int.zero_ediv] at e
    subst e; simp at h; omega
def leftV (m x : Int) (k : Nat) : Int := if x * 2 ^ k < m then x * 2 ^ k else 0
def leftB (m x : Int) (k : Nat) : Bool := decide (x * 2 ^ k < m)
theorem leftV_yes {m x : Int} {k : Nat} (h : x * 2 ^ k < m) : leftV m x k = x * 2 ^ k := if_pos h
theorem leftV_no {m x : Int} {k : Nat} (h : m ≤ x * 2 ^ k) : leftV m x k = 0 := if_neg (by omega)
theorem leftB_yes {m x : Int} {k : Nat} (h : x * 2 ^ k < m) : leftB m x k = true := decide_eq_true h
theorem leftB_no {m x : Int} {k : Nat} (h : m ≤ x * 2 ^ k) : leftB m x k = false := decide_eq_false (by omega)
theorem pow_grow (x : Int) (i k : Nat) (hx : 0 ≤ x) (h : i ≤ k) : x * 2 ^ i ≤ x * 2 ^ k := by
  refine Int.mul_le_mul_of_nonneg_left ?_ hx
  have := Nat.pow_le_pow_right (n := 2) (by omega) h
  exact_mod_cast this
theorem pow_next (x : Int) (i : Nat) : x * 2 ^ (i + 1) = x * 2 ^ i * 2 := by rw [Int.pow_succ, Int.mul_assoc]
end Go.Proofs.YtnpblpbcchminaaDoor

/- Plain facts on lengths in bits, logarithms, powers of two below a number. No program in sight. -/
namespace Go.Proofs.YtnpblpbcchminaaDoor
open Go.ChangeShapes Go.WideShapes Go.ChangeAt Go.RowKit
set_option linter.unusedVariables false

/-- how many bits a number has -/
def blen (y : Nat) : Nat := if y = 0 then 0 else Nat.log2 y + 1
theorem blen_zero : blen 0 = 0 := rfl
theorem blen_pos {y : Nat} (h : 0 < y) : blen y = Nat.log2 y + 1 := if_neg (by omega)
theorem blen_eq {y k : Nat} (h1 : 2 ^ k ≤ y) (h2 : y < 2 ^ (k + 1)) : blen y = k + 1 := by
  have hp : 0 < y := Nat.lt_of_lt_of_le (Nat.two_pow_pos k) h1
  rw [blen_pos hp, (Nat.log2_eq_iff (by omega)).2 ⟨h1, h2⟩]
theorem blen_lo {y : Nat} (h : 0 < y) : 2 ^ (blen y - 1) ≤ y := by
  rw [blen_pos h, Nat.add_sub_cancel]; exact Nat.log2_self_le (by omega)
theorem blen_hi (y : Nat) : y < 2 ^ blen y := by
  by_cases h : y = 0
  · subst h; decide
  · rw [blen_pos (by omega)]; exact Nat.lt_log2_self
theorem blen_half {y : Nat} (h : 0 < y) : blen y = blen (y / 2) + 1 := by
  by_cases h1 : y = 1
  · subst h1; decide
  · have a := blen_lo (y := y / 2) (by omega)
    have b := blen_hi (y / 2)
    have c : blen (y / 2) = (blen (y / 2) - 1) + 1 := by rw [blen_pos (by omega)]; omega
    rw [c] at b
    have hb : 2 ^ ((blen (y / 2) - 1) + 1) ≤ y := by rw [Nat.pow_succ]; omega
    have hc : y < 2 ^ ((blen (y / 2) - 1) + 1 + 1) := by rw [Nat.pow_succ]; omega
    have := blen_eq hb hc
    omega
theorem blen_le {y k : Nat} (h : y < 2 ^ k) : blen y ≤ k := by
  by_cases h0 : y = 0
  · subst h0; rw [blen_zero]; omega
  · have a := blen_lo (y := y) (by omega)
    have : 2 ^ (blen y - 1) < 2 ^ k := by omega
    have := (Nat.pow_lt_pow_iff_right (a := 2) (by decide)).1 this
    omega
theorem blen_le64 {y : Nat} (h : y < 18446744073709551616) : blen y ≤ 64 := blen_le (k := 64) h

/-- the exponent of the least power of two that is not below n -/
def lg (n : Nat) : Nat := blen (n - 1)
/-- the greatest power of two below n (of 2 and more) -/
def blw (n : Nat) : Nat := 2 ^ (blen (n - 1) - 1)
theorem lg_le {n : Nat} (h : n < 18446744073709551616) : lg n ≤ 64 := blen_le64 (by omega)
theorem blw_lt {n : Nat} (h : 2 ≤ n) : blw n < n := by have := blen_lo (y := n - 1) (by omega); unfold blw; omega
theorem blw_dbl {n : Nat} (h : 2 ≤ n) : n ≤ 2 * blw n := by
  have := blen_hi (n - 1); have c : blen (n - 1) = (blen (n - 1) - 1) + 1 := by rw [blen_pos (by omega)]; omega
  rw [c, Nat.pow_succ] at this; unfold blw; omega
theorem blw_pos (n : Nat) : 0 < blw n := Nat.two_pow_pos _
theorem blw_le63 {n : Nat} (h : n < 18446744073709551616) : blw n ≤ 9223372036854775808 := by
  have h1 := blen_le64 (y := n - 1) (by omega)
  have := Nat.pow_le_pow_right (n := 2) (by omega) (show blen (n - 1) - 1 ≤ 63 by omega)
  unfold blw; omega
theorem blw_eq {n e : Nat} (h1 : 2 ^ e < n) (h2 : n ≤ 2 ^ (e + 1)) : blw n = 2 ^ e := by
  have := blen_eq (y := n - 1) (k := e) (by omega) (by omega)
  unfold blw; rw [this]; rfl
theorem lg_eq {n e : Nat} (h1 : 2 ^ e < n) (h2 : n ≤ 2 ^ (e + 1)) : lg n = e + 1 := blen_eq (by omega) (by omega)
theorem lg_one : lg 1 = 0 := rfl
theorem lg_blw {n : Nat} (h : 2 ≤ n) : lg (blw n) + 1 = lg n := by
  have hp : 0 < blen (n - 1) := by rw [blen_pos (by omega)]; omega
  by_cases e : blen (n - 1) - 1 = 0
  · have : blw n = 1 := by unfold blw; rw [e]
    rw [this, lg_one]; unfold lg; omega
  · obtain ⟨k, hk⟩ : ∃ k, blen (n - 1) - 1 = k + 1 := ⟨blen (n - 1) - 2, by omega⟩
    have hb : blw n = 2 ^ (k + 1) := by unfold blw; rw [hk]
    have := lg_eq (n := blw n) (e := k) (by rw [hb, Nat.pow_succ]; have := Nat.two_pow_pos k; omega) (by rw [hb]; exact Nat.le_refl _)
    rw [this]; unfold lg; omega
theorem blw_lg {n : Nat} (h : 2 ≤ n) : blw n = 2 ^ (lg n - 1) := rfl
theorem lg_pos {n : Nat} (h : 2 ≤ n) : 1 ≤ lg n := by unfold lg; rw [blen_pos (by omega)]; omega
theorem cntF_pow : ∀ f e : Nat, e < f → cntF f (2 ^ e) = 1
  | 0, e, h => by omega
  | f + 1, 0, _ => by rw [cntF.eq_2]; simp [cntF_zero]
  | f + 1, e + 1, h => by
      have := cntF_pow f e (by omega)
      rw [cntF.eq_2, Nat.pow_succ, Nat.mul_mod_left, Nat.mul_div_cancel _ (by decide), this]
theorem cnt_pow {e : Nat} (h : e < 64) : cnt (2 ^ e) = 1 := cntF_pow 64 e h
theorem cnt_blw {n : Nat} (h : n < 18446744073709551616) (h2 : 2 ≤ n) : cnt (blw n) = 1 := by
  have h1 := blen_le64 (y := n - 1) (by omega)
  have : 0 < blen (n - 1) := by rw [blen_pos (by omega)]; omega
  exact cnt_pow (by omega)
/-! the same over integers, as the walks meet them -/
def blwI (n : Int) : Int := ((blw n.toNat : Nat) : Int)
def lgI (n : Int) : Int := ((lg n.toNat : Nat) : Int)
def cntI (n : Int) : Int := ((cnt n.toNat : Nat) : Int)
def onesI (n : Int) : Int := ((ones n.toNat : Nat) : Int)
theorem blwI_bd {n : Int} (h2 : 2 ≤ n) : 1 ≤ blwI n ∧ blwI n < n ∧ n ≤ 2 * blwI n := by
  have h1 := blw_lt (n := n.toNat) (by omega); have h3 := blw_dbl (n := n.toNat) (by omega); have h4 := blw_pos n.toNat
  unfold blwI; omega
theorem blwI_le {n : Int} (h : n < 18446744073709551616) : blwI n ≤ 9223372036854775808 := by
  have := blw_le63 (n := n.toNat) (by omega); unfold blwI; omega
theorem lgI_bd {n : Int} (h : n < 18446744073709551616) : 0 ≤ lgI n ∧ lgI n ≤ 64 := by
  have := lg_le (n := n.toNat) (by omega); unfold lgI; omega
theorem pw_lt {a b : Nat} (h : ((2 ^ a : Nat) : Int) < ((2 ^ b : Nat) : Int)) : a < b := (Nat.pow_lt_pow_iff_right (a := 2) (by decide)).1 (by omega)
theorem pw_succ (e : Nat) : ((2 ^ (e + 1) : Nat) : Int) = 2 * ((2 ^ e : Nat) : Int) := by rw [Nat.pow_succ]; omega
theorem pw_pos (e : Nat) : 1 ≤ ((2 ^ e : Nat) : Int) := by have := Nat.two_pow_pos e; omega
theorem pw_zero : ((2 ^ 0 : Nat) : Int) = 1 := rfl
theorem pw_63 : ((2 ^ 63 : Nat) : Int) = 9223372036854775808 := rfl
theorem pw_le {a b : Nat} (h : a ≤ b) : ((2 ^ a : Nat) : Int) ≤ ((2 ^ b : Nat) : Int) := by have := Nat.pow_le_pow_right (n := 2) (by omega) h; omega
theorem blwI_eq {n p : Int} {e : Nat} (hp : p = ((2 ^ e : Nat) : Int)) (h1 : p < n) (h2 : n ≤ 2 * p) : p = blwI n := by
  have := pw_pos e
  have h3 := blw_eq (n := n.toNat) (e := e) (by omega) (by rw [Nat.pow_succ]; omega)
  unfold blwI; rw [h3]; exact hp
theorem lgI_eq {n p : Int} {e : Nat} (hp : p = ((2 ^ e : Nat) : Int)) (h1 : p < n) (h2 : n ≤ 2 * p) : lgI n = e + 1 := by
  have := pw_pos e
  have h3 := lg_eq (n := n.toNat) (e := e) (by omega) (by rw [Nat.pow_succ]; omega)
  unfold lgI; rw [h3]; rfl
theorem lgI_one : lgI 1 = 0 := rfl
theorem pw_half {p : Int} {e : Nat} (hp : p = ((2 ^ e : Nat) : Int)) (h : 2 ≤ p) : p / 2 = ((2 ^ (e - 1) : Nat) : Int) ∧ p = 2 * (p / 2) := by
  cases e with
  | zero => rw [pw_zero] at hp; omega
  | succ k => rw [pw_succ] at hp; rw [Nat.add_sub_cancel]; omega
theorem pw_lt63 {p : Int} {e : Nat} (hp : p = ((2 ^ e : Nat) : Int)) (h : p < 9223372036854775808) : e + 1 ≤ 63 ∧ 2 * p ≤ 9223372036854775808 := by
  have h1 : e < 63 := pw_lt (by rw [pw_63]; omega)
  have h2 := pw_le (show e + 1 ≤ 63 by omega)
  rw [pw_succ, pw_63] at h2; omega
def blenI (y : Int) : Int := ((blen y.toNat : Nat) : Int)
theorem blenI_zero : blenI 0 = 0 := rfl
theorem blenI_half {y : Int} (h : 0 < y) : blenI y = blenI (y / 2) + 1 := by
  have := blen_half (y := y.toNat) (by omega)
  have e : (y / 2).toNat = y.toNat / 2 := by omega
  unfold blenI; rw [e]; omega
theorem blenI_lg {n : Int} (h : 1 ≤ n) : blenI (n - 1) = lgI n := by
  have e : (n - 1).toNat = n.toNat - 1 := by omega
  unfold blenI lgI lg; rw [e]
theorem blenI_bd {y : Int} (h : y < 18446744073709551616) : 0 ≤ blenI y ∧ blenI y ≤ 64 := by
  have := blen_le64 (y := y.toNat) (by omega); unfold blenI; omega
theorem lgI_blwI {n : Int} (h : 2 ≤ n) : lgI (blwI n) + 1 = lgI n := by
  have := lg_blw (n := n.toNat) (by omega)
  unfold lgI blwI; rw [Int.toNat_natCast]; omega
theorem lgI_pos {n : Int} (h : 2 ≤ n) : 1 ≤ lgI n := by
  have := lg_pos (n := n.toNat) (by omega); unfold lgI; omega
theorem cntI_blwI {n : Int} (h : n < 18446744073709551616) (h2 : 2 ≤ n) : cntI (blwI n) = 1 := by
  have := cnt_blw (n := n.toNat) (by omega) (by omega)
  unfold cntI blwI; rw [Int.toNat_natCast, this]; rfl
theorem blwI_pow {n : Int} (h : 2 ≤ n) : blwI n = 2 ^ (lgI n - 1).toNat := by
  have h1 := lg_pos (n := n.toNat) (by omega)
  have e : (lgI n - 1).toNat = lg n.toNat - 1 := by unfold lgI; omega
  rw [e]; unfold blwI; rw [blw_lg (by omega)]; simp
theorem blwI_5 : blwI 5 = 4 := rfl
theorem lgI_5 : lgI 5 = 3 := rfl
theorem cntI_11 : cntI 11 = 3 := rfl
theorem onesI_11 : onesI 11 = 2 := rfl
theorem cntI_bd (n : Int) : 0 ≤ cntI n ∧ cntI n ≤ 64 := by have := cnt_le n.toNat; unfold cntI; omega
theorem onesI_bd (n : Int) : 0 ≤ onesI n ∧ onesI n ≤ 64 := by have := ones_le n.toNat; unfold onesI; omega
attribute [irreducible] blwI lgI cntI onesI blenI
end Go.Proofs.YtnpblpbcchminaaDoor

/- Plain facts behind package verify: a path folded from below is the path folded from above. No program in sight. -/
namespace Go.Proofs.YtnpblpbcchminaaDoor
open Go.ChangeShapes Go.WideShapes Go.ChangeAt Go.RowKit
set_option linter.unusedVariables false
theorem blw_two : blw 2 = 1 := by decide
theorem blw_half {n : Nat} (h : 3 ≤ n) : blw n = 2 * blw ((n + 1) / 2) := by
  have h1 := blen_lo (y := n - 1) (by omega)
  have h2 := blen_hi (n - 1)
  have h3 := blen_pos (y := n - 1) (by omega)
  have h4 := blen_half (y := n - 1) (by omega)
  have h5 := blen_pos (y := (n - 1) / 2) (by omega)
  have e : (n + 1) / 2 - 1 = (n - 1) / 2 := by omega
  unfold blw
  rw [e, show blen (n - 1) - 1 = (blen ((n - 1) / 2) - 1) + 1 by omega, Nat.pow_succ]; omega
section
variable {α : Type} (node : α → α → α)
/-- a path, folded from below: at each level the node has a sibling, or it is the last and goes up as it is -/
def bot : Nat → Nat → Nat → α → List α → Option α
  | 0, _, _, h, ps => if ps = [] then some h else none
  | f + 1, n, size, h, ps =>
    if size ≤ 1 then (match ps with | [] => some h | _ :: _ => none)
    else if n % 2 = 0 ∧ n = size - 1 then bot f (n / 2) ((size + 1) / 2) h ps
    else match ps with
      | [] => none
      | p :: r => if n % 2 = 1 then bot f (n / 2) ((size + 1) / 2) (node p h) r else bot f (n / 2) ((size + 1) / 2) (node h p) r
theorem bot_one {f n size : Nat} {h : α} {ps : List α} (hs : size ≤ 1) : bot node (f + 1) n size h ps = match ps with | [] => some h | _ :: _ => none := by rw [bot.eq_def]; dsimp only; rw [if_pos hs]
theorem bot_last {f n size : Nat} {h : α} {ps : List α} (hs : 2 ≤ size) (he : n % 2 = 0 ∧ n = size - 1) : bot node (f + 1) n size h ps = bot node f (n / 2) ((size + 1) / 2) h ps := by rw [bot.eq_def]; dsimp only; rw [if_neg (by omega), if_pos he]
theorem bot_nil {f n size : Nat} {h : α} (hs : 2 ≤ size) (he : ¬ (n % 2 = 0 ∧ n = size - 1)) : bot node (f + 1) n size h [] = none := by rw [bot.eq_def]; dsimp only; rw [if_neg (by omega), if_neg he]
theorem bot_odd {f n size : Nat} {h p : α} {r : List α} (hs : 2 ≤ size) (he : n % 2 = 1) : bot node (f + 1) n size h (p :: r) = bot node f (n / 2) ((size + 1) / 2) (node p h) r := by rw [bot.eq_def]; dsimp only; rw [if_neg (by omega), if_neg (by omega), if_pos he]
theorem bot_even {f n size : Nat} {h p : α} {r : List α} (hs : 2 ≤ size) (he : n % 2 = 0) (hn : n ≠ size - 1) : bot node (f + 1) n size h (p :: r) = bot node f (n / 2) ((size + 1) / 2) (node h p) r := by rw [bot.eq_def]; dsimp only; rw [if_neg (by omega), if_neg (by omega), if_neg (by omega)]
/-- fuel beyond the size's bits does not matter -/
theorem bot_fuel : ∀ (f g n size : Nat) (h : α) (ps : List α), size ≤ 2 ^ f → size ≤ 2 ^ g → bot node (f + 1) n size h ps = bot node (g + 1) n size h ps
  | f, g, n, size, h, ps, hf, hg => by
    by_cases hs : size ≤ 1
    · rw [bot_one node hs, bot_one node hs]
    · obtain ⟨f', rfl⟩ : ∃ f', f = f' + 1 := ⟨f - 1, by cases f with | zero => simp at hf; omega | succ f => omega⟩
      obtain ⟨g', rfl⟩ : ∃ g', g = g' + 1 := ⟨g - 1, by cases g with | zero => simp at hg; omega | succ g => omega⟩
      rw [Nat.pow_succ] at hf hg
      have ih := fun n h ps => bot_fuel f' g' n ((size + 1) / 2) h ps (by omega) (by omega)
      by_cases he : n % 2 = 0 ∧ n = size - 1
      · rw [bot_last node (by omega) he, bot_last node (by omega) he]; exact ih _ _ _
      · cases ps with
        | nil => rw [bot_nil node (by omega) he, bot_nil node (by omega) he]
        | cons p r =>
          by_cases ho : n % 2 = 1
          · rw [bot_odd node (by omega) ho, bot_odd node (by omega) ho]; exact ih _ _ _
          · rw [bot_even node (by omega) (by omega) (by omega), bot_even node (by omega) (by omega) (by omega)]; exact ih _ _ _
/-- from above, the leaf in the left half -/
theorem bot_left : ∀ (f n size : Nat) (h x p : α) (ps : List α), 2 ≤ size → size ≤ 2 ^ f → n < blw size → bot node (f + 1) n (blw size) h ps = some x → bot node (f + 1) n size h (ps ++ [p]) = some (node x p)
  | 0, _, _, _, _, _, _, hs, hf, _, _ => by simp at hf; omega
  | f + 1, n, size, h, x, p, ps, hs, hf, hn, hb => by
    rw [Nat.pow_succ] at hf
    by_cases h2 : size = 2
    · subst h2
      rw [blw_two] at hn hb
      rw [bot_one node (by omega)] at hb
      obtain rfl : n = 0 := by omega
      cases ps with
      | cons q qs => simp at hb
      | nil =>
        simp at hb; subst hb
        rw [List.nil_append, bot_even node (by omega) (by omega) (by omega), bot_one node (by omega)]
    · have hk := blw_half (n := size) (by omega)
      have hp := blw_pos ((size + 1) / 2)
      have hlt := blw_lt (n := size) (by omega)
      obtain ⟨k', hk'⟩ : ∃ k', blw ((size + 1) / 2) = k' := ⟨_, rfl⟩
      rw [hk'] at hk hp
      have ih := fun h x ps => bot_left f (n / 2) ((size + 1) / 2) h x p ps (by omega) (by omega) (by rw [hk']; omega)
      rw [hk'] at ih
      rw [hk] at hb hn hlt
      cases ps with
      | nil => rw [bot_nil node (by omega) (by omega)] at hb; cases hb
      | cons q qs =>
        by_cases ho : n % 2 = 1
        · rw [bot_odd node (by omega) ho, show (2 * k' + 1) / 2 = k' by omega] at hb
          rw [List.cons_append, bot_odd node (by omega) ho]
          exact ih _ _ _ hb
        · rw [bot_even node (by omega) (by omega) (by omega), show (2 * k' + 1) / 2 = k' by omega] at hb
          rw [List.cons_append, bot_even node (by omega) (by omega) (by omega)]
          exact ih _ _ _ hb
/-- from above, the leaf in the right half -/
theorem bot_right : ∀ (f n size : Nat) (h x p : α) (ps : List α), 2 ≤ size → size ≤ 2 ^ f → blw size ≤ n → n < size → bot node (f + 1) (n - blw size) (size - blw size) h ps = some x → bot node (f + 1) n size h (ps ++ [p]) = some (node p x)
  | 0, _, _, _, _, _, _, hs, hf, _, _, _ => by simp at hf; omega
  | f + 1, n, size, h, x, p, ps, hs, hf, hn, hns, hb => by
    rw [Nat.pow_succ] at hf
    by_cases h2 : size = 2
    · subst h2
      rw [blw_two] at hn hb
      rw [bot_one node (by omega)] at hb
      obtain rfl : n = 1 := by omega
      cases ps with
      | cons q qs => simp at hb
      | nil =>
        simp at hb; subst hb
        rw [List.nil_append, bot_odd node (by omega) (by omega), bot_one node (by omega)]
    · have hk := blw_half (n := size) (by omega)
      have hp := blw_pos ((size + 1) / 2)
      have hlt := blw_lt (n := size) (by omega)
      obtain ⟨k', hk'⟩ : ∃ k', blw ((size + 1) / 2) = k' := ⟨_, rfl⟩
      rw [hk'] at hk hp
      have ih := fun h x ps => bot_right f (n / 2) ((size + 1) / 2) h x p ps (by omega) (by omega) (by rw [hk']; omega) (by omega)
      rw [hk'] at ih
      rw [hk] at hb hn hlt
      by_cases h1 : size - 2 * k' ≤ 1
      · rw [bot_one node h1] at hb
        cases ps with
        | cons q qs => simp at hb
        | nil =>
          simp at hb; subst hb
          rw [List.nil_append, bot_last node (by omega) (by omega)]
          have := ih h h []
          rw [List.nil_append] at this
          refine this ?_
          rw [bot_one node (by omega)]
      · have e1 : (size - 2 * k' + 1) / 2 = (size + 1) / 2 - k' := by omega
        have e2 : (n - 2 * k') / 2 = n / 2 - k' := by omega
        by_cases hl : n % 2 = 0 ∧ n = size - 1
        · rw [bot_last node (by omega) (by omega), e1, e2] at hb
          rw [bot_last node (by omega) hl]
          exact ih _ _ _ hb
        · cases ps with
          | nil => rw [bot_nil node (by omega) (by omega)] at hb; cases hb
          | cons q qs =>
            by_cases ho : n % 2 = 1
            · rw [bot_odd node (by omega) (by omega), e1, e2] at hb
              rw [List.cons_append, bot_odd node (by omega) ho]
              exact ih _ _ _ hb
            · rw [bot_even node (by omega) (by omega) (by omega), e1, e2] at hb
              rw [List.cons_append, bot_even node (by omega) (by omega) (by omega)]
              exact ih _ _ _ hb
end
end Go.Proofs.YtnpblpbcchminaaDoor

