import Derived.Test.YtdodfeoaioolnaaDoorCoverPlain
import Derived.Test.YtdodfeoaioolnaaDoorShapeProof
import Derived.Test.YtdodfeoaioolnaaDoorShapeBatch
import Derived.Test.YtdodfeoaioolnaaDoorNotePlain
import Derived.Test.YtdodfeoaioolnaaDoorCover
/- The peaks of a log: whole trees one behind the other, of falling levels, as many as the size has ones. No program in sight. -/
namespace Go.Proofs.YtdodfeoaioolnaaDoor
open Go.ChangeShapes Go.WideShapes Go.ChangeAt Go.RowKit
set_option linter.unusedVariables false
theorem cntF_top : ∀ f c s : Nat, c < f → s < 2 ^ c → cntF f (2 ^ c + s) = 1 + cntF f s
  | 0, _, _, h, _ => by omega
  | f + 1, 0, s, _, h => by
      have : s = 0 := by simpa using h
      subst this
      rw [cntF.eq_2, cntF.eq_2]; simp [cntF_zero]
  | f + 1, c + 1, s, h, hs => by
      have hp : 2 ^ (c + 1) = 2 * 2 ^ c := by rw [Nat.pow_succ]; omega
      have ih := cntF_top f c (s / 2) (by omega) (by omega)
      rw [cntF.eq_2, cntF.eq_2]
      have e1 : (2 ^ (c + 1) + s) % 2 = s % 2 := by omega
      have e2 : (2 ^ (c + 1) + s) / 2 = 2 ^ c + s / 2 := by omega
      rw [e1, e2, ih]; omega
theorem cnt_top {c s : Nat} (h : c < 64) (hs : s < 2 ^ c) : cnt (2 ^ c + s) = 1 + cnt s := cntF_top 64 c s h hs
/-- trees one behind the other from a to b -/
def Lie : Nat → List (Nat × Nat) → Nat → Prop
  | a, [], b => a = b
  | a, p :: r, b => p.2 * 2 ^ p.1 = a ∧ Lie (a + 2 ^ p.1) r b
/-- falling levels, all below k -/
def Fall : Nat → List (Nat × Nat) → Prop
  | _, [] => True
  | k, p :: r => p.1 < k ∧ Fall p.1 r
theorem Lie.le : ∀ {l : List (Nat × Nat)} {a b : Nat}, Lie a l b → a ≤ b
  | [], _, _, h => Nat.le_of_eq h
  | p :: r, a, b, h => by have := Lie.le h.2; have := Nat.two_pow_pos p.1; omega
theorem coverL_lie : ∀ (f a n k : Nat), 2 ^ k ∣ a → n - a < 2 ^ k → a ≤ n → k ≤ f → k ≤ 64 → n < 2 ^ 64 →
    Lie a (coverL f a n) n ∧ (coverL f a n).length = cnt (n - a) ∧ Fall k (coverL f a n)
  | 0, a, n, k, hd, hr, ha, hk, h64, hn => by
      obtain rfl : k = 0 := by omega
      obtain rfl : a = n := by simp at hr; omega
      exact ⟨rfl, by rw [Nat.sub_self, cnt_zero]; rfl, trivial⟩
  | f + 1, a, n, k, hd, hr, ha, hk, h64, hn => by
      by_cases hlt : a < n
      · have hb1 := blen_lo (y := n - a) (by omega)
        have hb2 := blen_hi (n - a)
        have hb3 : blen (n - a) = (blen (n - a) - 1) + 1 := by rw [blen_pos (by omega)]; omega
        obtain ⟨c, hcc⟩ : ∃ c, blen (n - a) - 1 = c := ⟨_, rfl⟩
        rw [hb3, hcc, Nat.pow_succ] at hb2
        rw [hcc] at hb1
        have hck : c < k := (Nat.pow_lt_pow_iff_right (a := 2) (by decide)).1 (by omega)
        have hda : 2 ^ c ∣ a := Nat.dvd_trans (Nat.pow_dvd_pow 2 (by omega)) hd
        have hl : lvN a n = c := by
          unfold lvN
          split
          · rename_i h0
            have := tz_ge h0 (by omega) hd
            omega
          · exact hcc
        rw [coverL_step hlt, hl]
        have hda' : 2 ^ c ∣ a + 2 ^ c := (Nat.dvd_add_iff_right hda).1 (Nat.dvd_refl _)
        obtain ⟨i1, i2, i3⟩ := coverL_lie f (a + 2 ^ c) n c hda' (by omega) (by omega) (by omega) (by omega) hn
        refine ⟨⟨Nat.div_mul_cancel hda, i1⟩, ?_, hck, i3⟩
        rw [List.length_cons, i2]
        have := cnt_top (c := c) (s := n - (a + 2 ^ c)) (by omega) (by omega)
        rw [show 2 ^ c + (n - (a + 2 ^ c)) = n - a by omega] at this
        omega
      · obtain rfl : a = n := by omega
        rw [coverL_done (Nat.le_refl _)]
        exact ⟨rfl, by rw [Nat.sub_self, cnt_zero]; rfl, trivial⟩
theorem peaks_lie {n : Nat} (hn : n < 2 ^ 64) : Lie 0 (coverL 128 0 n) n ∧ (coverL 128 0 n).length = cnt n ∧ Fall 64 (coverL 128 0 n) :=
  coverL_lie 128 0 n 64 (Nat.dvd_zero _) (by omega) (by omega) (by omega) (by omega) hn
/-- the first of two peaks and more is the greatest power of two below the size -/
theorem peaks_first {n : Nat} (hn : n < 2 ^ 64) {p q : Nat × Nat} {r : List (Nat × Nat)} (h : coverL 128 0 n = p :: q :: r) : 2 ^ p.1 = blw n ∧ p.2 = 0 := by
  obtain ⟨h1, h2, h3⟩ := peaks_lie hn
  rw [h] at h1 h2 h3
  obtain ⟨a1, a2, a3⟩ := h1
  have hle := Lie.le a3
  have e1 := blen_lo (y := n) (by have := Nat.two_pow_pos p.1; have := Nat.two_pow_pos q.1; omega)
  have hp0 : p.2 = 0 := by
    have := Nat.two_pow_pos p.1
    rcases Nat.mul_eq_zero.1 a1 with h | h
    · exact h
    · omega
  have hpos := Nat.two_pow_pos q.1
  have hn0 : 0 < n := by have := Nat.two_pow_pos p.1; omega
  have hp1 : p.1 = blen n - 1 := by
    rw [coverL_step hn0] at h
    injection h with h _
    rw [← h]
    show lvN 0 n = _
    unfold lvN; simp
  have hhi := blen_hi n
  rw [show blen n = (blen n - 1) + 1 by rw [blen_pos hn0]; omega, ← hp1] at hhi
  refine ⟨(blw_eq (by omega) (by omega)).symm, hp0⟩
end Go.Proofs.YtdodfeoaioolnaaDoor

/- Plain facts: the stretches of a path, a proof, a batch proof lie in the log. No program in sight. -/
namespace Go.Proofs.YtdodfeoaioolnaaDoor
open Go.ChangeShapes Go.WideShapes Go.ChangeAt Go.RowKit
set_option linter.unusedVariables false
/-- stretches of a log of that size, none of them empty -/
def SpansIn (l : List (Int × Int)) (sz : Int) : Prop := ∀ p ∈ l, 0 ≤ p.1 ∧ p.1 < p.2 ∧ p.2 ≤ sz
theorem proofL_in : ∀ (f : Nat) (old b e : Int) (s : Int × Int), b < old → old ≤ e → e - b ≤ pow2 f → s ∈ proofL f old b e → b ≤ s.1 ∧ s.1 < s.2 ∧ s.2 ≤ e
  | 0, old, b, e, s, h1, h2, hp, h => by
      rw [pow2_zero] at hp
      rw [proofL] at h
      rw [if_pos (by omega)] at h
      by_cases q : 0 < b
      · rw [if_pos q] at h; simp at h; subst h; simp only; omega
      · rw [if_neg q] at h; simp at h
  | f + 1, old, b, e, s, h1, h2, hp, h => by
      rw [proofL] at h
      by_cases he : e = old
      · rw [if_pos he] at h
        by_cases q : 0 < b
        · rw [if_pos q] at h; simp at h; subst h; simp only; omega
        · rw [if_neg q] at h; simp at h
      · have hb := blwI_bd (n := e - b) (by omega)
        have hk := blwI_le_pow (n := e - b) (f := f) (by omega) hp
        rw [if_neg he] at h
        by_cases hx : old ≤ b + blwI (e - b)
        · rw [if_pos hx, List.mem_append] at h
          rcases h with h | h
          · have := proofL_in f old b _ s h1 hx (by omega) h; omega
          · simp at h; subst h; simp only; omega
        · rw [if_neg hx, List.mem_append] at h
          rcases h with h | h
          · have := proofL_in f old _ e s (by omega) h2 (by omega) h; omega
          · simp at h; subst h; simp only; omega
theorem batchL_span : ∀ (f : Nat) (x y b e : Int) (s : Int × Int), b < e → e - b ≤ pow2 f → s ∈ batchL f x y b e → b ≤ s.1 ∧ s.1 < s.2 ∧ s.2 ≤ e
  | 0, x, y, b, e, s, h1, hp, h => by
      by_cases ho : e ≤ x ∨ y ≤ b
      · rw [batchL_out ho] at h; simp at h; subst h; simp only; omega
      · rw [batchL, if_neg ho] at h; simp at h
  | f + 1, x, y, b, e, s, h1, hp, h => by
      by_cases ho : e ≤ x ∨ y ≤ b
      · rw [batchL_out ho] at h; simp at h; subst h; simp only; omega
      · by_cases hi : x ≤ b ∧ e ≤ y
        · rw [batchL_in ho hi] at h; simp at h
        · have hb := blwI_bd (n := e - b) (by omega)
          have hk := blwI_le_pow (n := e - b) (f := f) (by omega) hp
          rw [batchL_half ho hi, List.mem_append] at h
          rcases h with h | h
          · have := batchL_span f x y b _ s (by omega) (by omega) h; omega
          · have := batchL_span f x y _ e s (by omega) (by omega) h; omega
theorem path_spansIn (ix sz : Int) (h0 : 0 ≤ ix) (h1 : ix < sz) (h2 : sz ≤ 9223372036854775808) : SpansIn (pathL 64 ix 0 sz) sz := fun p hp => by
  have := pathL_in 64 ix 0 sz p h0 h1 (by rw [pow2_64]; omega) hp; omega
theorem proof_spansIn (ix sz : Int) (h0 : 0 < ix) (h1 : ix ≤ sz) (h2 : sz ≤ 9223372036854775808) : SpansIn (proofL 64 ix 0 sz) sz := fun p hp => by
  have := proofL_in 64 ix 0 sz p h0 h1 (by rw [pow2_64]; omega) hp; omega
theorem batch_spansIn (x y sz : Int) (h0 : 0 ≤ x) (h1 : x < y) (h3 : y ≤ sz) (h2 : sz ≤ 9223372036854775808) : SpansIn (batchL 64 x y 0 sz) sz := fun p hp => by
  have := batchL_span 64 x y 0 sz p (by omega) (by rw [pow2_64]; omega) hp; omega
end Go.Proofs.YtdodfeoaioolnaaDoor

/- Plain facts: stretches that halving comes to; their covers, folded, are their trees. No program in sight. -/
namespace Go.Proofs.YtdodfeoaioolnaaDoor
open Go.ChangeShapes Go.WideShapes Go.ChangeAt Go.RowKit
set_option linter.unusedVariables false
/-- a stretch that halving comes to -/
def Half (b e : Int) : Prop := 0 ≤ b ∧ b < e ∧ e ≤ 9223372036854775808 ∧ ∃ k : Nat, k ≤ 63 ∧ 2 ^ k ∣ b.toNat ∧ e - b ≤ pow2 k
/-- a whole tree's stretch -/
def Full (b e : Int) : Prop := 0 ≤ b ∧ e ≤ 9223372036854775808 ∧ ∃ k : Nat, k ≤ 63 ∧ 2 ^ k ∣ b.toNat ∧ e - b = pow2 k
theorem Full.half {b e : Int} (h : Full b e) : Half b e := by
  obtain ⟨h0, h1, k, h2, h3, h4⟩ := h
  have := pow2_pos k
  exact ⟨h0, by omega, h1, k, h2, h3, by omega⟩
theorem Half.root {n : Int} (h0 : 0 < n) (h1 : n ≤ 9223372036854775808) : Half 0 n := ⟨by omega, h0, h1, 63, by omega, by simp, by unfold pow2; omega⟩
theorem pow2_of_lt {a b : Nat} (h : pow2 a < pow2 b) : a < b := by
  rcases Nat.lt_or_ge a b with q | q
  · exact q
  · have := pow2_le q; omega
theorem blw_pow2 {n : Int} (h2 : 2 ≤ n) : ∃ j : Nat, blwI n = pow2 j ∧ (lgI n : Int) = j + 1 := by
  have hp := blwI_pow h2
  have hl := lgI_pos h2
  refine ⟨(lgI n - 1).toNat, ?_, by omega⟩
  rw [hp]; unfold pow2; simp
theorem dvd_next {a j : Nat} {p : Int} (hd : 2 ^ j ∣ a) : 2 ^ j ∣ ((a : Int) + pow2 j).toNat := by
  have : ((a : Int) + pow2 j).toNat = a + 2 ^ j := by unfold pow2; omega
  rw [this]
  exact (Nat.dvd_add_iff_right hd).1 (Nat.dvd_refl _)
theorem Half.left {b e : Int} (h : Half b e) (h2 : 2 ≤ e - b) : Full b (b + blwI (e - b)) := by
  obtain ⟨h0, h1, h3, k, h4, h5, h6⟩ := h
  have hb := blwI_bd h2
  obtain ⟨j, hj, _⟩ := blw_pow2 h2
  have hjk := pow2_of_lt (a := j) (b := k) (by omega)
  exact ⟨h0, by omega, j, by omega, Nat.dvd_trans (Nat.pow_dvd_pow 2 (by omega)) h5, by omega⟩
theorem Half.right {b e : Int} (h : Half b e) (h2 : 2 ≤ e - b) : Half (b + blwI (e - b)) e := by
  obtain ⟨h0, h1, h3, k, h4, h5, h6⟩ := h
  have hb := blwI_bd h2
  obtain ⟨j, hj, _⟩ := blw_pow2 h2
  have hjk := pow2_of_lt (a := j) (b := k) (by omega)
  have hd : 2 ^ j ∣ b.toNat := Nat.dvd_trans (Nat.pow_dvd_pow 2 (by omega)) h5
  refine ⟨by omega, by omega, h3, j, by omega, ?_, by omega⟩
  have := dvd_next (p := 0) hd
  rw [hj]
  rwa [Int.toNat_of_nonneg h0] at this
theorem Full.right {b e : Int} (h : Full b e) (h2 : 2 ≤ e - b) : Full (b + blwI (e - b)) e := by
  have hh := h.half.right h2
  have hb := blwI_bd h2
  obtain ⟨h0, h1, k, h3, h4, h5⟩ := h
  obtain ⟨_, _, _, _⟩ := hh
  obtain ⟨j, hj, _⟩ := blw_pow2 h2
  obtain ⟨k, rfl⟩ : ∃ i, k = i + 1 := by
    cases k with
    | zero => rw [pow2_zero] at h5; omega
    | succ i => exact ⟨i, rfl⟩
  have hs := pow2_succ k
  have hjk : j = k := by
    have h8 := pow2_of_lt (a := j) (b := k + 1) (by omega)
    rcases Nat.lt_or_ge j k with q | q
    · have := pow2_le (show j + 1 ≤ k by omega); have := pow2_succ j; omega
    · omega
  subst hjk
  have hd : 2 ^ j ∣ b.toNat := Nat.dvd_trans (Nat.pow_dvd_pow 2 (by omega)) h4
  refine ⟨by omega, h1, j, by omega, ?_, by omega⟩
  have := dvd_next (p := 0) hd
  rw [hj]
  rwa [Int.toNat_of_nonneg h0] at this
theorem path_half : ∀ (f : Nat) (ix b e : Int) (s : Int × Int), Half b e → b ≤ ix → ix < e → e - b ≤ pow2 f → s ∈ pathL f ix b e → Half s.1 s.2
  | 0, ix, b, e, s, hh, h1, h2, hp, h => by rw [pathL] at h; simp at h
  | f + 1, ix, b, e, s, hh, h1, h2, hp, h => by
      rw [pathL] at h
      by_cases h3 : e - b < 2
      · rw [if_pos h3] at h; simp at h
      · have hb := blwI_bd (n := e - b) (by omega)
        have hk := blwI_le_pow (n := e - b) (f := f) (by omega) hp
        have hl := (hh.left (by omega)).half
        have hr := hh.right (by omega)
        rw [if_neg h3] at h
        by_cases hx : ix < b + blwI (e - b)
        · rw [if_pos hx, List.mem_append] at h
          rcases h with h | h
          · exact path_half f ix b _ s hl h1 hx (by omega) h
          · simp at h; subst h; exact hr
        · rw [if_neg hx, List.mem_append] at h
          rcases h with h | h
          · exact path_half f ix _ e s hr (by omega) h2 (by omega) h
          · simp at h; subst h; exact hl
theorem proof_half : ∀ (f : Nat) (old b e : Int) (s : Int × Int), Half b e → b < old → old ≤ e → e - b ≤ pow2 f → s ∈ proofL f old b e → Half s.1 s.2
  | 0, old, b, e, s, hh, h1, h2, hp, h => by
      rw [proofL] at h
      split at h
      · split at h
        · simp at h; subst h; exact hh
        · simp at h
      · simp at h
  | f + 1, old, b, e, s, hh, h1, h2, hp, h => by
      rw [proofL] at h
      by_cases he : e = old
      · rw [if_pos he] at h
        split at h
        · simp at h; subst h; exact hh
        · simp at h
      · have hb := blwI_bd (n := e - b) (by omega)
        have hk := blwI_le_pow (n := e - b) (f := f) (by omega) hp
        have hl := (hh.left (by omega)).half
        have hr := hh.right (by omega)
        rw [if_neg he] at h
        by_cases hx : old ≤ b + blwI (e - b)
        · rw [if_pos hx, List.mem_append] at h
          rcases h with h | h
          · exact proof_half f old b _ s hl h1 hx (by omega) h
          · simp at h; subst h; exact hr
        · rw [if_neg hx, List.mem_append] at h
          rcases h with h | h
          · exact proof_half f old _ e s hr (by omega) h2 (by omega) h
          · simp at h; subst h; exact hl
theorem batch_half : ∀ (f : Nat) (x y b e : Int) (s : Int × Int), Half b e → e - b ≤ pow2 f → s ∈ batchL f x y b e → Half s.1 s.2
  | 0, x, y, b, e, s, hh, hp, h => by
      rw [batchL] at h
      split at h
      · simp at h; subst h; exact hh
      · simp at h
  | f + 1, x, y, b, e, s, hh, hp, h => by
      by_cases ho : e ≤ x ∨ y ≤ b
      · rw [batchL_out ho] at h; simp at h; subst h; exact hh
      · by_cases hi : x ≤ b ∧ e ≤ y
        · rw [batchL_in ho hi] at h; simp at h
        · have h12 := hh.2.1
          have hb := blwI_bd (n := e - b) (by omega)
          have hk := blwI_le_pow (n := e - b) (f := f) (by omega) hp
          rw [batchL_half ho hi, List.mem_append] at h
          rcases h with h | h
          · exact batch_half f x y b _ s (hh.left (by omega)).half (by omega) h
          · exact batch_half f x y _ e s (hh.right (by omega)) (by omega) h
/-- the trees that a stretch is -/
def coverS (p : Int × Int) : List (Nat × Nat) := coverL 128 p.1.toNat p.2.toNat
/-- the leaves of a tree -/
def spanOf (c : Nat × Nat) : Int × Int := (((c.2 * 2 ^ c.1 : Nat) : Int), (((c.2 + 1) * 2 ^ c.1 : Nat) : Int))
theorem cover_full {b e : Int} (h : Full b e) : ∃ k, coverS (b, e) = [(k, b.toNat / 2 ^ k)] ∧ k ≤ 63 ∧ 2 ^ k ∣ b.toNat ∧ e - b = pow2 k := by
  obtain ⟨h0, h1, k, h2, h3, h4⟩ := h
  have hp : e.toNat = b.toNat + 2 ^ k := by unfold pow2 at h4; omega
  have hlt : b.toNat < e.toNat := by have := Nat.two_pow_pos k; omega
  have hbl : blen (e.toNat - b.toNat) = k + 1 := blen_eq (by omega) (by rw [Nat.pow_succ]; have := Nat.two_pow_pos k; omega)
  have hl : lvN b.toNat e.toNat = k := by
    unfold lvN
    rw [hbl]
    split
    · rename_i h0'
      have := tz_ge h0' (by omega) h3
      omega
    · omega
  refine ⟨k, ?_, h2, h3, h4⟩
  unfold coverS
  rw [coverL_step hlt, hl, coverL_done (by omega)]
theorem cover_lie {b e : Int} (h : Half b e) : Lie b.toNat (coverS (b, e)) e.toNat ∧ Fall 64 (coverS (b, e)) ∧ coverS (b, e) ≠ [] ∧ (coverS (b, e)).length = cnt (e - b).toNat := by
  obtain ⟨h0, h1, h2, k, h3, h4, h5⟩ := h
  by_cases hf : e - b = pow2 k
  · obtain ⟨j, hj, hj1, hj2, hj3⟩ := cover_full (b := b) (e := e) ⟨h0, h2, k, h3, h4, hf⟩
    have he : e.toNat = b.toNat + 2 ^ j := by unfold pow2 at hj3; omega
    rw [hj]
    refine ⟨⟨Nat.div_mul_cancel hj2, ?_⟩, ⟨by simp only; omega, trivial⟩, by simp, ?_⟩
    · show b.toNat + 2 ^ j = e.toNat; omega
    · have : (e - b).toNat = 2 ^ j := by unfold pow2 at hj3; omega
      rw [this, cnt_pow (by omega)]; rfl
  · have := coverL_lie 128 b.toNat e.toNat k h4 (by unfold pow2 at h5 hf; omega) (by omega) (by omega) (by omega) (by omega)
    obtain ⟨i1, i2, i3⟩ := this
    refine ⟨i1, ?_, ?_, ?_⟩
    · have hw : ∀ (l : List (Nat × Nat)) (a b : Nat), a ≤ b → Fall a l → Fall b l := fun l a b hab h => by
        cases l with
        | nil => trivial
        | cons p r => exact ⟨Nat.lt_of_lt_of_le h.1 hab, h.2⟩
      exact hw _ _ _ (by omega) i3
    · intro q
      rw [show coverL 128 b.toNat e.toNat = coverS (b, e) from rfl, q] at i1
      have : b.toNat = e.toNat := i1
      omega
    · rw [show coverS (b, e) = coverL 128 b.toNat e.toNat from rfl, i2, show e.toNat - b.toNat = (e - b).toNat by omega]
section
variable {α : Type} (node : α → α → α)
/-- folded from the right -/
def foldR (d : α) : List α → α
  | [] => d
  | [h] => h
  | h :: x :: r => node h (foldR d (x :: r))
theorem Lie.size {k : Nat} : ∀ {l : List (Nat × Nat)} {a b k : Nat}, Lie a l b → Fall k l → b < a + 2 ^ k
  | [], a, b, k, h, _ => by have := Nat.two_pow_pos k; have : a = b := h; omega
  | p :: r, a, b, k, h, hf => by
      have := Lie.size (k := 0) h.2 hf.2
      have h2 : 2 ^ (p.1 + 1) ≤ 2 ^ k := Nat.pow_le_pow_right (by omega) hf.1
      rw [Nat.pow_succ] at h2
      omega
theorem fold_lie (d : α) (g : Int → α) : ∀ (l : List (Nat × Nat)) (a e k : Nat), Lie a l e → Fall k l → l ≠ [] → e ≤ 9223372036854775808 →
    foldR node d (l.map fun c => treeT node g (spanOf c).1 (spanOf c).2) = treeT node g a e
  | [], _, _, _, _, _, h, _ => absurd rfl h
  | [p], a, e, k, h, _, _, _ => by
      have h1 := h.1
      have h2 : a + 2 ^ p.1 = e := h.2
      simp only [List.map_cons, List.map_nil, foldR, spanOf, Nat.add_mul, Nat.one_mul]
      rw [h1, h2]
  | p :: q :: r, a, e, k, h, hf, _, he => by
      have h1 := h.1
      have h2 : Lie (a + 2 ^ p.1) (q :: r) e := h.2
      have ih := fold_lie d g (q :: r) (a + 2 ^ p.1) e p.1 h2 hf.2 (by simp) he
      have hs := Lie.size (k := 0) h2 hf.2
      have hl := Lie.le h2.2
      have hq := Nat.two_pow_pos q.1
      have hp := Nat.two_pow_pos p.1
      simp only [List.map_cons, foldR] at ih ⊢
      rw [ih]
      have hb : blwI ((e : Int) - a) = ((2 ^ p.1 : Nat) : Int) := by
        have := blw_eq (n := e - a) (e := p.1) (by omega) (by rw [Nat.pow_succ]; omega)
        unfold blwI
        rw [show ((e : Int) - a).toNat = e - a by omega, this]
      rw [treeT_node node g a e (by omega) (by rw [pow2_64]; omega), hb]
      simp only [spanOf, Nat.add_mul, Nat.one_mul]
      rw [h1]
      congr 1
theorem fold_cover (d : α) (g : Int → α) {b e : Int} (h : Half b e) : foldR node d ((coverS (b, e)).map fun c => treeT node g (spanOf c).1 (spanOf c).2) = treeT node g b e := by
  obtain ⟨h1, h2, h3, _⟩ := cover_lie h
  have := fold_lie node d g _ _ _ _ h1 h2 h3 (by have := h.2.2.1; omega)
  rw [this, Int.toNat_of_nonneg h.1, Int.toNat_of_nonneg (by have := h.1; have := h.2.1; omega)]
end

theorem blen_mono {a b : Nat} (h : a ≤ b) : blen a ≤ blen b := blen_le (Nat.lt_of_le_of_lt h (blen_hi b))
theorem lgI_mono {a b : Int} (h : a ≤ b) : lgI a ≤ lgI b := by
  have := blen_mono (show a.toNat - 1 ≤ b.toNat - 1 by omega)
  unfold lgI lg; omega
theorem pathL_log : ∀ (f : Nat) (ix b e : Int), b < e → e - b ≤ pow2 f → ((pathL f ix b e).length : Int) ≤ lgI (e - b)
  | 0, ix, b, e, h, hp => by
      have : (0 : Int) ≤ lgI (e - b) := by unfold lgI; omega
      simpa [pathL] using this
  | f + 1, ix, b, e, h, hp => by
      have h0 : (0 : Int) ≤ lgI (e - b) := by unfold lgI; omega
      rw [pathL]
      by_cases h2 : e - b < 2
      · rw [if_pos h2]; simpa using h0
      · have hk := blwI_bd (n := e - b) (by omega)
        have hkf := blwI_le_pow (n := e - b) (f := f) (by omega) hp
        have hl := lgI_blwI (n := e - b) (by omega)
        rw [if_neg h2]
        by_cases h3 : ix < b + blwI (e - b)
        · have ih := pathL_log f ix b (b + blwI (e - b)) (by omega) (by omega)
          rw [show b + blwI (e - b) - b = blwI (e - b) by omega] at ih
          rw [if_pos h3, List.length_append]; simp; omega
        · have ih := pathL_log f ix (b + blwI (e - b)) e (by omega) (by omega)
          have hm := lgI_mono (show e - (b + blwI (e - b)) ≤ blwI (e - b) by omega)
          rw [if_neg h3, List.length_append]; simp; omega

theorem proofL_log : ∀ (f : Nat) (old b e : Int), b < old → old ≤ e → e - b ≤ pow2 f → ((proofL f old b e).length : Int) ≤ lgI (e - b) + 1
  | 0, old, b, e, h, h1, hp => by
      have : (0 : Int) ≤ lgI (e - b) := by unfold lgI; omega
      unfold proofL; split <;> (try split) <;> simp <;> omega
  | f + 1, old, b, e, h, h1, hp => by
      have h0 : (0 : Int) ≤ lgI (e - b) := by unfold lgI; omega
      rw [proofL]
      by_cases h2 : e = old
      · rw [if_pos h2]; split <;> simp <;> omega
      · have hk := blwI_bd (n := e - b) (by omega)
        have hkf := blwI_le_pow (n := e - b) (f := f) (by omega) hp
        have hl := lgI_blwI (n := e - b) (by omega)
        rw [if_neg h2]
        by_cases h3 : old ≤ b + blwI (e - b)
        · have ih := proofL_log f old b (b + blwI (e - b)) h (by omega) (by omega)
          rw [show b + blwI (e - b) - b = blwI (e - b) by omega] at ih
          rw [if_pos h3, List.length_append]; simp; omega
        · have ih := proofL_log f old (b + blwI (e - b)) e (by omega) h1 (by omega)
          have hm := lgI_mono (show e - (b + blwI (e - b)) ≤ blwI (e - b) by omega)
          rw [if_neg h3, List.length_append]; simp; omega

/-- so many trees -/
def treesN (l : List (Int × Int)) : Nat := (l.map fun p => (coverS p).length).sum
theorem treesN_append (l m : List (Int × Int)) : treesN (l ++ m) = treesN l + treesN m := by simp [treesN]
theorem treesN_one (p : Int × Int) : treesN [p] = (coverS p).length := by simp [treesN]
theorem cntF_le_blen : ∀ (f n k : Nat), n < 2 ^ k → cntF f n ≤ k
  | 0, n, k, h => by simp [cntF]
  | f + 1, n, 0, h => by have : n = 0 := by simpa using h
                         subst this; rw [cntF_zero]; omega
  | f + 1, n, k + 1, h => by
      rw [Nat.pow_succ] at h
      have := cntF_le_blen f (n / 2) k (by omega)
      rw [cntF.eq_2]; omega
theorem cover_few {b e : Int} (h : Half b e) : ((coverS (b, e)).length : Int) ≤ max 1 (lgI (e - b)) := by
  obtain ⟨_, _, _, hl⟩ := cover_lie h
  obtain ⟨h0, h1, h2, _⟩ := h
  rw [hl]
  obtain ⟨n, hn⟩ : ∃ n, (e - b).toNat = n := ⟨_, rfl⟩
  have hn0 : 0 < n := by omega
  unfold lgI lg
  rw [hn]
  by_cases h8 : n < 2 ^ blen (n - 1)
  · have := cntF_le_blen 64 n _ h8
    have e : cnt n = cntF 64 n := rfl
    omega
  · have h9 := blen_hi (n - 1)
    have e : n = 2 ^ blen (n - 1) := by omega
    have h10 : blen (n - 1) < 64 := by
      rcases Nat.lt_or_ge (blen (n - 1)) 64 with q | q
      · exact q
      · have := Nat.pow_le_pow_right (n := 2) (by decide) q
        have e64 : 2 ^ 64 = 18446744073709551616 := rfl
        omega
    have : cnt n = 1 := by rw [e]; exact cnt_pow h10
    omega
theorem treesN_full : ∀ (l : List (Int × Int)), (∀ p ∈ l, Full p.1 p.2) → treesN l = l.length
  | [], _ => rfl
  | p :: r, h => by
      obtain ⟨k, hk, _⟩ := cover_full (h p (by simp))
      have := treesN_full r (fun q hq => h q (by simp [hq]))
      have hk' : coverS p = [(k, p.1.toNat / 2 ^ k)] := hk
      unfold treesN at this ⊢
      simp [hk']; omega
theorem path_full : ∀ (f : Nat) (ix b e : Int) (s : Int × Int), Full b e → b ≤ ix → ix < e → e - b ≤ pow2 f → s ∈ pathL f ix b e → Full s.1 s.2
  | 0, ix, b, e, s, hh, h1, h2, hp, h => by rw [pathL] at h; simp at h
  | f + 1, ix, b, e, s, hh, h1, h2, hp, h => by
      rw [pathL] at h
      by_cases h3 : e - b < 2
      · rw [if_pos h3] at h; simp at h
      · have hb := blwI_bd (n := e - b) (by omega)
        have hk := blwI_le_pow (n := e - b) (f := f) (by omega) hp
        have hl := (hh.half.left (by omega))
        have hr := hh.right (by omega)
        rw [if_neg h3] at h
        by_cases hx : ix < b + blwI (e - b)
        · rw [if_pos hx, List.mem_append] at h
          rcases h with h | h
          · exact path_full f ix b _ s hl h1 hx (by omega) h
          · simp at h; subst h; exact hr
        · rw [if_neg hx, List.mem_append] at h
          rcases h with h | h
          · exact path_full f ix _ e s hr (by omega) h2 (by omega) h
          · simp at h; subst h; exact hl
theorem proof_full : ∀ (f : Nat) (old b e : Int) (s : Int × Int), Full b e → b < old → old ≤ e → e - b ≤ pow2 f → s ∈ proofL f old b e → Full s.1 s.2
  | 0, old, b, e, s, hh, h1, h2, hp, h => by
      rw [proofL] at h
      split at h
      · split at h
        · simp at h; subst h; exact hh
        · simp at h
      · simp at h
  | f + 1, old, b, e, s, hh, h1, h2, hp, h => by
      rw [proofL] at h
      by_cases he : e = old
      · rw [if_pos he] at h
        split at h
        · simp at h; subst h; exact hh
        · simp at h
      · have hb := blwI_bd (n := e - b) (by omega)
        have hk := blwI_le_pow (n := e - b) (f := f) (by omega) hp
        have hl := (hh.half.left (by omega))
        have hr := hh.right (by omega)
        rw [if_neg he] at h
        by_cases hx : old ≤ b + blwI (e - b)
        · rw [if_pos hx, List.mem_append] at h
          rcases h with h | h
          · exact proof_full f old b _ s hl h1 hx (by omega) h
          · simp at h; subst h; exact hr
        · rw [if_neg hx, List.mem_append] at h
          rcases h with h | h
          · exact proof_full f old _ e s hr (by omega) h2 (by omega) h
          · simp at h; subst h; exact hl
theorem path_few : ∀ (f : Nat) (ix b e : Int), Half b e → b ≤ ix → ix < e → e - b ≤ pow2 f → (treesN (pathL f ix b e) : Int) ≤ 2 * lgI (e - b)
  | 0, ix, b, e, hh, h1, h2, hp => by
      have h0 : (0 : Int) ≤ lgI (e - b) := by unfold lgI; omega
      rw [pathL]; simp [treesN]; omega
  | f + 1, ix, b, e, hh, h1, h2, hp => by
      have h0 : (0 : Int) ≤ lgI (e - b) := by unfold lgI; omega
      rw [pathL]
      by_cases h3 : e - b < 2
      · rw [if_pos h3]; simp [treesN]; omega
      · have hb := blwI_bd (n := e - b) (by omega)
        have hk := blwI_le_pow (n := e - b) (f := f) (by omega) hp
        have hlg := lgI_blwI (n := e - b) (by omega)
        have hl := hh.left (by omega)
        have hr := hh.right (by omega)
        have hlp := lgI_pos (n := e - b) (by omega)
        have hm := lgI_mono (show e - (b + blwI (e - b)) ≤ blwI (e - b) by omega)
        rw [if_neg h3]
        by_cases hx : ix < b + blwI (e - b)
        · have i1 := treesN_full (pathL f ix b (b + blwI (e - b))) (fun p hp' => path_full f ix b _ p hl h1 hx (by omega) hp')
          have i2 := pathL_log f ix b (b + blwI (e - b)) (by omega) (by omega)
          have i3 := cover_few hr
          rw [show b + blwI (e - b) - b = blwI (e - b) by omega] at i2
          rw [if_pos hx, treesN_append, treesN_one]
          omega
        · have i1 := path_few f ix (b + blwI (e - b)) e hr (by omega) h2 (by omega)
          obtain ⟨k, hk', _⟩ := cover_full hl
          have i3 : (coverS (b, b + blwI (e - b))).length = 1 := by rw [hk']; rfl
          rw [if_neg hx, treesN_append, treesN_one]
          omega
theorem proof_few : ∀ (f : Nat) (old b e : Int), Half b e → b < old → old ≤ e → e - b ≤ pow2 f → (treesN (proofL f old b e) : Int) ≤ 2 * lgI (e - b) + 1
  | f, old, b, e, hh, h1, h2, hp => by
      have h0 : (0 : Int) ≤ lgI (e - b) := by unfold lgI; omega
      by_cases he : e = old
      · subst he
        rw [proofL_end]
        have i3 := cover_few hh
        split
        · rw [treesN_one]; omega
        · simp [treesN]; omega
      · cases f with
        | zero => rw [pow2_zero] at hp; omega
        | succ f =>
          have hb := blwI_bd (n := e - b) (by omega)
          have hk := blwI_le_pow (n := e - b) (f := f) (by omega) hp
          have hlg := lgI_blwI (n := e - b) (by omega)
          have hl := hh.left (by omega)
          have hr := hh.right (by omega)
          have hlp := lgI_pos (n := e - b) (by omega)
          have hm := lgI_mono (show e - (b + blwI (e - b)) ≤ blwI (e - b) by omega)
          rw [proofL, if_neg he]
          by_cases hx : old ≤ b + blwI (e - b)
          · have i1 := treesN_full (proofL f old b (b + blwI (e - b))) (fun p hp' => proof_full f old b _ p hl h1 hx (by omega) hp')
            have i2 := proofL_log f old b (b + blwI (e - b)) h1 hx (by omega)
            have i3 := cover_few hr
            rw [show b + blwI (e - b) - b = blwI (e - b) by omega] at i2
            rw [if_pos hx, treesN_append, treesN_one]
            omega
          · have i1 := proof_few f old (b + blwI (e - b)) e hr (by omega) h2 (by omega)
            obtain ⟨k, hk', _⟩ := cover_full hl
            have i3 : (coverS (b, b + blwI (e - b))).length = 1 := by rw [hk']; rfl
            rw [if_neg hx, treesN_append, treesN_one]
            omega
end Go.Proofs.YtdodfeoaioolnaaDoor

/- Plain facts: the tiles that trees stand in, each once. No program in sight. -/
namespace Go.Proofs.YtdodfeoaioolnaaDoor
open Go.ChangeShapes Go.WideShapes Go.ChangeAt Go.RowKit
set_option linter.unusedVariables false
theorem Lie.mem : ∀ {l : List (Nat × Nat)} {a b : Nat}, Lie a l b → ∀ c ∈ l, a ≤ c.2 * 2 ^ c.1 ∧ (c.2 + 1) * 2 ^ c.1 ≤ b
  | [], _, _, _, c, hc => by simp at hc
  | p :: r, a, b, h, c, hc => by
      have h1 := h.1
      have hl := Lie.le h.2
      rcases List.mem_cons.1 hc with rfl | hc
      · rw [Nat.add_mul, Nat.one_mul]; omega
      · have := Lie.mem h.2 c hc
        have := Nat.two_pow_pos p.1
        omega
theorem Fall.mem : ∀ {l : List (Nat × Nat)} {k : Nat}, Fall k l → ∀ c ∈ l, c.1 < k
  | [], _, _, c, hc => by simp at hc
  | p :: r, k, h, c, hc => by
      rcases List.mem_cons.1 hc with rfl | hc
      · exact h.1
      · have := Fall.mem h.2 c hc
        have := h.1
        omega
/-- a tree that lies in a log of so many leaves -/
def InLog (size : Nat) (c : Nat × Nat) : Prop := c.1 ≤ 63 ∧ (c.2 + 1) * 2 ^ c.1 ≤ size
theorem cover_in {b e : Int} (h : Half b e) {size : Nat} (he : e ≤ size) : ∀ c ∈ coverS (b, e), InLog size c := fun c hc => by
  obtain ⟨h1, h2, _, _⟩ := cover_lie h
  have := Lie.mem h1 c hc
  have := Fall.mem h2 c hc
  exact ⟨by omega, by omega⟩
/-- where a tree's hashes stand: the tile's level and number, the place in it, how many -/
def tlev (c : Nat × Nat) : Nat := c.1 / 8
def tidx (c : Nat × Nat) : Nat := c.2 * 2 ^ (c.1 % 8) / 256
def tat (c : Nat × Nat) : Nat := c.2 * 2 ^ (c.1 % 8) % 256
def tcnt (c : Nat × Nat) : Nat := 2 ^ (c.1 % 8)
/-- how wide a tile is in a log of so many leaves -/
def wideN (size L I : Nat) : Nat := min (size / 2 ^ (8 * L) - I * 256) 256
def tileT (size : Nat) (c : Nat × Nat) : Nat × Nat × Nat := (tlev c, tidx c, wideN size (tlev c) (tidx c))
theorem in_nodes {size : Nat} {c : Nat × Nat} (h : InLog size c) : (c.2 + 1) * 2 ^ (c.1 % 8) ≤ size / 2 ^ (8 * tlev c) := by
  rw [Nat.le_div_iff_mul_le (Nat.two_pow_pos _), Nat.mul_assoc, ← Nat.pow_add]
  have : c.1 % 8 + 8 * tlev c = c.1 := by unfold tlev; omega
  rw [this]; exact h.2
theorem tcnt_bd (c : Nat × Nat) : 1 ≤ tcnt c ∧ tcnt c ≤ 128 := by
  unfold tcnt
  refine ⟨Nat.two_pow_pos _, ?_⟩
  exact Nat.pow_le_pow_right (n := 2) (by omega) (show c.1 % 8 ≤ 7 by omega)
theorem tat_room (c : Nat × Nat) : tat c + tcnt c ≤ 256 := by
  unfold tat tcnt
  obtain ⟨d, hd⟩ : ∃ d, 256 = 2 ^ (c.1 % 8) * d := ⟨2 ^ (8 - c.1 % 8), by rw [← Nat.pow_add, show c.1 % 8 + (8 - c.1 % 8) = 8 by omega]⟩
  rw [hd, Nat.mul_comm c.2, Nat.mul_mod_mul_left]
  have hd0 : 0 < d := by rcases Nat.eq_zero_or_pos d with q | q; · subst q; simp at hd
                         · exact q
  have := Nat.mod_lt c.2 hd0
  calc 2 ^ (c.1 % 8) * (c.2 % d) + 2 ^ (c.1 % 8) = 2 ^ (c.1 % 8) * (c.2 % d + 1) := by rw [Nat.mul_add, Nat.mul_one]
    _ ≤ 2 ^ (c.1 % 8) * d := Nat.mul_le_mul_left _ (by omega)
theorem tile_in {size : Nat} {c : Nat × Nat} (h : InLog size c) : tidx c * 256 + tat c + tcnt c ≤ size / 2 ^ (8 * tlev c) ∧ tidx c * 256 < size / 2 ^ (8 * tlev c) ∧ tidx c ≤ size / 2 ^ (8 * tlev c) / 256 := by
  have h1 := in_nodes h
  have h2 := tcnt_bd c
  have e : tidx c * 256 + tat c = c.2 * 2 ^ (c.1 % 8) := by unfold tidx tat; omega
  rw [Nat.add_mul, Nat.one_mul] at h1
  have e2 : tcnt c = 2 ^ (c.1 % 8) := rfl
  refine ⟨by omega, by omega, ?_⟩
  omega
theorem tile_room {size : Nat} {c : Nat × Nat} (h : InLog size c) : tat c + tcnt c ≤ wideN size (tlev c) (tidx c) := by
  have := tile_in h
  have := tat_room c
  unfold wideN
  omega
/-- the tiles of trees, each once, in the order in which they are met -/
def tilesF (size : Nat) : List (Nat × Nat) → List (Nat × Nat × Nat) → List (Nat × Nat × Nat)
  | [], out => out
  | c :: r, out => tilesF size r (if tileT size c ∈ out then out else out ++ [tileT size c])
theorem tilesF_append (size : Nat) : ∀ (l m : List (Nat × Nat)) (out : List (Nat × Nat × Nat)), tilesF size (l ++ m) out = tilesF size m (tilesF size l out)
  | [], _, _ => rfl
  | c :: r, m, out => by simp only [List.cons_append, tilesF]; exact tilesF_append size r m _
theorem tilesF_len (size : Nat) : ∀ (l : List (Nat × Nat)) (out : List (Nat × Nat × Nat)), (tilesF size l out).length ≤ out.length + l.length
  | [], out => by simp [tilesF]
  | c :: r, out => by
      have := tilesF_len size r (if tileT size c ∈ out then out else out ++ [tileT size c])
      rw [tilesF]
      split at this <;> simp at this ⊢ <;> rename_i h <;> simp [h] at * <;> omega
theorem tilesF_mem (size : Nat) : ∀ (l : List (Nat × Nat)) (out : List (Nat × Nat × Nat)) (t : Nat × Nat × Nat), t ∈ tilesF size l out ↔ t ∈ out ∨ ∃ c ∈ l, tileT size c = t
  | [], out, t => by simp [tilesF]
  | c :: r, out, t => by
      rw [tilesF, tilesF_mem size r]
      by_cases h : tileT size c ∈ out
      · rw [if_pos h]
        constructor
        · rintro (q | ⟨d, q, rfl⟩)
          · exact .inl q
          · exact .inr ⟨d, by simp [q], rfl⟩
        · rintro (q | ⟨d, q, rfl⟩)
          · exact .inl q
          · rcases List.mem_cons.1 q with rfl | q
            · exact .inl h
            · exact .inr ⟨d, q, rfl⟩
      · rw [if_neg h]
        constructor
        · rintro (q | ⟨d, q, rfl⟩)
          · rcases List.mem_append.1 q with q | q
            · exact .inl q
            · simp at q; exact .inr ⟨c, by simp, q.symm⟩
          · exact .inr ⟨d, by simp [q], rfl⟩
        · rintro (q | ⟨d, q, rfl⟩)
          · exact .inl (List.mem_append.2 (.inl q))
          · rcases List.mem_cons.1 q with rfl | q
            · exact .inl (by simp)
            · exact .inr ⟨d, q, rfl⟩
theorem tilesF_nodup (size : Nat) : ∀ (l : List (Nat × Nat)) (out : List (Nat × Nat × Nat)), out.Nodup → (tilesF size l out).Nodup
  | [], out, h => h
  | c :: r, out, h => by
      rw [tilesF]
      refine tilesF_nodup size r _ ?_
      by_cases q : tileT size c ∈ out
      · rw [if_pos q]; exact h
      · rw [if_neg q]
        refine List.nodup_append.2 ⟨h, by simp, ?_⟩
        intro a ha b hb e
        simp at hb
        subst hb; subst e
        exact q ha
def tileCells (l : List (Nat × Nat × Nat)) : List Value := l.flatMap fun t => [.int .u8 (t.1 : Int), .int .u64 (t.2.1 : Int), .int .i64 (t.2.2 : Int)]
theorem tileCells_append (a b : List (Nat × Nat × Nat)) : tileCells (a ++ b) = tileCells a ++ tileCells b := by simp [tileCells]
theorem tileCells_len : ∀ (l : List (Nat × Nat × Nat)), (tileCells l).length = l.length * 3
  | [] => rfl
  | x :: r => by
      have := tileCells_len r
      unfold tileCells at this ⊢
      simp at this ⊢; omega
theorem tileCells_at : ∀ (l : List (Nat × Nat × Nat)) (i : Nat) (p : Nat × Nat × Nat), l[i]? = some p → (tileCells l)[i * 3]? = some (.int .u8 (p.1 : Int)) ∧ (tileCells l)[i * 3 + 1]? = some (.int .u64 (p.2.1 : Int)) ∧ (tileCells l)[i * 3 + 2]? = some (.int .i64 (p.2.2 : Int))
  | [], i, p, h => by simp at h
  | x :: r, 0, p, h => by simp at h; subst h; exact ⟨rfl, rfl, rfl⟩
  | x :: r, i + 1, p, h => by
      have := tileCells_at r i p (by simpa using h)
      have e : tileCells (x :: r) = .int .u8 (x.1 : Int) :: .int .u64 (x.2.1 : Int) :: .int .i64 (x.2.2 : Int) :: tileCells r := rfl
      rw [e, Nat.add_mul]; simpa using this
theorem flat_len (l : List (Int × Int)) : ((l.map coverS).flatten).length = treesN l := by simp [treesN, List.length_flatten, List.map_map, Function.comp_def]
end Go.Proofs.YtdodfeoaioolnaaDoor

/- Lists of parts in memory: each part's trees in a row of their own. No program in sight but its types. -/
namespace Go.Proofs.YtdodfeoaioolnaaDoor
open Go.ChangeShapes Go.WideShapes Go.ChangeAt Go.RowKit
set_option linter.unusedVariables false
/-- the parts' slices vs own their trees, in rows of their own -/
structure PHold (base : Nat) (w : World) (vs : List Value) (ps : List (List (Nat × Nat))) : Prop where
  len : vs.length = ps.length
  own : ∀ (i : Nat) (v : Value) (p : List (Nat × Nat)), vs[i]? = some v → ps[i]? = some p → w.ownsRow base 80 2 v p.length (coordCells p)
  apart : ∀ (i j g : Nat) (vi vj : Value), i < j → vs[i]? = some vi → vs[j]? = some vj → vi.ownBlock = some g → vj.ownBlock ≠ some g
theorem PHold.nil (base : Nat) (w : World) : PHold base w [] [] := ⟨rfl, fun i v p h => by simp at h, fun i j g vi vj _ h => by simp at h⟩
theorem PHold.below {base : Nat} {w w' : World} {vs : List Value} {ps : List (List (Nat × Nat))} (h : PHold base w vs ps) (hb : Below w.heap.size w w') : PHold base w' vs ps :=
  ⟨h.len, fun i v p hv hp => own_below (h.own i v p hv hp) hb (Nat.le_refl _), h.apart⟩
theorem PHold.at {base : Nat} {w : World} {vs : List Value} {ps : List (List (Nat × Nat))} (h : PHold base w vs ps) {i : Nat} {v : Value} (hv : vs[i]? = some v) : ∃ p, ps[i]? = some p ∧ w.ownsRow base 80 2 v p.length (coordCells p) := by
  have hi : i < vs.length := (List.getElem?_eq_some_iff.1 hv).1
  have := h.len
  exact ⟨ps[i]'(by omega), List.getElem?_eq_getElem _, h.own i v _ hv (List.getElem?_eq_getElem _)⟩
theorem PHold.lt {base : Nat} {w : World} {vs : List Value} {ps : List (List (Nat × Nat))} (h : PHold base w vs ps) {v : Value} (hv : v ∈ vs) {g : Nat} (hg : v.ownBlock = some g) : base ≤ g ∧ g < w.heap.size := by
  obtain ⟨i, hi, e⟩ := List.getElem_of_mem hv
  obtain ⟨p, _, ho⟩ := h.at (i := i) (v := v) (by rw [List.getElem?_eq_getElem hi, e])
  exact ho.lt g hg
/-- a part more; the world has grown but for a block that none of the parts' rows is -/
theorem PHold.snoc {base : Nat} {w w1 w2 : World} {vs : List Value} {ps : List (List (Nat × Nat))} {v : Value} {p : List (Nat × Nat)} {row : Option Nat} (h : PHold base w vs ps) (hb : Below w.heap.size w w1)
    (hv : w1.ownsRow w.heap.size 80 2 v p.length (coordCells p)) (hbase : base ≤ w.heap.size) (hg : w1.grownBy w2 row) (hr : ∀ u ∈ vs, ∀ g, u.ownBlock = some g → row ≠ some g) (hrv : ∀ g, v.ownBlock = some g → row ≠ some g) : PHold base w2 (vs ++ [v]) (ps ++ [p]) := by
  have h1 := h.below hb
  have hk : ∀ (u : Value) (m : Nat) (xs : List Value), w1.ownsRow base 80 2 u m xs → (∀ g, u.ownBlock = some g → row ≠ some g) → w2.ownsRow base 80 2 u m xs := fun u m xs hu hne => hu.kept hg (by
    cases e : u.ownBlock with
    | none => exact .inl rfl
    | some g => exact .inr (fun q => hne g e q.symm))
  refine ⟨by simp [h.len], ?_, ?_⟩
  · intro i u q hu hq
    by_cases hi : i < vs.length
    · rw [List.getElem?_append_left hi] at hu
      rw [List.getElem?_append_left (by rw [← h.len]; exact hi)] at hq
      exact hk _ _ _ (h1.own i u q hu hq) (hr u (List.mem_of_getElem? hu))
    · rw [List.getElem?_append_right (by omega)] at hu
      rw [List.getElem?_append_right (by rw [← h.len]; omega)] at hq
      have e0 : i - vs.length = 0 := by
        have := (List.getElem?_eq_some_iff.1 hu).1; simp at this; omega
      rw [e0] at hu; rw [← h.len, e0] at hq
      simp at hu hq
      subst hu; subst hq
      exact hk _ _ _ (own_mono hv hbase) hrv
  · intro i j g vi vj hij hi hj hgi
    have hil : i < vs.length := by
      have := (List.getElem?_eq_some_iff.1 hj).1; simp at this; omega
    rw [List.getElem?_append_left hil] at hi
    by_cases hjl : j < vs.length
    · rw [List.getElem?_append_left hjl] at hj
      exact h.apart i j g vi vj hij hi hj hgi
    · rw [List.getElem?_append_right (by omega)] at hj
      have e0 : j - vs.length = 0 := by
        have := (List.getElem?_eq_some_iff.1 hj).1; simp at this; omega
      rw [e0] at hj
      simp at hj
      subst hj
      intro q
      have := (h.lt (List.mem_of_getElem? hi) hgi).2
      have := (hv.lt g q).1
      omega
/-- in world w the list v reads as these parts -/
def PRd (w : World) (v : Value) (ps : List (List (Nat × Nat))) : Prop := ∃ vs, Rd w v 1 ps.length vs ∧ ∀ (i : Nat) (p : List (Nat × Nat)), ps[i]? = some p → ∃ u, vs[i]? = some u ∧ Rd w u 2 p.length (coordCells p)
theorem PRd.below {w w' : World} {v : Value} {ps : List (List (Nat × Nat))} (h : PRd w v ps) (hb : Below w.heap.size w w') : PRd w' v ps := by
  obtain ⟨vs, h1, h2⟩ := h
  exact ⟨vs, h1.below hb, fun i p hp => by obtain ⟨u, h3, h4⟩ := h2 i p hp; exact ⟨u, h3, h4.below hb⟩⟩
theorem prd_hold {base base' : Nat} {w : World} {v : Value} {vs : List Value} {ps : List (List (Nat × Nat))} {n : Nat} (h : w.ownsRow base 58 1 v n vs) (hp : PHold base' w vs ps) (hn : n = ps.length) : PRd w v ps := by
  subst hn
  refine ⟨vs, rd_own h, fun i p hi => ?_⟩
  have hil : i < vs.length := by rw [hp.len]; exact (List.getElem?_eq_some_iff.1 hi).1
  exact ⟨vs[i], List.getElem?_eq_getElem hil, rd_own (hp.own i _ p (List.getElem?_eq_getElem hil) hi)⟩
/-- a call that hands back a new list of parts and no error -/
def PartsPost (w : World) (ps : List (List (Nat × Nat))) (ev : Ending) (w' : World) : Prop :=
  ∃ v vs, ev = .returned (.tuple #[v, .nilIface]) ∧ w'.ownsRow w.heap.size 58 1 v ps.length vs ∧ PHold w.heap.size w' vs ps ∧ (∀ u ∈ vs, ∀ g, u.ownBlock = some g → v.ownBlock ≠ some g) ∧ Below w.heap.size w w'
end Go.Proofs.YtdodfeoaioolnaaDoor

