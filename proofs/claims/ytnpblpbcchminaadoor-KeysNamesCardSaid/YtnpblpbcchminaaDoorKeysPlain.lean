/- Plain facts on one-time keys and trees of them. No program in sight. -/
import Derived.Test.YtnpblpbcchminaaDoorHashAny
import Derived.Test.YtnpblpbcchminaaDoorVerifyIncl
namespace Go.Proofs.YtnpblpbcchminaaDoor
open Go.ChangeShapes Go.WideShapes Go.ChangeAt Go.RowKit
set_option linter.unusedVariables false
/-- a hash that goes on by so many steps -/
def onH : Nat → List UInt8 → List UInt8
  | 0, h => h
  | n + 1, h => onH n (shaB (2 :: h))
theorem onH_snoc : ∀ (n : Nat) (h : List UInt8), onH (n + 1) h = shaB (2 :: onH n h)
  | 0, h => rfl
  | n + 1, h => by rw [onH, onH_snoc n, onH]
theorem onH_add : ∀ (n k : Nat) (h : List UInt8), onH k (onH n h) = onH (n + k) h
  | 0, k, h => by rw [Nat.zero_add]; rfl
  | n + 1, k, h => by rw [onH, onH_add n k, Nat.succ_add]; rfl
theorem onH_length {h : List UInt8} (hh : h.length = 32) : ∀ n, (onH n h).length = 32
  | 0 => hh
  | n + 1 => by rw [onH_snoc]; exact shaB_length _
/-- where a chain of a secret begins -/
def begB (s : List UInt8) (i : Nat) : List UInt8 := shaB (3 :: (s ++ [UInt8.ofNat (i / 256), UInt8.ofNat i]))
theorem begB_length (s : List UInt8) (i : Nat) : (begB s i).length = 32 := shaB_length _
/-- the halves of a message's bytes -/
def nibB (m : List UInt8) : List Nat := m.flatMap fun b => [b.toNat / 16, b.toNat % 16]
/-- what they lack, together -/
def lackB (l : List Nat) : Nat := (l.map (15 - ·)).sum
def digB (m : List UInt8) : List Nat := nibB m ++ [lackB (nibB m) / 256, lackB (nibB m) / 16 % 16, lackB (nibB m) % 16]
theorem nibB_length (m : List UInt8) : (nibB m).length = 2 * m.length := by
  induction m with
  | nil => rfl
  | cons b m ih => simp only [nibB, List.flatMap_cons, List.length_append] at ih ⊢; simp [ih]; omega
theorem nibB_le (m : List UInt8) : ∀ x ∈ nibB m, x ≤ 15 := by
  intro x hx
  simp only [nibB, List.mem_flatMap] at hx
  obtain ⟨b, -, h⟩ := hx
  have := b.toNat_lt
  simp at h
  omega
theorem lackB_le : ∀ l : List Nat, lackB l ≤ 15 * l.length
  | [] => by simp [lackB]
  | x :: l => by
    have := lackB_le l
    simp only [lackB, List.map_cons, List.sum_cons, List.length_cons] at this ⊢
    omega
theorem lackB_snoc (l : List Nat) (x : Nat) : lackB (l ++ [x]) = lackB l + (15 - x) := by simp [lackB]
theorem digB_length {m : List UInt8} (h : m.length = 32) : (digB m).length = 67 := by simp [digB, nibB_length, h]
theorem digB_le {m : List UInt8} (h : m.length = 32) : ∀ x ∈ digB m, x ≤ 15 := by
  intro x hx
  have h1 := lackB_le (nibB m)
  rw [nibB_length, h] at h1
  simp only [digB, List.mem_append] at hx
  rcases hx with hx | hx
  · exact nibB_le m x hx
  · simp at hx; omega
theorem nib_at : ∀ (m : List UInt8) (i : Nat) (x : UInt8), m[i / 2]? = some x → (nibB m)[i]? = some (if i % 2 = 0 then x.toNat / 16 else x.toNat % 16)
  | [], i, x, h => by simp at h
  | b :: m, 0, x, h => by simp at h; subst h; rfl
  | b :: m, 1, x, h => by simp at h; subst h; rfl
  | b :: m, i + 2, x, h => by
    rw [show (i + 2) / 2 = i / 2 + 1 by omega, List.getElem?_cons_succ] at h
    rw [show (i + 2) % 2 = i % 2 by omega, ← nib_at m i x h]
    simp [nibB]
/-- all chains as one hash -/
def endB (L : List (List UInt8)) : List UInt8 := shaB (4 :: L.flatten)
theorem endB_length (L : List (List UInt8)) : (endB L).length = 32 := shaB_length _
def pubB (s : List UInt8) : List UInt8 := endB ((List.range 67).map fun i => onH 15 (begB s i))
def sigB (s m : List UInt8) : List (List UInt8) := (List.range 67).map fun i => onH ((digB m).getD i 0) (begB s i)
def recB (m : List UInt8) (L : List (List UInt8)) : List UInt8 := endB ((List.range 67).map fun i => onH (15 - (digB m).getD i 0) (L.getD i []))
theorem sigB_length (s m : List UInt8) : (sigB s m).length = 67 := by simp [sigB]
theorem sigB_mem (s m : List UInt8) : ∀ h ∈ sigB s m, h.length = 32 := by
  intro h hh
  simp only [sigB, List.mem_map] at hh
  obtain ⟨i, -, rfl⟩ := hh
  exact onH_length (begB_length _ _) _
theorem rec_sig {s m : List UInt8} (hm : m.length = 32) : recB m (sigB s m) = pubB s := by
  unfold recB pubB
  congr 1
  refine List.map_congr_left fun i hi => ?_
  have hi' : i < 67 := List.mem_range.1 hi
  have hg : (sigB s m).getD i [] = onH ((digB m).getD i 0) (begB s i) := by simp [sigB, List.getD_eq_getElem?_getD, hi']
  have hd : (digB m).getD i 0 ≤ 15 := by
    have hl := digB_length hm
    rw [List.getD_eq_getElem?_getD, List.getElem?_eq_getElem (by omega)]
    exact digB_le hm _ (List.getElem_mem _)
  rw [hg, onH_add, show (digB m).getD i 0 + (15 - (digB m).getD i 0) = 15 by omega]
/-- a number in four bytes -/
def fourB (i : Nat) : List UInt8 := [UInt8.ofNat (i / 16777216), UInt8.ofNat (i / 65536), UInt8.ofNat (i / 256), UInt8.ofNat i]
def ownB (s : List UInt8) (i : Nat) : List UInt8 := shaB (5 :: (s ++ fourB i))
def msgB (i : Nat) (t : List UInt8) : List UInt8 := shaB (6 :: (fourB i ++ t))
theorem ownB_length (s : List UInt8) (i : Nat) : (ownB s i).length = 32 := shaB_length _
theorem msgB_length (i : Nat) (t : List UInt8) : (msgB i t).length = 32 := shaB_length _
/-- the leaf of a key, by its public hash -/
def kleafB (p : List UInt8) : List UInt8 := leafH ⟨p.toArray⟩
theorem kleafB_length (p : List UInt8) : (kleafB p).length = 32 := leafH_length _
/-- the row above a row of hashes -/
def upB (l : List (List UInt8)) : List (List UInt8) := (List.range (l.length / 2)).map fun i => nodeH (l.getD (2 * i) []) (l.getD (2 * i + 1) [])
theorem upB_length (l : List (List UInt8)) : (upB l).length = l.length / 2 := by simp [upB]
theorem upB_mem (l : List (List UInt8)) : ∀ h ∈ upB l, h.length = 32 := by
  intro h hh
  simp only [upB, List.mem_map] at hh
  obtain ⟨i, -, rfl⟩ := hh
  exact nodeH_length _ _
theorem upB_get (l : List (List UInt8)) (i : Nat) (hi : i < l.length / 2) : (upB l)[i]? = some (nodeH (l.getD (2 * i) []) (l.getD (2 * i + 1) [])) := by simp [upB, hi]
/-- the rows over a row of leaves -/
def rowB (l : List (List UInt8)) : Nat → List (List UInt8)
  | 0 => l
  | j + 1 => upB (rowB l j)
theorem rowB_length {l : List (List UInt8)} {n : Nat} (hl : l.length = 2 ^ n) : ∀ j, j ≤ n → (rowB l j).length = 2 ^ (n - j)
  | 0, _ => hl
  | j + 1, h => by
    rw [rowB, upB_length, rowB_length hl j (by omega), show n - j = (n - (j + 1)) + 1 by omega, Nat.pow_succ]
    omega
theorem rowB_mem {l : List (List UInt8)} (hl : ∀ h ∈ l, h.length = 32) : ∀ j, ∀ h ∈ rowB l j, h.length = 32
  | 0 => hl
  | j + 1 => upB_mem _
def rootK (l : List (List UInt8)) (n : Nat) : List UInt8 := (rowB l n).getD 0 []
def pathK (l : List (List UInt8)) (n i : Nat) : List (List UInt8) := (List.range n).map fun j => (rowB l j).getD (i / 2 ^ j ^^^ 1) []
theorem pathK_length (l : List (List UInt8)) (n i : Nat) : (pathK l n i).length = n := by simp [pathK]
theorem xor_one (x : Nat) : x ^^^ 1 = if x % 2 = 0 then x + 1 else x - 1 := by
  have h1 : (x ^^^ 1) / 2 = x / 2 := by
    have := Nat.xor_div_two (a := x) (b := 1); simpa using this
  have h2 : (x ^^^ 1).testBit 0 = (x.testBit 0 ^^ (1 : Nat).testBit 0) := Nat.testBit_xor ..
  simp only [Nat.testBit_zero] at h2
  obtain ⟨y, hy⟩ : ∃ y, x ^^^ 1 = y := ⟨_, rfl⟩
  rw [hy] at h1 h2 ⊢
  by_cases q : x % 2 = 1 <;> simp [q] at h2 <;> split <;> omega
theorem Says.step {α : Type} (node : α → α → α) {n l : Nat} {h g r : α} {ps qs : List α} (hb : ∀ f, bot node (f + 1) (n / 2) (l / 2 + 1) g qs = some r → bot node (f + 1 + 1) n (l + 1) h ps = some r) (hs : Says node (n / 2) (l / 2) g qs r) : Says node n l h ps r := by
  obtain ⟨f, hf, q⟩ := hs
  exact ⟨f + 1, by rw [Nat.pow_succ]; omega, hb f q⟩
/-- a leaf's path says the root -/
theorem says_path {l : List (List UInt8)} {n i : Nat} (hl : l.length = 2 ^ n) (hi : i < 2 ^ n) : ∀ j, j ≤ n →
    Says nodeH (i / 2 ^ (n - j)) (2 ^ j - 1) ((rowB l (n - j)).getD (i / 2 ^ (n - j)) []) ((pathK l n i).drop (n - j)) (rootK l n)
  | 0, _ => by
    rw [Nat.sub_zero, Nat.div_eq_of_lt hi, List.drop_eq_nil_of_le (by rw [pathK_length]; omega)]
    exact ⟨0, by simp, bot_one _ (by omega)⟩
  | j + 1, h => by
    have ih := says_path hl hi j (by omega)
    obtain ⟨k, hk⟩ : ∃ k, n - (j + 1) = k := ⟨_, rfl⟩
    rw [show n - j = k + 1 by omega, Nat.pow_succ, ← Nat.div_div_eq_div_mul] at ih
    rw [hk]
    have hrl := rowB_length hl k (by omega)
    rw [show n - k = j + 1 by omega] at hrl
    have hP := Nat.two_pow_pos j
    have hps : 2 ^ (j + 1) = 2 ^ j * 2 := Nat.pow_succ 2 j
    have hlt : i / 2 ^ k < 2 ^ (j + 1) := by
      rw [Nat.div_lt_iff_lt_mul (Nat.two_pow_pos _), ← Nat.pow_add, show j + 1 + k = n by omega]
      exact hi
    obtain ⟨x, hx⟩ : ∃ x, i / 2 ^ k = x := ⟨_, rfl⟩
    rw [hx] at ih hlt ⊢
    have hd : (pathK l n i).drop k = (rowB l k).getD (x ^^^ 1) [] :: (pathK l n i).drop (k + 1) := by
      rw [List.drop_eq_getElem_cons (by rw [pathK_length]; omega)]
      congr 1
      simp [pathK, hx]
    have hup : (rowB l (k + 1)).getD (x / 2) [] = nodeH ((rowB l k).getD (2 * (x / 2)) []) ((rowB l k).getD (2 * (x / 2) + 1) []) := by
      rw [rowB, List.getD_eq_getElem?_getD, upB_get _ _ (by rw [hrl]; omega)]; rfl
    rw [hup, show 2 ^ j - 1 = (2 ^ (j + 1) - 1) / 2 by omega] at ih
    rw [hd, xor_one]
    refine Says.step nodeH (fun f q => ?_) ih
    by_cases ho : x % 2 = 0
    · rw [if_pos ho, bot_even _ (by omega) ho (by omega), show (2 ^ (j + 1) - 1 + 1 + 1) / 2 = (2 ^ (j + 1) - 1) / 2 + 1 by omega]
      rwa [show 2 * (x / 2) = x by omega] at q
    · rw [if_neg ho, bot_odd _ (by omega) (by omega), show (2 ^ (j + 1) - 1 + 1 + 1) / 2 = (2 ^ (j + 1) - 1) / 2 + 1 by omega]
      rwa [show 2 * (x / 2) = x - 1 by omega, show x - 1 + 1 = x by omega] at q
end Go.Proofs.YtnpblpbcchminaaDoor
