/- What a path says in a tree of a power of two, plain. Condition: the table reads as listed. -/
import Derived.Test.YtnpblpbcchminaaGreatDoorKeysPlain
import Derived.Test.YtnpblpbcchminaaGreatDoorSayPlain
import Derived.Test.YtnpblpbcchminaaGreatDoorShapePath
namespace Go.Proofs.YtnpblpbcchminaaGreatDoor
open Go.ChangeShapes Go.WideShapes Go.ChangeAt Go.RowKit
set_option linter.unusedVariables false
/-- what a path says, from the leaf up -/
def upK : Nat → List UInt8 → List (List UInt8) → List UInt8
  | _, h, [] => h
  | i, h, p :: ps => upK (i / 2) (if i % 2 = 0 then nodeH h p else nodeH p h) ps
theorem upK_len : ∀ (ps : List (List UInt8)) (i : Nat) (h : List UInt8), h.length = 32 → (upK i h ps).length = 32
  | [], _, _, hh => hh
  | p :: ps, i, h, hh => by
    unfold upK
    refine upK_len ps _ _ ?_
    split <;> exact nodeH_length _ _
theorem says_up : ∀ (ps : List (List UInt8)) (i : Nat) (h : List UInt8), i < 2 ^ ps.length → Says nodeH i (2 ^ ps.length - 1) h ps (upK i h ps)
  | [], i, h, hi => by
    obtain rfl : i = 0 := by simpa using hi
    exact ⟨0, by simp, bot_one _ (by simp)⟩
  | p :: ps, i, h, hi => by
    have hP := Nat.two_pow_pos ps.length
    have hps : 2 ^ (ps.length + 1) = 2 ^ ps.length * 2 := Nat.pow_succ 2 _
    rw [List.length_cons] at hi ⊢
    have ih := says_up ps (i / 2) (if i % 2 = 0 then nodeH h p else nodeH p h) (by omega)
    rw [show 2 ^ ps.length - 1 = (2 ^ (ps.length + 1) - 1) / 2 by omega] at ih
    refine Says.step nodeH (fun f q => ?_) ih
    by_cases ho : i % 2 = 0
    · rw [bot_even _ (by omega) ho (by omega), show (2 ^ (ps.length + 1) - 1 + 1 + 1) / 2 = (2 ^ (ps.length + 1) - 1) / 2 + 1 by omega]
      rw [if_pos ho] at q
      rw [q]
    · rw [bot_odd _ (by omega) (by omega), show (2 ^ (ps.length + 1) - 1 + 1 + 1) / 2 = (2 ^ (ps.length + 1) - 1) / 2 + 1 by omega]
      rw [if_neg ho] at q
      rw [q]
theorem upK_snoc : ∀ (P : List (List UInt8)) (q : List UInt8) (i : Nat) (h : List UInt8), upK i h (P ++ [q]) = if i / 2 ^ P.length % 2 = 0 then nodeH (upK i h P) q else nodeH q (upK i h P)
  | [], q, i, h => by simp [upK]
  | p :: P, q, i, h => by
    rw [List.cons_append, upK, upK_snoc P q, List.length_cons, Nat.pow_succ, Nat.mul_comm, ← Nat.div_div_eq_div_mul]
    rfl
theorem upK_mod : ∀ (P : List (List UInt8)) (i j : Nat) (h : List UInt8), i % 2 ^ P.length = j % 2 ^ P.length → upK i h P = upK j h P
  | [], _, _, _, _ => rfl
  | p :: P, i, j, h, e => by
    rw [List.length_cons, Nat.pow_succ, Nat.mul_comm, Nat.mod_mul, Nat.mod_mul] at e
    have e1 : i % 2 = j % 2 := by omega
    have e2 : i / 2 % 2 ^ P.length = j / 2 % 2 ^ P.length := by omega
    rw [upK, upK, e1]
    exact upK_mod P _ _ _ e2
theorem say_up (lf : List UInt8) : ∀ (n f : Nat) (ix b e : Int) (P : List (List UInt8)), n ≤ f → P.length = n → b ≤ ix → ix < e → e = b + ((2 ^ n : Nat) : Int) → sayP lf f ix b e P = upK (ix - b).toNat lf P
  | 0, f, ix, b, e, P, _, hP, h1, h2, he => by
    obtain rfl := List.eq_nil_of_length_eq_zero hP
    cases f with
    | zero => rfl
    | succ f => rw [sayP, if_pos (by simp at he; omega)]; rfl
  | n + 1, f, ix, b, e, P, hf, hP, h1, h2, he => by
    obtain ⟨f, rfl⟩ : ∃ g, f = g + 1 := ⟨f - 1, by omega⟩
    obtain ⟨P, q, rfl, hP'⟩ := snoc_of hP
    have hT := Nat.two_pow_pos n
    have hps : 2 ^ (n + 1) = 2 ^ n * 2 := Nat.pow_succ 2 n
    obtain ⟨T, hTT⟩ : ∃ T, 2 ^ n = T := ⟨_, rfl⟩
    have hk : blwI (e - b) = (T : Int) := (blwI_eq (e := n) (by rw [hTT]) (by rw [hps, hTT] at he; omega) (by rw [hps, hTT] at he; omega)).symm
    rw [hps, hTT] at he
    rw [hTT] at hT
    rw [sayP, if_neg (by omega), hk, List.dropLast_concat, last_snoc, upK_snoc, hP', hTT]
    by_cases hx : ix < b + (T : Int)
    · have hd : (ix - b).toNat / T = 0 := Nat.div_eq_of_lt (by omega)
      rw [if_pos hx, say_up lf n f ix b (b + T) P (by omega) hP' h1 hx (by rw [hTT]), hd, if_pos (by omega)]
    · have hd : (ix - b).toNat / T = 1 := Nat.div_eq_of_lt_le (by omega) (by omega)
      rw [if_neg hx, say_up lf n f ix (b + T) e P (by omega) hP' (by omega) h2 (by rw [hTT]; omega), hd, if_neg (by omega)]
      congr 1
      refine upK_mod P _ _ _ ?_
      rw [hP', hTT, show (ix - b).toNat = (ix - (b + T)).toNat + T by omega, Nat.add_mod_right]
theorem path_pow : ∀ (n f : Nat) (ix b e : Int), n ≤ f → b ≤ ix → ix < e → e = b + ((2 ^ n : Nat) : Int) → (pathL f ix b e).length = n
  | 0, f, ix, b, e, _, h1, h2, he => by
    cases f with
    | zero => rfl
    | succ f => rw [pathL, if_pos (by simp at he; omega)]; rfl
  | n + 1, f, ix, b, e, hf, h1, h2, he => by
    obtain ⟨f, rfl⟩ : ∃ g, f = g + 1 := ⟨f - 1, by omega⟩
    have hT := Nat.two_pow_pos n
    have hps : 2 ^ (n + 1) = 2 ^ n * 2 := Nat.pow_succ 2 n
    obtain ⟨T, hTT⟩ : ∃ T, 2 ^ n = T := ⟨_, rfl⟩
    have hk : blwI (e - b) = (T : Int) := (blwI_eq (e := n) (by rw [hTT]) (by rw [hps, hTT] at he; omega) (by rw [hps, hTT] at he; omega)).symm
    rw [hps, hTT] at he
    rw [hTT] at hT
    rw [pathL, if_neg (by omega), hk]
    by_cases hx : ix < b + (T : Int)
    · rw [if_pos hx, List.length_append, path_pow n f ix b (b + T) (by omega) h1 hx (by rw [hTT])]; rfl
    · rw [if_neg hx, List.length_append, path_pow n f ix (b + T) e (by omega) (by omega) h2 (by rw [hTT]; omega)]; rfl
end Go.Proofs.YtnpblpbcchminaaGreatDoor
