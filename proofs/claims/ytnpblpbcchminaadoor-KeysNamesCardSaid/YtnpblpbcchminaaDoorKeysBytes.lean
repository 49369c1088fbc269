/- A signature's bytes, plain: what is written is read, what is read was written. Condition: the table reads as listed. -/
import Derived.Test.YtnpblpbcchminaaDoorKeysDec
import Derived.Test.YtnpblpbcchminaaDoorKeysLives
namespace Go.Proofs.YtnpblpbcchminaaDoor
open Go.ChangeShapes Go.WideShapes Go.ChangeAt Go.RowKit
set_option linter.unusedVariables false
theorem numF_lt {b : UInt8} {r : List UInt8} (h : b.toNat < 128) : numF 0 0 (b :: r) = some (b.toNat, 1) := by
  rw [numF, if_neg (by omega), if_pos h]
  simp only [Nat.mul_zero, Nat.pow_zero, Nat.mul_one, Nat.zero_add]
  rw [Nat.mod_eq_of_lt h]
theorem numF_big : ∀ (l : List UInt8) (i n v k : Nat), 0 < i → numF i n l = some (v, k) → n + 128 ≤ v
  | [], _, _, _, _, _, h => by simp [numF] at h
  | b :: r, i, n, v, k, hi, h => by
    rw [numF] at h
    split at h
    · simp at h
    · rename_i hn
      have hp : 128 ≤ 2 ^ (7 * i) := by
        have := Nat.pow_le_pow_right (n := 2) (by omega) (show 7 ≤ 7 * i by omega)
        simpa using this
      split at h
      · rename_i hb
        simp only [Option.some.injEq, Prod.mk.injEq] at h
        have h1 : 1 ≤ b.toNat % 128 := by omega
        have := Nat.mul_le_mul h1 hp
        omega
      · have := numF_big r (i + 1) _ v k (by omega) h
        omega
theorem numF_small {l : List UInt8} {v k : Nat} (h : numF 0 0 l = some (v, k)) (hv : v < 128) : ∃ b r, l = b :: r ∧ k = 1 ∧ b.toNat = v := by
  cases l with
  | nil => simp [numF] at h
  | cons b r =>
    rw [numF, if_neg (by omega)] at h
    split at h
    · rename_i hb
      simp only [Nat.mul_zero, Nat.pow_zero, Nat.mul_one, Nat.zero_add, Option.some.injEq, Prod.mk.injEq] at h
      refine ⟨b, r, rfl, h.2.symm, ?_⟩
      rw [← h.1, Nat.mod_eq_of_lt hb]
    · have := numF_big r (0 + 1) _ v k (by omega) h
      omega
theorem drop_at {l : List UInt8} {i : Nat} {b : UInt8} (h : l[i]? = some b) : l.drop i = b :: l.drop (i + 1) := by
  rw [List.drop_eq_getElem_cons (List.getElem?_eq_some_iff.1 h).1, (List.getElem?_eq_some_iff.1 h).2]
theorem varS_byte {S : ByteArray} {i : Nat} {b : UInt8} (h : (bOf S)[i]? = some b) (hb : b.toNat < 128) : varS S (some i) = (b.toNat, some (i + 1)) := by
  simp only [varS, drop_at h, numF_lt hb]
theorem varS_inv {S : ByteArray} {o : Option Nat} {v j : Nat} (h : varS S o = (v, some j)) (hv : v < 128) : ∃ i b, o = some i ∧ (bOf S)[i]? = some b ∧ b.toNat = v ∧ j = i + 1 := by
  cases o with
  | none => simp [varS] at h
  | some i =>
    unfold varS at h
    cases hn : numF 0 0 ((bOf S).drop i) with
    | none => simp [hn] at h
    | some q =>
      obtain ⟨v', k⟩ := q
      simp only [hn, Prod.mk.injEq, Option.some.injEq] at h
      obtain ⟨rfl, rfl⟩ := h
      obtain ⟨b, r, hl, rfl, hb⟩ := numF_small hn hv
      refine ⟨i, b, rfl, ?_, hb, rfl⟩
      have := congrArg (fun x => x[0]?) hl
      simpa using this
theorem stS_some {S : ByteArray} {i : Nat} : ∀ {k : Nat}, i + 32 * k ≤ S.size → stS S (some i) k = some (i + 32 * k)
  | 0, _ => rfl
  | k + 1, h => by
    have ih := stS_some (S := S) (i := i) (k := k) (by omega)
    show (hashS S (stS S (some i) k)).2 = _
    rw [ih]
    show (if i + 32 * k + 32 ≤ S.size then _ else _ : List UInt8 × Option Nat).2 = _
    rw [if_pos (by omega)]
    show some _ = some _
    congr 1
theorem stS_inv {S : ByteArray} {o : Option Nat} : ∀ {k j : Nat}, stS S o k = some j → ∃ i, o = some i ∧ j = i + 32 * k ∧ (0 < k → j ≤ S.size)
  | 0, j, h => ⟨j, h, rfl, fun q => by omega⟩
  | k + 1, j, h => by
    have h' : (hashS S (stS S o k)).2 = some j := h
    cases hs : stS S o k with
    | none => rw [hs] at h'; simp [hashS] at h'
    | some i' =>
      rw [hs] at h'
      unfold hashS at h'
      by_cases hk : i' + 32 ≤ S.size
      · simp only [if_pos hk, Option.some.injEq] at h'
        obtain ⟨i, h1, h2, -⟩ := stS_inv hs
        exact ⟨i, h1, by omega, fun _ => by omega⟩
      · simp only [if_neg hk] at h'
        cases h'
theorem hsS_some {S : ByteArray} {i k : Nat} (h : i + 32 * (k + 1) ≤ S.size) : hsS S (some i) k = ((bOf S).drop (i + 32 * k)).take 32 := by
  unfold hsS
  rw [stS_some (by omega)]
  show (if i + 32 * k + 32 ≤ S.size then _ else _ : List UInt8 × Option Nat).1 = _
  rw [if_pos (by omega)]
theorem chunks (l : List UInt8) (i : Nat) : ∀ n : Nat, ((List.range n).map (fun k => (l.drop (i + 32 * k)).take 32)).flatten = (l.drop i).take (32 * n)
  | 0 => by simp
  | n + 1 => by
    rw [List.range_succ, List.map_append, List.flatten_append, chunks l i n, Nat.mul_succ, List.take_add, List.drop_drop]
    simp
theorem hsS_flat {S : ByteArray} {i n : Nat} (h : i + 32 * n ≤ S.size) : ((List.range n).map (hsS S (some i))).flatten = ((bOf S).drop i).take (32 * n) := by
  rw [← chunks (bOf S) i n]
  congr 1
  refine List.map_congr_left fun k hk => ?_
  have := List.mem_range.1 hk
  exact hsS_some (by omega)
theorem chunks_of : ∀ {C : List (List UInt8)} (R : List UInt8), H32 C → (List.range C.length).map (fun k => ((C.flatten ++ R).drop (32 * k)).take 32) = C
  | [], _, _ => rfl
  | c :: C, R, h => by
    have hc : c.length = 32 := h c (by simp)
    have ih := chunks_of (C := C) R (fun z hz => h z (by simp [hz]))
    rw [List.length_cons, List.range_succ_eq_map, List.map_cons, List.map_map]
    congr 1
    · rw [Nat.mul_zero, List.drop_zero, List.flatten_cons, List.append_assoc, List.take_left' hc]
    · conv => rhs; rw [← ih]
      refine List.map_congr_left fun k hk => ?_
      show ((((c :: C).flatten ++ R).drop (32 * (k + 1))).take 32) = _
      rw [List.flatten_cons, List.append_assoc, show 32 * (k + 1) = c.length + 32 * k by omega, ← List.drop_drop, List.drop_left]
theorem hsS_of {S : ByteArray} {i : Nat} {C : List (List UInt8)} {R : List UInt8} (h : (bOf S).drop i = C.flatten ++ R) (h32 : H32 C) (hs : i + 32 * C.length ≤ S.size) : (List.range C.length).map (hsS S (some i)) = C := by
  conv => rhs; rw [← chunks_of R h32]
  refine List.map_congr_left fun k hk => ?_
  have := List.mem_range.1 hk
  rw [hsS_some (by omega), ← h, List.drop_drop]
theorem ofNat_small {x : Nat} (h : x < 128) : (UInt8.ofNat x).toNat = x := by
  rw [UInt8.toNat_ofNat']; omega
/-- what is written is read -/
theorem dec_enc {S : ByteArray} {x n : Nat} {C P : List (List UInt8)} (hx : x < 64) (hn : n ≤ 6) (hC : H32 C) (hc : C.length = 67) (hP : H32 P) (hp : P.length = n) (hS : bOf S = encB x C n P) :
    (decS S).ok S ∧ (decS S).i = x ∧ (decS S).n = n ∧ (List.range 67).map (hsS S (decS S).o1) = C ∧ (List.range n).map (hsS S (decS S).o3) = P := by
  have f1 := flat_eq hC
  have f2 := flat_eq hP
  rw [hc] at f1
  rw [hp] at f2
  have hL : bOf S = UInt8.ofNat x :: (C.flatten ++ (UInt8.ofNat n :: P.flatten)) := by rw [hS]; simp [encB]
  have hsz : S.size = 2146 + 32 * n := by
    rw [← bOf_length S, hL]
    simp only [List.length_cons, List.length_append, f1, f2]; omega
  have d1 : (bOf S).drop 1 = C.flatten ++ (UInt8.ofNat n :: P.flatten) := by rw [hL]; rfl
  have d2 : (bOf S).drop 2145 = UInt8.ofNat n :: P.flatten := by
    rw [show 2145 = 1 + C.flatten.length by rw [f1], ← List.drop_drop, d1, List.drop_left]
  have d3 : (bOf S).drop 2146 = P.flatten ++ [] := by
    rw [show 2146 = 2145 + 1 by rfl, ← List.drop_drop, d2]; simp
  have g0 : (bOf S)[0]? = some (UInt8.ofNat x) := by rw [hL]; rfl
  have g2 : (bOf S)[2145]? = some (UInt8.ofNat n) := by
    have := congrArg (fun y => y[0]?) d2
    simpa using this
  have a1 : varS S (some 0) = (x, some 1) := by
    have := varS_byte g0 (by rw [ofNat_small (by omega)]; omega)
    rw [ofNat_small (by omega)] at this; exact this
  have a2 : stS S (some 1) 67 = some 2145 := stS_some (by omega)
  have a3 : varS S (some 2145) = (n, some 2146) := by
    have := varS_byte g2 (by rw [ofNat_small (by omega)]; omega)
    rw [ofNat_small (by omega)] at this; exact this
  have a4 : stS S (some 2146) (min n 6) = some S.size := by
    rw [Nat.min_eq_left hn, hsz]; exact stS_some (by omega)
  have e : decS S = ⟨x, some 1, n, some 2146, some S.size⟩ := by
    unfold decS
    simp only [a1, a2, a3, a4]
  rw [e]
  refine ⟨⟨rfl, hn, hx⟩, rfl, rfl, ?_, ?_⟩
  · have := hsS_of d1 hC (by omega)
    rw [hc] at this; exact this
  · have := hsS_of d3 hP (by omega)
    rw [hp] at this; exact this
/-- what is read was written -/
theorem enc_dec {S : ByteArray} (h : (decS S).ok S) : bOf S = encB (decS S).i ((List.range 67).map (hsS S (decS S).o1)) (decS S).n ((List.range (decS S).n).map (hsS S (decS S).o3)) := by
  obtain ⟨x, i1, ha⟩ : ∃ x o, varS S (some 0) = (x, o) := ⟨_, _, rfl⟩
  obtain ⟨n, i3, hb⟩ : ∃ n o, varS S (stS S i1 67) = (n, o) := ⟨_, _, rfl⟩
  have e : decS S = ⟨x, i1, n, i3, stS S i3 (min n 6)⟩ := by
    unfold decS
    simp only [ha, hb]
  rw [e] at h ⊢
  obtain ⟨h4, hn, hx⟩ := h
  simp only at h4 hn hx ⊢
  rw [Nat.min_eq_left hn] at h4
  obtain ⟨j3, rfl, e3, -⟩ := stS_inv h4
  obtain ⟨j2, b2, h2, g2, v2, rfl⟩ := varS_inv hb (by omega)
  obtain ⟨j1, rfl, rfl, -⟩ := stS_inv h2
  obtain ⟨j0, b0, h0, g0, v0, rfl⟩ := varS_inv ha (by omega)
  obtain rfl : 0 = j0 := Option.some.inj h0
  have f1 : ((List.range 67).map (hsS S (some (0 + 1)))).flatten = ((bOf S).drop (0 + 1)).take (32 * 67) := hsS_flat (by omega)
  have f2 : ((List.range n).map (hsS S (some (0 + 1 + 32 * 67 + 1)))).flatten = ((bOf S).drop (0 + 1 + 32 * 67 + 1)).take (32 * n) := hsS_flat (by omega)
  have f3 : ((bOf S).drop (0 + 1 + 32 * 67 + 1)).take (32 * n) = (bOf S).drop (0 + 1 + 32 * 67 + 1) := List.take_of_length_le (by rw [List.length_drop, bOf_length]; omega)
  have q0 : UInt8.ofNat x = b0 := by rw [← v0]; exact UInt8.ofNat_toNat
  have q2 : UInt8.ofNat n = b2 := by rw [← v2]; exact UInt8.ofNat_toNat
  have s0 := drop_at g0
  have s2 := drop_at g2
  rw [List.drop_zero] at s0
  unfold encB
  rw [f1, f2, f3, q0, q2, List.append_assoc, List.append_assoc]
  rw [show [b2] ++ (bOf S).drop (0 + 1 + 32 * 67 + 1) = (bOf S).drop (0 + 1 + 32 * 67) from s2.symm, show (bOf S).drop (0 + 1 + 32 * 67) = ((bOf S).drop (0 + 1)).drop (32 * 67) by rw [List.drop_drop], List.take_append_drop]
  exact s0
theorem of_bytes {S : ByteArray} {l : List UInt8} (h : bOf S = l) : S = ⟨l.toArray⟩ := by
  obtain ⟨d⟩ := S
  have e : d.toList = l := h
  rw [← e]
end Go.Proofs.YtnpblpbcchminaaDoor
