/- SHA-256 over natural numbers. Condition: the table reads as listed. -/
import Derived.Test.YtnpblpbcchminaaDoorKeysPlain
namespace Go.Proofs.YtnpblpbcchminaaDoor
open Go.ChangeShapes Go.WideShapes Go.ChangeAt Go.RowKit
set_option linter.unusedVariables false
def rotN (x n : Nat) : Nat := (x >>> n) ||| ((x <<< (32 - n)) % 4294967296)
def s0N (x : Nat) : Nat := (rotN x 7 ^^^ rotN x 18) ^^^ (x >>> 3)
def s1N (x : Nat) : Nat := (rotN x 17 ^^^ rotN x 19) ^^^ (x >>> 10)
def bXN (e : Nat) : Nat := (rotN e 6 ^^^ rotN e 11) ^^^ rotN e 25
def chN (e f g : Nat) : Nat := (e &&& f) ^^^ ((4294967295 ^^^ e) &&& g)
def aXN (a : Nat) : Nat := (rotN a 2 ^^^ rotN a 13) ^^^ rotN a 22
def mjN (a b c : Nat) : Nat := ((a &&& b) ^^^ (a &&& c)) ^^^ (b &&& c)
/-- the rounds of a block, on a window of sixteen words -/
def cmpN : List Nat → Nat → Nat → Nat → Nat → Nat → Nat → Nat → Nat → Nat → Nat → Nat → Nat → Nat → Nat → Nat → Nat → Nat → Nat → Nat → Nat → Nat → Nat → Nat → Nat → List Nat
  | [], _, _, _, _, _, _, _, _, _, _, _, _, _, _, _, _, a, b, c, d, e, f, g, h => [a, b, c, d, e, f, g, h]
  | k :: ks, w0, w1, w2, w3, w4, w5, w6, w7, w8, w9, w10, w11, w12, w13, w14, w15, a, b, c, d, e, f, g, h => cmpN ks w1 w2 w3 w4 w5 w6 w7 w8 w9 w10 w11 w12 w13 w14 w15 ((w0 + s0N w1 + w9 + s1N w14) % 4294967296) ((((h + bXN e + chN e f g + k + w0) % 4294967296) + ((aXN a + mjN a b c) % 4294967296)) % 4294967296) a b c ((d + ((h + bXN e + chN e f g + k + w0) % 4294967296)) % 4294967296) e f g
def shaKN : List Nat := shaK.map Int.toNat
/-- a word of four bytes -/
def word4 (a b c d : UInt8) : Nat := ((a.toNat * 256 + b.toNat) * 256 + c.toNat) * 256 + d.toNat
def wordsN : List UInt8 → List Nat
  | a :: b :: c :: d :: r => word4 a b c d :: wordsN r
  | _ => []
def addN : List Nat → List Nat → List Nat
  | x :: l, y :: m => ((x + y) % 4294967296) :: addN l m
  | _, _ => []
/-- a block: the words H go on to -/
def blkN (H : List Nat) (ws : List Nat) : List Nat :=
  match ws, H with
  | [w0, w1, w2, w3, w4, w5, w6, w7, w8, w9, w10, w11, w12, w13, w14, w15], [a, b, c, d, e, f, g, h] => addN [a, b, c, d, e, f, g, h] (cmpN shaKN w0 w1 w2 w3 w4 w5 w6 w7 w8 w9 w10 w11 w12 w13 w14 w15 a b c d e f g h)
  | _, _ => []
theorem cmpN_nil (w0 w1 w2 w3 w4 w5 w6 w7 w8 w9 w10 w11 w12 w13 w14 w15 a b c d e f g h : Nat) : cmpN [] w0 w1 w2 w3 w4 w5 w6 w7 w8 w9 w10 w11 w12 w13 w14 w15 a b c d e f g h = [a, b, c, d, e, f, g, h] := rfl
theorem cmpN_cons (k : Nat) (ks : List Nat) (w0 w1 w2 w3 w4 w5 w6 w7 w8 w9 w10 w11 w12 w13 w14 w15 a b c d e f g h : Nat) : cmpN (k :: ks) w0 w1 w2 w3 w4 w5 w6 w7 w8 w9 w10 w11 w12 w13 w14 w15 a b c d e f g h = cmpN ks w1 w2 w3 w4 w5 w6 w7 w8 w9 w10 w11 w12 w13 w14 w15 ((w0 + s0N w1 + w9 + s1N w14) % 4294967296) ((((h + bXN e + chN e f g + k + w0) % 4294967296) + ((aXN a + mjN a b c) % 4294967296)) % 4294967296) a b c ((d + ((h + bXN e + chN e f g + k + w0) % 4294967296)) % 4294967296) e f g := rfl
theorem xor32 (a b : Nat) (ha : a < 4294967296) (hb : b < 4294967296) : bits .xor .u32 (a : Int) (b : Int) = ((a ^^^ b : Nat) : Int) ∧ a ^^^ b < 4294967296 := by
  have ha' : a % 2 ^ IntKind.u32.bits = a := Nat.mod_eq_of_lt (by simp [IntKind.bits]; omega)
  have hb' : b % 2 ^ IntKind.u32.bits = b := Nat.mod_eq_of_lt (by simp [IntKind.bits]; omega)
  have hx : a ^^^ b < 2 ^ 32 := Nat.xor_lt_two_pow (by omega) (by omega)
  refine ⟨?_, by omega⟩
  simp only [bits, BitVec.ofInt_natCast, BitVec.toNat_xor, BitVec.toNat_ofNat, ha', hb']
  exact IntWalk.u32_in _ (by omega)
theorem and32 (a b : Nat) (ha : a < 4294967296) (hb : b < 4294967296) : bits .and .u32 (a : Int) (b : Int) = ((a &&& b : Nat) : Int) ∧ a &&& b < 4294967296 := by
  have ha' : a % 2 ^ IntKind.u32.bits = a := Nat.mod_eq_of_lt (by simp [IntKind.bits]; omega)
  have hb' : b % 2 ^ IntKind.u32.bits = b := Nat.mod_eq_of_lt (by simp [IntKind.bits]; omega)
  have hx : a &&& b ≤ a := Nat.and_le_left
  refine ⟨?_, by omega⟩
  simp only [bits, BitVec.ofInt_natCast, BitVec.toNat_and, BitVec.toNat_ofNat, ha', hb']
  exact IntWalk.u32_in _ (by omega)
theorem or32 (a b : Nat) (ha : a < 4294967296) (hb : b < 4294967296) : bits .or .u32 (a : Int) (b : Int) = ((a ||| b : Nat) : Int) ∧ a ||| b < 4294967296 := by
  have ha' : a % 2 ^ IntKind.u32.bits = a := Nat.mod_eq_of_lt (by simp [IntKind.bits]; omega)
  have hb' : b % 2 ^ IntKind.u32.bits = b := Nat.mod_eq_of_lt (by simp [IntKind.bits]; omega)
  have hx : a ||| b < 2 ^ 32 := Nat.or_lt_two_pow (by omega) (by omega)
  refine ⟨?_, by omega⟩
  simp only [bits, BitVec.ofInt_natCast, BitVec.toNat_or, BitVec.toNat_ofNat, ha', hb']
  exact IntWalk.u32_in _ (by omega)
theorem shr_le (x n : Nat) : x >>> n ≤ x := by rw [Nat.shiftRight_eq_div_pow]; exact Nat.div_le_self _ _
theorem shr_cast (x n : Nat) (k : Int) (hk : k = ((2 ^ n : Nat) : Int)) : (x : Int) / k = ((x >>> n : Nat) : Int) := by
  rw [hk, Nat.shiftRight_eq_div_pow]; push_cast; rfl
theorem rot_nat (x n : Nat) (m : Int) (hm : m = (n : Int)) (hx : x < 4294967296) : rotW (x : Int) m = ((rotN x n : Nat) : Int) ∧ rotN x n < 4294967296 := by
  subst hm
  unfold rotW rotN
  rw [Int.toNat_natCast, show (x : Int) / 2 ^ n = ((x >>> n : Nat) : Int) from shr_cast x n _ (by push_cast; rfl), show (x : Int) * 2 ^ (32 - n) % 4294967296 = (((x <<< (32 - n)) % 4294967296 : Nat) : Int) by rw [Nat.shiftLeft_eq, Int.natCast_emod, Int.natCast_mul, Int.natCast_pow]; rfl]
  exact or32 _ _ (Nat.lt_of_le_of_lt (shr_le _ _) hx) (Nat.mod_lt _ (by omega))
theorem sig0_nat (x : Nat) (hx : x < 4294967296) : sig0 (x : Int) = ((s0N x : Nat) : Int) ∧ s0N x < 4294967296 := by
  obtain ⟨e1, l1⟩ := rot_nat x 7 7 rfl hx
  obtain ⟨e2, l2⟩ := rot_nat x 18 18 rfl hx
  obtain ⟨e3, l3⟩ := xor32 _ _ l1 l2
  unfold sig0 s0N
  rw [e1, e2, e3, shr_cast x 3 8 rfl]
  exact xor32 _ _ l3 (Nat.lt_of_le_of_lt (shr_le _ _) hx)
theorem sig1_nat (x : Nat) (hx : x < 4294967296) : sig1 (x : Int) = ((s1N x : Nat) : Int) ∧ s1N x < 4294967296 := by
  obtain ⟨e1, l1⟩ := rot_nat x 17 17 rfl hx
  obtain ⟨e2, l2⟩ := rot_nat x 19 19 rfl hx
  obtain ⟨e3, l3⟩ := xor32 _ _ l1 l2
  unfold sig1 s1N
  rw [e1, e2, e3, shr_cast x 10 1024 rfl]
  exact xor32 _ _ l3 (Nat.lt_of_le_of_lt (shr_le _ _) hx)
theorem bX_nat (x : Nat) (hx : x < 4294967296) : bits .xor .u32 (bits .xor .u32 (rotW x 6) (rotW x 11)) (rotW x 25) = ((bXN x : Nat) : Int) ∧ bXN x < 4294967296 := by
  obtain ⟨e1, l1⟩ := rot_nat x 6 6 rfl hx
  obtain ⟨e2, l2⟩ := rot_nat x 11 11 rfl hx
  obtain ⟨e4, l4⟩ := rot_nat x 25 25 rfl hx
  obtain ⟨e3, l3⟩ := xor32 _ _ l1 l2
  unfold bXN
  rw [e1, e2, e3, e4]
  exact xor32 _ _ l3 l4
theorem aX_nat (x : Nat) (hx : x < 4294967296) : bits .xor .u32 (bits .xor .u32 (rotW x 2) (rotW x 13)) (rotW x 22) = ((aXN x : Nat) : Int) ∧ aXN x < 4294967296 := by
  obtain ⟨e1, l1⟩ := rot_nat x 2 2 rfl hx
  obtain ⟨e2, l2⟩ := rot_nat x 13 13 rfl hx
  obtain ⟨e4, l4⟩ := rot_nat x 22 22 rfl hx
  obtain ⟨e3, l3⟩ := xor32 _ _ l1 l2
  unfold aXN
  rw [e1, e2, e3, e4]
  exact xor32 _ _ l3 l4
theorem ch_nat (e f g : Nat) (he : e < 4294967296) (hf : f < 4294967296) (hg : g < 4294967296) : bits .xor .u32 (bits .and .u32 (e : Int) f) (bits .and .u32 (bits .xor .u32 (if IntKind.u32.signed = true then -1 else IntKind.u32.max) e) g) = ((chN e f g : Nat) : Int) ∧ chN e f g < 4294967296 := by
  rw [show (if IntKind.u32.signed = true then (-1 : Int) else IntKind.u32.max) = ((4294967295 : Nat) : Int) from rfl]
  obtain ⟨e1, l1⟩ := and32 e f he hf
  obtain ⟨e2, l2⟩ := xor32 4294967295 e (by omega) he
  obtain ⟨e3, l3⟩ := and32 _ g l2 hg
  unfold chN
  rw [e1, e2, e3]
  exact xor32 _ _ l1 l3
theorem mj_nat (a b c : Nat) (ha : a < 4294967296) (hb : b < 4294967296) (hc : c < 4294967296) : bits .xor .u32 (bits .xor .u32 (bits .and .u32 (a : Int) b) (bits .and .u32 (a : Int) c)) (bits .and .u32 (b : Int) c) = ((mjN a b c : Nat) : Int) ∧ mjN a b c < 4294967296 := by
  obtain ⟨e1, l1⟩ := and32 a b ha hb
  obtain ⟨e2, l2⟩ := and32 a c ha hc
  obtain ⟨e3, l3⟩ := and32 b c hb hc
  obtain ⟨e4, l4⟩ := xor32 _ _ l1 l2
  unfold mjN
  rw [e1, e2, e3, e4]
  exact xor32 _ _ l4 l3
/-- the schedule's words -/
def Wf (ws : List Nat) (t : Nat) : Nat :=
  if h : t < 16 then ws.getD t 0 else (Wf ws (t - 16) + s0N (Wf ws (t - 15)) + Wf ws (t - 7) + s1N (Wf ws (t - 2))) % 4294967296
termination_by t
decreasing_by all_goals omega
theorem Wf_lo (ws : List Nat) {t : Nat} (h : t < 16) : Wf ws t = ws.getD t 0 := by rw [Wf, dif_pos h]
theorem Wf_hi (ws : List Nat) (t : Nat) : Wf ws (t + 16) = (Wf ws t + s0N (Wf ws (t + 1)) + Wf ws (t + 9) + s1N (Wf ws (t + 14))) % 4294967296 := by
  rw [Wf, dif_neg (by omega), show t + 16 - 16 = t by omega, show t + 16 - 15 = t + 1 by omega, show t + 16 - 7 = t + 9 by omega, show t + 16 - 2 = t + 14 by omega]
theorem Wf_lt (ws : List Nat) (hw : ∀ x ∈ ws, x < 4294967296) (t : Nat) : Wf ws t < 4294967296 := by
  by_cases h : t < 16
  · rw [Wf_lo ws h, List.getD_eq_getElem?_getD]
    cases hq : ws[t]? with
    | none => exact (by decide : 0 < 4294967296)
    | some x => exact hw x (List.mem_of_getElem? hq)
  · obtain ⟨u, rfl⟩ : ∃ u, t = u + 16 := ⟨t - 16, by omega⟩
    rw [Wf_hi]; exact Nat.mod_lt _ (by omega)
theorem wds_nat (xs : List UInt8) (ws : List Nat) (hw : ∀ x ∈ ws, x < 4294967296) (h16 : ∀ t, t < 16 → wordB xs t = ((ws.getD t 0 : Nat) : Int)) : ∀ n t : Nat, t < n → (wds xs n).getD t 0 = ((Wf ws t : Nat) : Int)
  | 0, t, h => by omega
  | n + 1, t, h => by
    have ih := wds_nat xs ws hw h16 n
    by_cases ht : t < n
    · rw [wds, List.getD_eq_getElem?_getD, List.getElem?_append_left (by rw [wds_length]; exact ht), ← List.getD_eq_getElem?_getD]
      exact ih t ht
    · obtain rfl : t = n := by omega
      rw [wds, List.getD_eq_getElem?_getD, List.getElem?_append_right (by rw [wds_length]; exact Nat.le_refl _), wds_length, Nat.sub_self]
      simp only [List.getElem?_cons_zero, Option.getD_some]
      by_cases h6 : t < 16
      · rw [if_pos h6, h16 t h6, Wf_lo ws h6]
      · rw [if_neg h6]
        obtain ⟨u, rfl⟩ : ∃ u, t = u + 16 := ⟨t - 16, by omega⟩
        have l1 := Wf_lt ws hw (u + 1)
        have l2 := Wf_lt ws hw (u + 14)
        rw [Wf_hi]
        unfold nextW
        rw [show u + 16 - 16 = u by omega, show u + 16 - 15 = u + 1 by omega, show u + 16 - 7 = u + 9 by omega, show u + 16 - 2 = u + 14 by omega, ih u (by omega), ih (u + 1) (by omega), ih (u + 9) (by omega), ih (u + 14) (by omega), (sig0_nat _ l1).1, (sig1_nat _ l2).1]
        obtain ⟨x1, h1⟩ : ∃ x, Wf ws u = x := ⟨_, rfl⟩
        obtain ⟨x2, h2⟩ : ∃ x, s0N (Wf ws (u + 1)) = x := ⟨_, rfl⟩
        obtain ⟨x3, h3⟩ : ∃ x, Wf ws (u + 9) = x := ⟨_, rfl⟩
        obtain ⟨x4, h4⟩ : ∃ x, s1N (Wf ws (u + 14)) = x := ⟨_, rfl⟩
        rw [h1, h2, h3, h4]
        omega
theorem round_nat (a b c d e f g h k w : Nat) (ha : a < 4294967296) (hb : b < 4294967296) (hc : c < 4294967296) (he : e < 4294967296) (hf : f < 4294967296) (hg : g < 4294967296) :
    roundS ⟨a, b, c, d, e, f, g, h⟩ k w = ⟨((((((h + bXN e + chN e f g + k + w) % 4294967296) + ((aXN a + mjN a b c) % 4294967296)) % 4294967296 : Nat)) : Int), a, b, c, (((d + ((h + bXN e + chN e f g + k + w) % 4294967296)) % 4294967296 : Nat) : Int), e, f, g⟩ := by
  unfold roundS roundX roundY
  simp only
  rw [(bX_nat e he).1, (ch_nat e f g he hf hg).1, (aX_nat a ha).1, (mj_nat a b c ha hb hc).1]
  simp only [Int.natCast_emod, Int.natCast_add]
  rfl
theorem rounds_nat (xs : List UInt8) (H : List Int) (ws : List Nat) (hw : ∀ x ∈ ws, x < 4294967296) (h16 : ∀ t, t < 16 → wordB xs t = ((ws.getD t 0 : Nat) : Int)) : ∀ (n t : Nat) (a b c d e f g h : Nat), n + t = 64 → a < 4294967296 → b < 4294967296 → c < 4294967296 → d < 4294967296 → e < 4294967296 → f < 4294967296 → g < 4294967296 → h < 4294967296 →
    rounds xs H t = ⟨a, b, c, d, e, f, g, h⟩ → (rounds xs H 64).list = (cmpN (shaKN.drop t) (Wf ws t) (Wf ws (t + 1)) (Wf ws (t + 2)) (Wf ws (t + 3)) (Wf ws (t + 4)) (Wf ws (t + 5)) (Wf ws (t + 6)) (Wf ws (t + 7)) (Wf ws (t + 8)) (Wf ws (t + 9)) (Wf ws (t + 10)) (Wf ws (t + 11)) (Wf ws (t + 12)) (Wf ws (t + 13)) (Wf ws (t + 14)) (Wf ws (t + 15)) a b c d e f g h).map Int.ofNat
  | 0, t, a, b, c, d, e, f, g, h, ht, _, _, _, _, _, _, _, _, hr => by
    obtain rfl : t = 64 := by omega
    rw [hr, show shaKN.drop 64 = [] from rfl, cmpN_nil]; rfl
  | n + 1, t, a, b, c, d, e, f, g, h, ht, ha, hb, hc, hd, he, hf, hg, hh, hr => by
    have hk : shaKN.drop t = (shaK.getD t 0).toNat :: shaKN.drop (t + 1) := by
      have hl : t < shaKN.length := by show t < 64; omega
      rw [List.drop_eq_getElem_cons hl]
      congr 1
      have h2 : t < shaK.length := hl
      simp only [shaKN, List.getElem_map, List.getD_eq_getElem?_getD, List.getElem?_eq_getElem h2, Option.getD_some]
    have hk0 : shaK.getD t 0 = (((shaK.getD t 0).toNat : Nat) : Int) := by
      have h0 : ∀ x ∈ shaK, (0 : Int) ≤ x := by decide
      have h2 : t < shaK.length := by show t < 64; omega
      have := h0 (shaK.getD t 0) (by rw [List.getD_eq_getElem?_getD, List.getElem?_eq_getElem h2]; exact List.getElem_mem h2)
      omega
    have hs : rounds xs H (t + 1) = roundS ⟨a, b, c, d, e, f, g, h⟩ (((shaK.getD t 0).toNat : Nat) : Int) ((Wf ws t : Nat) : Int) := by
      rw [rounds, hr, ← hk0, wds_nat xs ws hw h16 64 t (by omega)]
    rw [round_nat a b c d e f g h _ _ ha hb hc he hf hg] at hs
    rw [hk, cmpN_cons, ← Wf_hi]
    have := rounds_nat xs H ws hw h16 n (t + 1) _ a b c _ e f g (by omega) (Nat.mod_lt _ (by omega)) ha hb hc (Nat.mod_lt _ (by omega)) he hf hg hs
    rw [show t + 1 + 1 = t + 2 by omega, show t + 1 + 2 = t + 3 by omega, show t + 1 + 3 = t + 4 by omega, show t + 1 + 4 = t + 5 by omega, show t + 1 + 5 = t + 6 by omega, show t + 1 + 6 = t + 7 by omega, show t + 1 + 7 = t + 8 by omega, show t + 1 + 8 = t + 9 by omega, show t + 1 + 9 = t + 10 by omega, show t + 1 + 10 = t + 11 by omega, show t + 1 + 11 = t + 12 by omega, show t + 1 + 12 = t + 13 by omega, show t + 1 + 13 = t + 14 by omega, show t + 1 + 14 = t + 15 by omega, show t + 1 + 15 = t + 16 by omega] at this
    exact this
theorem or_hi {n c k : Nat} (h : n < 2 ^ k) : c * 2 ^ k ||| n = c * 2 ^ k + n := by
  rw [Nat.mul_comm, ← Nat.two_pow_add_eq_or_of_lt h]
theorem wordB_nat (xs : List UInt8) (t : Nat) : wordB xs t = ((word4 (xs.getD (4 * t) 0) (xs.getD (4 * t + 1) 0) (xs.getD (4 * t + 2) 0) (xs.getD (4 * t + 3) 0) : Nat) : Int) := by
  unfold wordB bAt word4
  have l0 := (xs.getD (4 * t) 0).toNat_lt
  have l1 := (xs.getD (4 * t + 1) 0).toNat_lt
  have l2 := (xs.getD (4 * t + 2) 0).toNat_lt
  have l3 := (xs.getD (4 * t + 3) 0).toNat_lt
  obtain ⟨a, ha⟩ : ∃ a, (xs.getD (4 * t) 0).toNat = a := ⟨_, rfl⟩
  obtain ⟨b, hb⟩ : ∃ a, (xs.getD (4 * t + 1) 0).toNat = a := ⟨_, rfl⟩
  obtain ⟨c, hc⟩ : ∃ a, (xs.getD (4 * t + 2) 0).toNat = a := ⟨_, rfl⟩
  obtain ⟨d, hd⟩ : ∃ a, (xs.getD (4 * t + 3) 0).toNat = a := ⟨_, rfl⟩
  rw [ha] at l0
  rw [hb] at l1
  rw [hc] at l2
  rw [hd] at l3
  rw [ha, hb, hc, hd]
  have q1 : (a : Int) * 16777216 = ((a * 2 ^ 24 : Nat) : Int) := by rw [show (2 : Nat) ^ 24 = 16777216 from rfl]; omega
  have q2 : (b : Int) * 65536 = ((b * 65536 : Nat) : Int) := by omega
  have q3 : (c : Int) * 256 = ((c * 256 : Nat) : Int) := by omega
  have o1 := or_hi (n := b * 65536) (c := a) (k := 24) (by rw [show (2 : Nat) ^ 24 = 16777216 from rfl]; omega)
  have o2 := or_hi (n := c * 256) (c := a * 256 + b) (k := 16) (by rw [show (2 : Nat) ^ 16 = 65536 from rfl]; omega)
  have o3 := or_hi (n := d) (c := (a * 256 + b) * 256 + c) (k := 8) (by rw [show (2 : Nat) ^ 8 = 256 from rfl]; omega)
  have p24 : (2 : Nat) ^ 24 = 16777216 := rfl
  have p16 : (2 : Nat) ^ 16 = 65536 := rfl
  have p8 : (2 : Nat) ^ 8 = 256 := rfl
  rw [q1, q2, q3, (or32 _ _ (by rw [p24]; omega) (by omega)).1, o1]
  rw [show a * 2 ^ 24 + b * 65536 = (a * 256 + b) * 2 ^ 16 by rw [p24, p16]; omega, (or32 _ _ (by rw [p16]; omega) (by omega)).1, o2]
  rw [show (a * 256 + b) * 2 ^ 16 + c * 256 = ((a * 256 + b) * 256 + c) * 2 ^ 8 by rw [p16, p8]; omega, (or32 _ _ (by rw [p8]; omega) (by omega)).1, o3, p8]
theorem wordsN_len : ∀ (k : Nat) (xs : List UInt8), xs.length = 4 * k → (wordsN xs).length = k
  | 0, xs, h => by
    obtain rfl := List.eq_nil_of_length_eq_zero (by omega : xs.length = 0)
    rfl
  | k + 1, a :: b :: c :: d :: r, h => by
    have := wordsN_len k r (by simp at h; omega)
    simp [wordsN, this]
  | k + 1, [], h => by simp at h
  | k + 1, [_], h => by simp at h; omega
  | k + 1, [_, _], h => by simp at h; omega
  | k + 1, [_, _, _], h => by simp at h; omega
theorem wordsN_get : ∀ (k : Nat) (xs : List UInt8) (t : Nat), xs.length = 4 * k → t < k → (wordsN xs).getD t 0 = word4 (xs.getD (4 * t) 0) (xs.getD (4 * t + 1) 0) (xs.getD (4 * t + 2) 0) (xs.getD (4 * t + 3) 0)
  | 0, xs, t, h, ht => by omega
  | k + 1, a :: b :: c :: d :: r, t, h, ht => by
    cases t with
    | zero => rfl
    | succ t =>
      have := wordsN_get k r t (by simp at h; omega) (by omega)
      rw [wordsN, show 4 * (t + 1) = 4 * t + 1 + 1 + 1 + 1 by omega]
      simp only [List.getD_cons_succ]
      rw [this]
  | k + 1, [], t, h, _ => by simp at h
  | k + 1, [_], t, h, _ => by simp at h; omega
  | k + 1, [_, _], t, h, _ => by simp at h; omega
  | k + 1, [_, _, _], t, h, _ => by simp at h; omega
theorem wordsN_lt : ∀ (xs : List UInt8), ∀ x ∈ wordsN xs, x < 4294967296
  | a :: b :: c :: d :: r, x, hx => by
    simp only [wordsN, List.mem_cons] at hx
    rcases hx with rfl | hx
    · have := a.toNat_lt
      have := b.toNat_lt
      have := c.toNat_lt
      have := d.toNat_lt
      unfold word4; omega
    · exact wordsN_lt r x hx
  | [], x, hx => by simp [wordsN] at hx
  | [_], x, hx => by simp [wordsN] at hx
  | [_, _], x, hx => by simp [wordsN] at hx
  | [_, _, _], x, hx => by simp [wordsN] at hx
theorem cmpN_len : ∀ (ks : List Nat) (w0 w1 w2 w3 w4 w5 w6 w7 w8 w9 w10 w11 w12 w13 w14 w15 a b c d e f g h : Nat), (cmpN ks w0 w1 w2 w3 w4 w5 w6 w7 w8 w9 w10 w11 w12 w13 w14 w15 a b c d e f g h).length = 8
  | [], _, _, _, _, _, _, _, _, _, _, _, _, _, _, _, _, _, _, _, _, _, _, _, _ => rfl
  | k :: ks, _, _, _, _, _, _, _, _, _, _, _, _, _, _, _, _, _, _, _, _, _, _, _, _ => by rw [cmpN_cons]; exact cmpN_len ks _ _ _ _ _ _ _ _ _ _ _ _ _ _ _ _ _ _ _ _ _ _ _ _
theorem list8 {l : List Nat} (h : l.length = 8) : ∃ a b c d e f g h, l = [a, b, c, d, e, f, g, h] := by
  match l, h with
  | [a, b, c, d, e, f, g, h], _ => exact ⟨a, b, c, d, e, f, g, h, rfl⟩
theorem list16 {l : List Nat} (h : l.length = 16) : ∃ w0 w1 w2 w3 w4 w5 w6 w7 w8 w9 w10 w11 w12 w13 w14 w15, l = [w0, w1, w2, w3, w4, w5, w6, w7, w8, w9, w10, w11, w12, w13, w14, w15] := by
  match l, h with
  | [w0, w1, w2, w3, w4, w5, w6, w7, w8, w9, w10, w11, w12, w13, w14, w15], _ => exact ⟨w0, w1, w2, w3, w4, w5, w6, w7, w8, w9, w10, w11, w12, w13, w14, w15, rfl⟩
theorem blkL_nat (H : List Nat) (xs : List UInt8) (hH : H.length = 8) (hl : ∀ x ∈ H, x < 4294967296) (hx : xs.length = 64) : blkL (H.map Int.ofNat) xs = (blkN H (wordsN xs)).map Int.ofNat ∧ (blkN H (wordsN xs)).length = 8 ∧ ∀ x ∈ blkN H (wordsN xs), x < 4294967296 := by
  have hw := wordsN_lt xs
  have hwl := wordsN_len 16 xs (by omega)
  have h16 : ∀ t, t < 16 → wordB xs t = (((wordsN xs).getD t 0 : Nat) : Int) := fun t ht => by rw [wordB_nat, wordsN_get 16 xs t (by omega) ht]
  obtain ⟨ws, hws⟩ : ∃ ws, wordsN xs = ws := ⟨_, rfl⟩
  rw [hws] at hw hwl h16 ⊢
  obtain ⟨w0, w1, w2, w3, w4, w5, w6, w7, w8, w9, w10, w11, w12, w13, w14, w15, rfl⟩ := list16 hwl
  obtain ⟨a, b, c, d, e, f, g, h, rfl⟩ := list8 hH
  have hr := rounds_nat xs ([a, b, c, d, e, f, g, h].map Int.ofNat) _ hw h16 64 0 a b c d e f g h (by omega) (hl a (by simp)) (hl b (by simp)) (hl c (by simp)) (hl d (by simp)) (hl e (by simp)) (hl f (by simp)) (hl g (by simp)) (hl h (by simp)) rfl
  rw [show shaKN.drop 0 = shaKN from rfl] at hr
  simp only [Nat.zero_add] at hr
  rw [Wf_lo (t := 0) _ (by omega), Wf_lo (t := 1) _ (by omega), Wf_lo (t := 2) _ (by omega), Wf_lo (t := 3) _ (by omega), Wf_lo (t := 4) _ (by omega), Wf_lo (t := 5) _ (by omega), Wf_lo (t := 6) _ (by omega), Wf_lo (t := 7) _ (by omega), Wf_lo (t := 8) _ (by omega), Wf_lo (t := 9) _ (by omega), Wf_lo (t := 10) _ (by omega), Wf_lo (t := 11) _ (by omega), Wf_lo (t := 12) _ (by omega), Wf_lo (t := 13) _ (by omega), Wf_lo (t := 14) _ (by omega), Wf_lo (t := 15) _ (by omega)] at hr
  simp only [List.getD_cons_zero, List.getD_cons_succ] at hr
  have hb : blkN [a, b, c, d, e, f, g, h] [w0, w1, w2, w3, w4, w5, w6, w7, w8, w9, w10, w11, w12, w13, w14, w15] = addN [a, b, c, d, e, f, g, h] (cmpN shaKN w0 w1 w2 w3 w4 w5 w6 w7 w8 w9 w10 w11 w12 w13 w14 w15 a b c d e f g h) := rfl
  rw [hb]
  obtain ⟨R, hR⟩ : ∃ R, cmpN shaKN w0 w1 w2 w3 w4 w5 w6 w7 w8 w9 w10 w11 w12 w13 w14 w15 a b c d e f g h = R := ⟨_, rfl⟩
  have hRl : R.length = 8 := by rw [← hR]; exact cmpN_len _ _ _ _ _ _ _ _ _ _ _ _ _ _ _ _ _ _ _ _ _ _ _ _ _
  rw [hR] at hr ⊢
  obtain ⟨a', b', c', d', e', f', g', h', rfl⟩ := list8 hRl
  refine ⟨?_, rfl, fun x hx => ?_⟩
  · unfold blkL
    rw [hr]
    simp only [show List.range 8 = [0, 1, 2, 3, 4, 5, 6, 7] from rfl, List.map_cons, List.map_nil, List.getD_cons_zero, List.getD_cons_succ, addN, Int.ofNat_eq_natCast, Int.natCast_emod, Int.natCast_add]
    rfl
  · simp only [addN, List.mem_cons, List.not_mem_nil, or_false] at hx
    rcases hx with rfl | rfl | rfl | rfl | rfl | rfl | rfl | rfl <;> exact Nat.mod_lt _ (by omega)
def foldB : Nat → List Nat → List UInt8 → List Nat
  | 0, H, _ => H
  | k + 1, H, X => foldB k (blkN H (wordsN (X.take 64))) (X.drop 64)
def bytes4 (w : Nat) : List UInt8 := [UInt8.ofNat (w / 16777216 % 256), UInt8.ofNat (w / 65536 % 256), UInt8.ofNat (w / 256 % 256), UInt8.ofNat (w % 256)]
def shaH0N : List Nat := [1779033703, 3144134277, 1013904242, 2773480762, 1359893119, 2600822924, 528734635, 1541459225]
/-- SHA-256, as the kernel evaluates it fast -/
def shaF (s : List UInt8) : List UInt8 := (foldB ((s.length + (tailB s.length).length) / 64) shaH0N (s ++ tailB s.length)).flatMap bytes4
theorem foldB_eq : ∀ (k : Nat) (H : List Nat) (X : List UInt8), 64 * k ≤ X.length → H.length = 8 → (∀ x ∈ H, x < 4294967296) → blks k (H.map Int.ofNat) X = (foldB k H X).map Int.ofNat
  | 0, _, _, _, _, _ => rfl
  | k + 1, H, X, hX, hH, hl => by
    obtain ⟨e, l, b⟩ := blkL_nat H (X.take 64) hH hl (by rw [List.length_take]; omega)
    rw [blks, foldB, e]
    exact foldB_eq k _ _ (by rw [List.length_drop]; omega) l b
theorem bytes4_eq (w : Nat) : wordBytes (Int.ofNat w) = bytes4 w := by
  unfold wordBytes bytes4
  simp only [Int.ofNat_eq_natCast]
  have e1 : ((w : Int) / 16777216 % 256).toNat = w / 16777216 % 256 := by omega
  have e2 : ((w : Int) / 65536 % 256).toNat = w / 65536 % 256 := by omega
  have e3 : ((w : Int) / 256 % 256).toNat = w / 256 % 256 := by omega
  have e4 : ((w : Int) % 256).toNat = w % 256 := by omega
  rw [e1, e2, e3, e4]
theorem shaF_eq (s : List UInt8) : shaB s = shaF s := by
  unfold shaB shaF
  have h := foldB_eq ((s.length + (tailB s.length).length) / 64) shaH0N (s ++ tailB s.length) (by rw [List.length_append]; omega) rfl (by decide)
  rw [show shaH0N.map Int.ofNat = shaH0 from rfl] at h
  rw [h, List.flatMap_map]
  exact congrArg (fun f => List.flatMap f (foldB ((s.length + (tailB s.length).length) / 64) shaH0N (s ++ tailB s.length))) (funext bytes4_eq)
def onF : Nat → List UInt8 → List UInt8
  | 0, h => h
  | n + 1, h => onF n (shaF (2 :: h))
theorem onF_eq : ∀ (n : Nat) (h : List UInt8), onH n h = onF n h
  | 0, _ => rfl
  | n + 1, h => by rw [onH, onF, shaF_eq, onF_eq n]
end Go.Proofs.YtnpblpbcchminaaDoor
