import Derived.Test.YtnpblpbcchminaaGreatDoorRows
import Derived.Test.YtnpblpbcchminaaGreatDoorKbHashMem
import Derived.RegionTactic
import Derived.ChangeAlike
import Derived.BigQuiet
import Derived.Deep.QuietTactic
import Derived.StillTailTactics
import Derived.Outline
/- Words turned right. -/
namespace Go.Proofs.YtnpblpbcchminaaGreatDoor
open Go.ChangeShapes Go.WideShapes Go.ChangeAt Go.RowKit
set_option linter.unusedVariables false
/-- x turned right by n -/
def rotW (x n : Int) : Int := bits .or .u32 (x / 2 ^ n.toNat) (x * 2 ^ (32 - n.toNat) % 4294967296)

theorem turn_any (x n : Int) (w : World) (h1 : 1 ≤ n) (h2 : n ≤ 31) :
    Calls Tryz.prog 215 #[.int .u32 x, .int .i64 n] w fun ev w' => ev = .returned (.int .u32 (rotW x n)) ∧ ∃ k, w' = w.drewN k := by
  obtain ⟨m, rfl⟩ := Int.eq_ofNat_of_zero_le (show 0 ≤ n by omega)
  have H : Hid (rotW x (m : Int) = bits .or .u32 (x / 2 ^ m) (x * 2 ^ (32 - m) % 4294967296)) := Lib.hid rfl
  have h3 : 1 ≤ m := by omega
  have h4 : m ≤ 31 := by omega
  clear h1 h2
  go_enter Tryz.func215, Tryz.ntmps215
  go_wp2
  go_quiet (fail)
  go_wp2
  go_ret
  exact ⟨ret_int H.out.symm, _, rfl⟩

attribute [irreducible] rotW
end Go.Proofs.YtnpblpbcchminaaGreatDoor

/- SHA-256, in plain words: what the program's and the document's block compute. No program in sight. -/
namespace Go.Proofs.YtnpblpbcchminaaGreatDoor
open Go.ChangeShapes Go.WideShapes Go.ChangeAt Go.RowKit
set_option linter.unusedVariables false
def bAt (xs : List UInt8) (i : Nat) : Int := ((xs.getD i 0).toNat : Int)
/-- the word t of a block -/
def wordB (xs : List UInt8) (t : Nat) : Int :=
  bits .or .u32 (bits .or .u32 (bits .or .u32 (bAt xs (4 * t) * 16777216) (bAt xs (4 * t + 1) * 65536)) (bAt xs (4 * t + 2) * 256)) (bAt xs (4 * t + 3))
def sig0 (x : Int) : Int := bits .xor .u32 (bits .xor .u32 (rotW x 7) (rotW x 18)) (x / 8)
def sig1 (x : Int) : Int := bits .xor .u32 (bits .xor .u32 (rotW x 17) (rotW x 19)) (x / 1024)
def nextW (l : List Int) (t : Nat) : Int := (((l.getD (t - 16) 0 + sig0 (l.getD (t - 15) 0)) % 4294967296 + l.getD (t - 7) 0) % 4294967296 + sig1 (l.getD (t - 2) 0)) % 4294967296
/-- the first t words of the schedule -/
def wds (xs : List UInt8) : Nat → List Int
  | 0 => []
  | t + 1 => wds xs t ++ [if t < 16 then wordB xs t else nextW (wds xs t) t]
theorem wds_length (xs : List UInt8) : ∀ t, (wds xs t).length = t
  | 0 => rfl
  | t + 1 => by rw [wds, List.length_append, wds_length xs t]; rfl
theorem wds_lo {xs : List UInt8} {t : Nat} (h : t < 16) : wds xs (t + 1) = wds xs t ++ [wordB xs t] := by rw [wds, if_pos h]
theorem wds_hi {xs : List UInt8} {t : Nat} (h : 16 ≤ t) : wds xs (t + 1) = wds xs t ++ [nextW (wds xs t) t] := by rw [wds, if_neg (by omega)]
/-- the row while t words stand -/
def wrow (xs : List UInt8) (t : Nat) : List Int := wds xs t ++ List.replicate (64 - t) 0
theorem wrow_zero (xs : List UInt8) : wrow xs 0 = List.replicate 64 0 := by simp [wrow, wds]
theorem wrow_set (xs : List UInt8) (t : Nat) (v : Int) (h : t < 64) (hv : wds xs (t + 1) = wds xs t ++ [v]) : (wrow xs t).set t v = wrow xs (t + 1) := by
  unfold wrow
  rw [hv, show 64 - t = (64 - (t + 1)) + 1 by omega, List.replicate_succ, List.set_append_right _ _ (by rw [wds_length]; exact Nat.le_refl _), wds_length, Nat.sub_self, List.set_cons_zero, List.append_assoc]; rfl
theorem wrow_get (xs : List UInt8) (t i : Nat) (h : i < t) : (wrow xs t)[i]? = some ((wds xs t).getD i 0) := by
  unfold wrow
  rw [List.getElem?_append_left (by rw [wds_length]; exact h), List.getD_eq_getElem?_getD, List.getElem?_eq_getElem (by rw [wds_length]; exact h)]; rfl
theorem bAt_cell {xs : List UInt8} {i : Nat} (h : i < xs.length) : (bytesV xs)[i]? = some (.int .u8 (bAt xs i)) := by
  unfold bAt
  rw [List.getD_eq_getElem?_getD, List.getElem?_eq_getElem h]
  exact bytesV_get (List.getElem?_eq_getElem h)
theorem bAt_bd (xs : List UInt8) (i : Nat) : 0 ≤ bAt xs i ∧ bAt xs i < 256 := by
  have := (xs.getD i 0).toNat_lt; unfold bAt; omega
/-- the constants -/
def shaK : List Int := [1116352408, 1899447441, 3049323471, 3921009573, 961987163, 1508970993, 2453635748, 2870763221, 3624381080, 310598401, 607225278, 1426881987, 1925078388, 2162078206, 2614888103, 3248222580, 3835390401, 4022224774, 264347078, 604807628, 770255983, 1249150122, 1555081692, 1996064986, 2554220882, 2821834349, 2952996808, 3210313671, 3336571891, 3584528711, 113926993, 338241895, 666307205, 773529912, 1294757372, 1396182291, 1695183700, 1986661051, 2177026350, 2456956037, 2730485921, 2820302411, 3259730800, 3345764771, 3516065817, 3600352804, 4094571909, 275423344, 430227734, 506948616, 659060556, 883997877, 958139571, 1322822218, 1537002063, 1747873779, 1955562222, 2024104815, 2227730452, 2361852424, 2428436474, 2756734187, 3204031479, 3329325298]
structure St where
  a : Int
  b : Int
  c : Int
  d : Int
  e : Int
  f : Int
  g : Int
  h : Int
def roundX (s : St) (k w : Int) : Int :=
  (s.h + bits .xor .u32 (bits .xor .u32 (rotW s.e 6) (rotW s.e 11)) (rotW s.e 25) + bits .xor .u32 (bits .and .u32 s.e s.f) (bits .and .u32 (bits .xor .u32 (if IntKind.u32.signed = true then -1 else IntKind.u32.max) s.e) s.g) + k + w) % 4294967296
def roundY (s : St) : Int :=
  (bits .xor .u32 (bits .xor .u32 (rotW s.a 2) (rotW s.a 13)) (rotW s.a 22) + bits .xor .u32 (bits .xor .u32 (bits .and .u32 s.a s.b) (bits .and .u32 s.a s.c)) (bits .and .u32 s.b s.c)) % 4294967296
def roundS (s : St) (k w : Int) : St :=
  ⟨(roundX s k w + roundY s) % 4294967296, s.a, s.b, s.c, (s.d + roundX s k w) % 4294967296, s.e, s.f, s.g⟩
def stOf (H : List Int) : St := ⟨H.getD 0 0, H.getD 1 0, H.getD 2 0, H.getD 3 0, H.getD 4 0, H.getD 5 0, H.getD 6 0, H.getD 7 0⟩
def rounds (xs : List UInt8) (H : List Int) : Nat → St
  | 0 => stOf H
  | t + 1 => roundS (rounds xs H t) (shaK.getD t 0) ((wds xs 64).getD t 0)
def St.list (s : St) : List Int := [s.a, s.b, s.c, s.d, s.e, s.f, s.g, s.h]
/-- the eight words behind a block -/
def blkL (H : List Int) (xs : List UInt8) : List Int := (List.range 8).map fun i => (H.getD i 0 + (rounds xs H 64).list.getD i 0) % 4294967296
/-- the words while k of them are told -/
def hrow (H S : List Int) (k : Nat) : List Int := (List.range 8).map fun i => if i < k then (H.getD i 0 + S.getD i 0) % 4294967296 else H.getD i 0
theorem hrow_length (H S : List Int) (k : Nat) : (hrow H S k).length = 8 := by simp [hrow]
theorem hrow_get (H S : List Int) (k i : Nat) (hi : i < 8) : (hrow H S k)[i]? = some (if i < k then (H.getD i 0 + S.getD i 0) % 4294967296 else H.getD i 0) := by
  unfold hrow; rw [List.getElem?_map, List.getElem?_range hi]; rfl
theorem hrow_zero (H S : List Int) (h : H.length = 8) : hrow H S 0 = H := by
  apply List.ext_getElem?
  intro i
  by_cases hi : i < 8
  · rw [hrow_get H S 0 i hi, if_neg (by omega), List.getD_eq_getElem?_getD, List.getElem?_eq_getElem (by omega)]; rfl
  · rw [List.getElem?_eq_none (by rw [hrow_length]; omega), List.getElem?_eq_none (by omega)]
theorem hrow_set (H S : List Int) (k : Nat) (hk : k < 8) (v : Int) (hv : v = (H.getD k 0 + S.getD k 0) % 4294967296) : (hrow H S k).set k v = hrow H S (k + 1) := by
  apply List.ext_getElem?
  intro i
  by_cases hi : i < 8
  · rw [hrow_get H S (k + 1) i hi]
    by_cases e : i = k
    · subst e; rw [List.getElem?_set_self (by rw [hrow_length]; exact hk), if_pos (by omega), hv]
    · rw [List.getElem?_set_ne (by omega), hrow_get H S k i hi]
      by_cases hl : i < k
      · rw [if_pos hl, if_pos (by omega)]
      · rw [if_neg hl, if_neg (by omega)]
  · rw [List.getElem?_eq_none (by rw [List.length_set, hrow_length]; omega), List.getElem?_eq_none (by rw [hrow_length]; omega)]
theorem hrow_all (H : List Int) (xs : List UInt8) : hrow H (rounds xs H 64).list 8 = blkL H xs := by
  unfold hrow blkL
  refine List.map_congr_left fun i hi => ?_
  rw [if_pos (List.mem_range.1 hi)]
/-- the table in memory -/
def KTab (g : Nat) (w : World) : Prop := ∀ t, t < 64 → w.cell? ⟨g, t, none⟩ = some (.int .u32 (shaK.getD t 0))
theorem KTab.but {g : Nat} {S : Nat → Prop} {w w' : World} (h : KTab g w) (hb : But S w w') (hg : ¬ S g) : KTab g w' := fun t ht => hb.cell (h t ht) hg
theorem KTab.lt {g : Nat} {w : World} (h : KTab g w) : g < w.heap.size := block_of_cell (h 0 (by omega))
end Go.Proofs.YtnpblpbcchminaaGreatDoor

