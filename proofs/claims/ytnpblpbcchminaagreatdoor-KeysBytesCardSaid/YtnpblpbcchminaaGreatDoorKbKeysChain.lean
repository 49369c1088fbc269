import Derived.Test.YtnpblpbcchminaaGreatDoorKbVerifyIncl
/- Plain facts on one-time keys and trees of them. No program in sight. -/
namespace Go.Proofs.YtnpblpbcchminaaGreatDoor
open Go.ChangeShapes Go.WideShapes Go.ChangeAt Go.RowKit
set_option linter.unusedVariables false
/-- a hash that goes on by so many steps -/
def onH : Nat → List UInt8 → List UInt8
  | 0, h => h
  | n + 1, h => onH n (shaB (2 :: h))
theorem onH_snoc : ∀ (n : Nat) (h : List UInt8), onH (n + 1) h = shaB (2 :: onH n h)
  | 0, h => rfl
  | n + 1, h => by rw [onH, onH_snoc n, onH]
theorem onH_add : ∀ (n k : Nat) (h : List UInt8), onH k (onH n h) = onH (n + k) h
  | 0, k, h => by rw [Nat.zero_add]; rfl
  | n + 1, k, h => by rw [onH, onH_add n k, Nat.succ_add]; rfl
theorem onH_length {h : List UInt8} (hh : h.length = 32) : ∀ n, (onH n h).length = 32
  | 0 => hh
  | n + 1 => by rw [onH_snoc]; exact shaB_length _
/-- where a chain of a secret begins -/
def begB (s : List UInt8) (i : Nat) : List UInt8 := shaB (3 :: (s ++ [UInt8.ofNat (i / 256), UInt8.ofNat i]))
theorem begB_length (s : List UInt8) (i : Nat) : (begB s i).length = 32 := shaB_length _
/-- the halves of a message's bytes -/
def nibB (m : List UInt8) : List Nat := m.flatMap fun b => [b.toNat / 16, b.toNat % 16]
/-- what they lack, together -/
def lackB (l : List Nat) : Nat := (l.map (15 - ·)).sum
def digB (m : List UInt8) : List Nat := nibB m ++ [lackB (nibB m) / 256, lackB (nibB m) / 16 % 16, lackB (nibB m) % 16]
theorem nibB_length (m : List UInt8) : (nibB m).length = 2 * m.length := by
  induction m with
  | nil => rfl
  | cons b m ih => simp only [nibB, List.flatMap_cons, List.length_append] at ih ⊢; simp [ih]; omega
theorem nibB_le (m : List UInt8) : ∀ x ∈ nibB m, x ≤ 15 := by
  intro x hx
  simp only [nibB, List.mem_flatMap] at hx
  obtain ⟨b, -, h⟩ := hx
  have := b.toNat_lt
  simp at h
  omega
theorem lackB_le : ∀ l : List Nat, lackB l ≤ 15 * l.length
  | [] => by simp [lackB]
  | x :: l => by
    have := lackB_le l
    simp only [lackB, List.map_cons, List.sum_cons, List.length_cons] at this ⊢
    omega
theorem lackB_snoc (l : List Nat) (x : Nat) : lackB (l ++ [x]) = lackB l + (15 - x) := by simp [lackB]
theorem digB_length {m : List UInt8} (h : m.length = 32) : (digB m).length = 67 := by simp [digB, nibB_length, h]
theorem digB_le {m : List UInt8} (h : m.length = 32) : ∀ x ∈ digB m, x ≤ 15 := by
  intro x hx
  have h1 := lackB_le (nibB m)
  rw [nibB_length, h] at h1
  simp only [digB, List.mem_append] at hx
  rcases hx with hx | hx
  · exact nibB_le m x hx
  · simp at hx; omega
theorem nib_at : ∀ (m : List UInt8) (i : Nat) (x : UInt8), m[i / 2]? = some x → (nibB m)[i]? = some (if i % 2 = 0 then x.toNat / 16 else x.toNat % 16)
  | [], i, x, h => by simp at h
  | b :: m, 0, x, h => by simp at h; subst h; rfl
  | b :: m, 1, x, h => by simp at h; subst h; rfl
  | b :: m, i + 2, x, h => by
    rw [show (i + 2) / 2 = i / 2 + 1 by omega, List.getElem?_cons_succ] at h
    rw [show (i + 2) % 2 = i % 2 by omega, ← nib_at m i x h]
    simp [nibB]
/-- all chains as one hash -/
def endB (L : List (List UInt8)) : List UInt8 := shaB (4 :: L.flatten)
theorem endB_length (L : List (List UInt8)) : (endB L).length = 32 := shaB_length _
def pubB (s : List UInt8) : List UInt8 := endB ((List.range 67).map fun i => onH 15 (begB s i))
def sigB (s m : List UInt8) : List (List UInt8) := (List.range 67).map fun i => onH ((digB m).getD i 0) (begB s i)
def recB (m : List UInt8) (L : List (List UInt8)) : List UInt8 := endB ((List.range 67).map fun i => onH (15 - (digB m).getD i 0) (L.getD i []))
theorem sigB_length (s m : List UInt8) : (sigB s m).length = 67 := by simp [sigB]
theorem rec_sig {s m : List UInt8} (hm : m.length = 32) : recB m (sigB s m) = pubB s := by
  unfold recB pubB
  congr 1
  refine List.map_congr_left fun i hi => ?_
  have hi' : i < 67 := List.mem_range.1 hi
  have hg : (sigB s m).getD i [] = onH ((digB m).getD i 0) (begB s i) := by simp [sigB, List.getD_eq_getElem?_getD, hi']
  have hd : (digB m).getD i 0 ≤ 15 := by
    have hl := digB_length hm
    rw [List.getD_eq_getElem?_getD, List.getElem?_eq_getElem (by omega)]
    exact digB_le hm _ (List.getElem_mem _)
  rw [hg, onH_add, show (digB m).getD i 0 + (15 - (digB m).getD i 0) = 15 by omega]
/-- a number in four bytes -/
def fourB (i : Nat) : List UInt8 := [UInt8.ofNat (i / 16777216), UInt8.ofNat (i / 65536), UInt8.ofNat (i / 256), UInt8.ofNat i]
def ownB (s : List UInt8) (i : Nat) : List UInt8 := shaB (5 :: (s ++ fourB i))
def msgB (i : Nat) (t : List UInt8) : List UInt8 := shaB (6 :: (fourB i ++ t))
theorem ownB_length (s : List UInt8) (i : Nat) : (ownB s i).length = 32 := shaB_length _
theorem msgB_length (i : Nat) (t : List UInt8) : (msgB i t).length = 32 := shaB_length _
/-- the leaf of a key, by its public hash -/
def kleafB (p : List UInt8) : List UInt8 := leafH ⟨p.toArray⟩
theorem kleafB_length (p : List UInt8) : (kleafB p).length = 32 := leafH_length _
/-- the row above a row of hashes -/
def upB (l : List (List UInt8)) : List (List UInt8) := (List.range (l.length / 2)).map fun i => nodeH (l.getD (2 * i) []) (l.getD (2 * i + 1) [])
theorem upB_length (l : List (List UInt8)) : (upB l).length = l.length / 2 := by simp [upB]
theorem upB_mem (l : List (List UInt8)) : ∀ h ∈ upB l, h.length = 32 := by
  intro h hh
  simp only [upB, List.mem_map] at hh
  obtain ⟨i, -, rfl⟩ := hh
  exact nodeH_length _ _
theorem upB_get (l : List (List UInt8)) (i : Nat) (hi : i < l.length / 2) : (upB l)[i]? = some (nodeH (l.getD (2 * i) []) (l.getD (2 * i + 1) [])) := by simp [upB, hi]
/-- the rows over a row of leaves -/
def rowB (l : List (List UInt8)) : Nat → List (List UInt8)
  | 0 => l
  | j + 1 => upB (rowB l j)
theorem rowB_length {l : List (List UInt8)} {n : Nat} (hl : l.length = 2 ^ n) : ∀ j, j ≤ n → (rowB l j).length = 2 ^ (n - j)
  | 0, _ => hl
  | j + 1, h => by
    rw [rowB, upB_length, rowB_length hl j (by omega), show n - j = (n - (j + 1)) + 1 by omega, Nat.pow_succ]
    omega
theorem rowB_mem {l : List (List UInt8)} (hl : ∀ h ∈ l, h.length = 32) : ∀ j, ∀ h ∈ rowB l j, h.length = 32
  | 0 => hl
  | j + 1 => upB_mem _
def rootK (l : List (List UInt8)) (n : Nat) : List UInt8 := (rowB l n).getD 0 []
def pathK (l : List (List UInt8)) (n i : Nat) : List (List UInt8) := (List.range n).map fun j => (rowB l j).getD (i / 2 ^ j ^^^ 1) []
theorem pathK_length (l : List (List UInt8)) (n i : Nat) : (pathK l n i).length = n := by simp [pathK]
theorem xor_one (x : Nat) : x ^^^ 1 = if x % 2 = 0 then x + 1 else x - 1 := by
  have h1 : (x ^^^ 1) / 2 = x / 2 := by
    have := Nat.xor_div_two (a := x) (b := 1); simpa using this
  have h2 : (x ^^^ 1).testBit 0 = (x.testBit 0 ^^ (1 : Nat).testBit 0) := Nat.testBit_xor ..
  simp only [Nat.testBit_zero] at h2
  obtain ⟨y, hy⟩ : ∃ y, x ^^^ 1 = y := ⟨_, rfl⟩
  rw [hy] at h1 h2 ⊢
  by_cases q : x % 2 = 1 <;> simp [q] at h2 <;> split <;> omega
theorem Says.step {α : Type} (node : α → α → α) {n l : Nat} {h g r : α} {ps qs : List α} (hb : ∀ f, bot node (f + 1) (n / 2) (l / 2 + 1) g qs = some r → bot node (f + 1 + 1) n (l + 1) h ps = some r) (hs : Says node (n / 2) (l / 2) g qs r) : Says node n l h ps r := by
  obtain ⟨f, hf, q⟩ := hs
  exact ⟨f + 1, by rw [Nat.pow_succ]; omega, hb f q⟩
/-- a leaf's path says the root -/
theorem says_path {l : List (List UInt8)} {n i : Nat} (hl : l.length = 2 ^ n) (hi : i < 2 ^ n) : ∀ j, j ≤ n →
    Says nodeH (i / 2 ^ (n - j)) (2 ^ j - 1) ((rowB l (n - j)).getD (i / 2 ^ (n - j)) []) ((pathK l n i).drop (n - j)) (rootK l n)
  | 0, _ => by
    rw [Nat.sub_zero, Nat.div_eq_of_lt hi, List.drop_eq_nil_of_le (by rw [pathK_length]; omega)]
    exact ⟨0, by simp, bot_one _ (by omega)⟩
  | j + 1, h => by
    have ih := says_path hl hi j (by omega)
    obtain ⟨k, hk⟩ : ∃ k, n - (j + 1) = k := ⟨_, rfl⟩
    rw [show n - j = k + 1 by omega, Nat.pow_succ, ← Nat.div_div_eq_div_mul] at ih
    rw [hk]
    have hrl := rowB_length hl k (by omega)
    rw [show n - k = j + 1 by omega] at hrl
    have hP := Nat.two_pow_pos j
    have hps : 2 ^ (j + 1) = 2 ^ j * 2 := Nat.pow_succ 2 j
    have hlt : i / 2 ^ k < 2 ^ (j + 1) := by
      rw [Nat.div_lt_iff_lt_mul (Nat.two_pow_pos _), ← Nat.pow_add, show j + 1 + k = n by omega]
      exact hi
    obtain ⟨x, hx⟩ : ∃ x, i / 2 ^ k = x := ⟨_, rfl⟩
    rw [hx] at ih hlt ⊢
    have hd : (pathK l n i).drop k = (rowB l k).getD (x ^^^ 1) [] :: (pathK l n i).drop (k + 1) := by
      rw [List.drop_eq_getElem_cons (by rw [pathK_length]; omega)]
      congr 1
      simp [pathK, hx]
    have hup : (rowB l (k + 1)).getD (x / 2) [] = nodeH ((rowB l k).getD (2 * (x / 2)) []) ((rowB l k).getD (2 * (x / 2) + 1) []) := by
      rw [rowB, List.getD_eq_getElem?_getD, upB_get _ _ (by rw [hrl]; omega)]; rfl
    rw [hup, show 2 ^ j - 1 = (2 ^ (j + 1) - 1) / 2 by omega] at ih
    rw [hd, xor_one]
    refine Says.step nodeH (fun f q => ?_) ih
    by_cases ho : x % 2 = 0
    · rw [if_pos ho, bot_even _ (by omega) ho (by omega), show (2 ^ (j + 1) - 1 + 1 + 1) / 2 = (2 ^ (j + 1) - 1) / 2 + 1 by omega]
      rwa [show 2 * (x / 2) = x by omega] at q
    · rw [if_neg ho, bot_odd _ (by omega) (by omega), show (2 ^ (j + 1) - 1 + 1 + 1) / 2 = (2 ^ (j + 1) - 1) / 2 + 1 by omega]
      rwa [show 2 * (x / 2) = x - 1 by omega, show x - 1 + 1 = x by omega] at q
end Go.Proofs.YtnpblpbcchminaaGreatDoor
/- hash.Chain, onetime.on. Condition: the table reads as listed. -/
namespace Go.Proofs.YtnpblpbcchminaaGreatDoor
open Go.ChangeShapes Go.WideShapes Go.ChangeAt Go.RowKit
set_option linter.unusedVariables false
/-- texts in a row are a list of texts -/
theorem trd_at {w : World} {g n : Nat} {c : Array Value} {fr : Nat × Nat} (l : List ByteArray) (h : w.heap[g]? = some (.cells c 9 fr)) (hn : l.length = n) (hc : c = (l.map Value.string).toArray) : TRd w (.slice (some ⟨g, 0, none⟩) n n) l := by
  subst hn
  refine ⟨_, _, rfl, Nat.le_refl _, .inr ⟨_, _, rfl, fun j v hj => ?_⟩⟩
  rw [Nat.zero_add, cell_of_row w g j c 9 fr h, hc]
  simpa using hj
/-- a row of bytes in a block -/
theorem range_row {w : World} {g t : Nat} {c : Array Value} {fr : Nat × Nat} (p : List UInt8) (h : w.heap[g]? = some (.cells c t fr)) (hc : (bytesV p).toArray = c) : w.rangeAt g 0 (bytesV p) := fun j v hj => by
  rw [Nat.zero_add, cell_of_row w g j c t fr h, ← hc]
  simpa using hj
set_option maxRecDepth 100000 in
set_option maxHeartbeats 8000000 in
theorem chain_any (h : List UInt8) (n : Nat) (w : World) (hh : h.length = 32) (hn : n ≤ 255) (hK : KTab 17 w) :
    Calls Tryz.prog 184 #[hv h, .int .i64 n] w fun ev w' => ev = .returned (.tuple #[hv (onH n h), .nilIface]) ∧ Below w.heap.size w w' := by
  have HK := Lib.hid hK
  have HKl := Lib.hid hK.lt
  have HH := Lib.hid hh
  obtain ⟨v0, ev0, Hv0, Zv0, Iv0, Ov0⟩ := row_of h hh
  obtain ⟨wv, hwv⟩ : ∃ y9 : World, ((w.alloc (.cells v0 23)).alloc (.cells #[.int .u8 0, .int .u8 0, .int .u8 0, .int .u8 0, .int .u8 0, .int .u8 0, .int .u8 0, .int .u8 0, .int .u8 0, .int .u8 0, .int .u8 0, .int .u8 0, .int .u8 0, .int .u8 0, .int .u8 0, .int .u8 0, .int .u8 0, .int .u8 0, .int .u8 0, .int .u8 0, .int .u8 0, .int .u8 0, .int .u8 0, .int .u8 0, .int .u8 0, .int .u8 0, .int .u8 0, .int .u8 0, .int .u8 0, .int .u8 0, .int .u8 0, .int .u8 0] 23)) = y9 := ⟨_, rfl⟩
  have HBv : Hid (Below w.heap.size w wv) := Lib.hid (by rw [← hwv]; exact (((Below.refl _ _).alloc (by simp <;> omega) _).alloc (by simp <;> omega) _))
  have HSV : Hid (wv.heap.size = w.heap.size + 2) := Lib.hid (by rw [← hwv]; simp)
  have R0 : Hid (wv.heap[w.heap.size]? = some (.cells v0 23 (0, 0))) := Lib.hid (by rw [← hwv]; exact (((Below.refl (w.alloc (.cells v0 23)).heap.size (w.alloc (.cells v0 23))).alloc (Nat.le_refl _) _).block w.heap.size (by simp <;> omega)).trans (heap_at _ _ _ (by simp <;> omega)))
  have R1 : Hid (wv.heap[(w.heap.size + 1)]? = some (.cells #[.int .u8 0, .int .u8 0, .int .u8 0, .int .u8 0, .int .u8 0, .int .u8 0, .int .u8 0, .int .u8 0, .int .u8 0, .int .u8 0, .int .u8 0, .int .u8 0, .int .u8 0, .int .u8 0, .int .u8 0, .int .u8 0, .int .u8 0, .int .u8 0, .int .u8 0, .int .u8 0, .int .u8 0, .int .u8 0, .int .u8 0, .int .u8 0, .int .u8 0, .int .u8 0, .int .u8 0, .int .u8 0, .int .u8 0, .int .u8 0, .int .u8 0, .int .u8 0] 23 (0, 0))) := Lib.hid (by rw [← hwv]; exact heap_at _ _ _ (by simp <;> omega))
  have HWV := Lib.hid hwv
  have e1 : decide ((n : Int) < 0) = false := by simp
  have e2 : decide ((255 : Int) < n) = false := by simp; omega
  have e3 : ¬ ((255 : Int) < n) := by omega
  have EV0 := Lib.hid ev0
  rw [ev0]
  clear hK hh ev0 hwv
  go_enter Tryz.func184, Tryz.ntmps184
  go_upto_region 1 with fail
  rw [HWV.out]
  go_wp2_with fail
  go_loopw [15] (fun c wr => ∃ (i : Nat) (vi : Array Value), i ≤ n ∧ c = .int .i64 i ∧ Hid (hv (onH i h) = .agg vi) ∧ Hid ((bytesV (onH i h)).toArray = vi) ∧ Hid (wr.heap[w.heap.size]? = some (.cells vi 23 (0, 0))) ∧ Hid (wr.heap[w.heap.size + 1]? = some (.cells #[.int .u8 0, .int .u8 0, .int .u8 0, .int .u8 0, .int .u8 0, .int .u8 0, .int .u8 0, .int .u8 0, .int .u8 0, .int .u8 0, .int .u8 0, .int .u8 0, .int .u8 0, .int .u8 0, .int .u8 0, .int .u8 0, .int .u8 0, .int .u8 0, .int .u8 0, .int .u8 0, .int .u8 0, .int .u8 0, .int .u8 0, .int .u8 0, .int .u8 0, .int .u8 0, .int .u8 0, .int .u8 0, .int .u8 0, .int .u8 0, .int .u8 0, .int .u8 0] 23 (0, 0))) ∧ Hid (Below w.heap.size w wr)) (fun c _ => n - (intOf c).toNat)
  case atStart => exact ⟨0, v0, Nat.zero_le _, rfl, EV0, Hv0, R0, R1, HBv⟩
  case round =>
    obtain ⟨i, vi, hi, rfl, EVi, HVi, RI, RZ, HB⟩ := hrel
    have Zvi : Hid (vi.size = 32) := Lib.hid (by rw [← HVi.out]; simp [bytesV_length, onH_length HH.out])
    have Ivi : Hid ((Tryz.prog.info? 23).map (·.size) = some vi.size) := Lib.hid (by rw [Zvi.out]; kernel_rfl)
    have hl1 : w.heap.size + 1 < wr.heap.size := (Array.getElem?_eq_some_iff.1 RZ.out).1
    by_cases hlt : i < n
    · have hlt' : (i : Int) < n := by omega
      have kb := bytes_back wr w.heap.size 0 32 (onH i h) (onH_length HH.out i) (range_row _ RI.out HVi.out)
      obtain ⟨vn, evn, Hvn, Zvn, Ivn, Ovn⟩ := row_of (onH (i + 1) h) (onH_length HH.out _)
      have HC : Hid (shaB (catB [⟨#[2]⟩, ⟨(onH i h).toArray⟩]) = onH (i + 1) h) := Lib.hid (by rw [onH_snoc]; simp [catB, bOf])
      have HL : Hid ((catB [⟨#[2]⟩, ⟨(onH i h).toArray⟩]).length ≤ 140737488355328) := Lib.hid (by simp [catB, bOf, onH_length HH.out])
      obtain ⟨s, hs⟩ : ∃ s : ByteArray, ⟨(onH i h).toArray⟩ = s := ⟨_, rfl⟩
      rw [hs] at kb HC HL
      obtain ⟨wx, hwx⟩ : ∃ x, wr.alloc (.cells #[.string ⟨#[2]⟩, .string s] 9) = x := ⟨_, rfl⟩
      have HX : Hid (Below wr.heap.size wr wx) := Lib.hid (by rw [← hwx]; exact (Below.refl _ _).alloc (Nat.le_refl _) _)
      have HT1 : Hid (TRd wx (.slice (some ⟨wr.heap.size, 0, none⟩) 2 2) [⟨#[2]⟩, s]) := Lib.hid (by rw [← hwx]; exact trd_new wr _ 2 _ _ _ rfl rfl rfl)
      have HWX := Lib.hid hwx
      have EVN := Lib.hid evn
      clear hs hwx evn
      go_upto_region 5 with fail
      go_wp2_with fail
      rw [HWX.out]
      refine (sum_any (some ⟨wr.heap.size, 0, none⟩) 2 [⟨#[2]⟩, s] wx HT1.out HL.out (by simp) (ktab_below HK.out (HB.out.trans (HX.out.mono HB.out.size)) HKl.out)).mono ?_
      rw [HC.out, EVN.out]
      rintro ev w3 ⟨rfl, b3⟩
      have B3 : Hid (Below wr.heap.size wr w3) := Lib.hid (HX.out.trans (b3.mono HX.out.size))
      have RI3 := Lib.hid ((B3.out.block _ (by omega)).trans RI.out)
      have RZ3 := Lib.hid ((B3.out.block _ hl1).trans RZ.out)
      clear b3 kb
      go_upto_region 6 with (refine wpList_store_row_any rfl 23 _ _ rfl w.heap.size vn rfl rfl 23 _ RI3.out Ivn.out (by rw [Zvi.out, Zvn.out]) Ovn.out ?_; intro w4 hbN hgN hsN; have B4 := Lib.hid hbN; have R4 := Lib.hid hgN; clear hbN hgN hsN)
      go_wp2
      go_roundw
      case rel => exact ⟨i + 1, vn, by omega, by go_num, EVN, Hvn, R4, Lib.hid ((B4.out.same _ (by have := B3.out.size; omega) (by omega)).trans RZ3.out), Lib.hid ((HB.out.trans (B3.out.mono HB.out.size)).trans (B4.out.to_below (by have := HB.out.size; have := B3.out.size; omega) (fun k hk q => by omega)))⟩
      case measure => simp [intOf]; omega
    · obtain rfl : n = i := by omega
      have hlt' : ¬ ((n : Int) < n) := by omega
      go_wp2_with (first
        | (refine wpList_load_row rfl 23 _ rfl w.heap.size rfl 23 vi (0, 0) _ RI.out Tryz.underlying23 rfl Ivi.out ?_)
        | (refine wpList_store_row_any rfl 23 _ _ rfl (w.heap.size + 1) vi rfl rfl 23 _ RZ.out Ivi.out (by rw [Zvi.out]; rfl) (by rw [← HVi.out]; exact bytesV_all _) ?_; intro w4 hbN hgN hsN; have B4 := Lib.hid hbN; have R4 := Lib.hid hgN; clear hbN hgN hsN))
      refine bodyPost_ret (v := .tuple #[.agg vi, .nilIface]) (results_row_tmp rfl _ _ (w.heap.size + 1) 23 vi (0, 0) _ rfl R4.out Tryz.underlying23 rfl Ivi.out _ rfl) rfl ⟨by rw [EVi.out], HB.out.trans (B4.out.to_below (by have := HB.out.size; omega) (fun k hk q => by omega))⟩
set_option maxRecDepth 100000 in
set_option maxHeartbeats 8000000 in
theorem on_any (h : List UInt8) (n : Nat) (w : World) (hh : h.length = 32) (hn : n ≤ 255) (hK : KTab 17 w) :
    Calls Tryz.prog 121 #[hv h, .int .i64 n] w fun ev w' => ev = .returned (hv (onH n h)) ∧ Below w.heap.size w w' := by
  obtain ⟨v0, ev0, Hv0, Zv0, Iv0, Ov0⟩ := row_of h hh
  obtain ⟨vn, evn, Hvn, Zvn, Ivn, Ovn⟩ := row_of (onH n h) (onH_length hh n)
  obtain ⟨wv, hwv⟩ : ∃ y9 : World, ((w.alloc (.cells v0 23)).alloc (.cells #[.int .u8 0, .int .u8 0, .int .u8 0, .int .u8 0, .int .u8 0, .int .u8 0, .int .u8 0, .int .u8 0, .int .u8 0, .int .u8 0, .int .u8 0, .int .u8 0, .int .u8 0, .int .u8 0, .int .u8 0, .int .u8 0, .int .u8 0, .int .u8 0, .int .u8 0, .int .u8 0, .int .u8 0, .int .u8 0, .int .u8 0, .int .u8 0, .int .u8 0, .int .u8 0, .int .u8 0, .int .u8 0, .int .u8 0, .int .u8 0, .int .u8 0, .int .u8 0] 23)) = y9 := ⟨_, rfl⟩
  have HBv : Hid (Below w.heap.size w wv) := Lib.hid (by rw [← hwv]; exact (((Below.refl _ _).alloc (by simp <;> omega) _).alloc (by simp <;> omega) _))
  have HSV : Hid (wv.heap.size = w.heap.size + 2) := Lib.hid (by rw [← hwv]; simp)
  have R0 : Hid (wv.heap[w.heap.size]? = some (.cells v0 23 (0, 0))) := Lib.hid (by rw [← hwv]; exact (((Below.refl (w.alloc (.cells v0 23)).heap.size (w.alloc (.cells v0 23))).alloc (Nat.le_refl _) _).block w.heap.size (by simp <;> omega)).trans (heap_at _ _ _ (by simp <;> omega)))
  have R1 : Hid (wv.heap[(w.heap.size + 1)]? = some (.cells #[.int .u8 0, .int .u8 0, .int .u8 0, .int .u8 0, .int .u8 0, .int .u8 0, .int .u8 0, .int .u8 0, .int .u8 0, .int .u8 0, .int .u8 0, .int .u8 0, .int .u8 0, .int .u8 0, .int .u8 0, .int .u8 0, .int .u8 0, .int .u8 0, .int .u8 0, .int .u8 0, .int .u8 0, .int .u8 0, .int .u8 0, .int .u8 0, .int .u8 0, .int .u8 0, .int .u8 0, .int .u8 0, .int .u8 0, .int .u8 0, .int .u8 0, .int .u8 0] 23 (0, 0))) := Lib.hid (by rw [← hwv]; exact heap_at _ _ _ (by simp <;> omega))
  have HWV := Lib.hid hwv
  have HC : Hid (Calls Tryz.prog 184 #[.agg v0, .int .i64 n] wv fun ev w' => ev = .returned (.tuple #[.agg vn, .nilIface]) ∧ Below wv.heap.size wv w') := Lib.hid (by
    have := chain_any h n wv hh hn (ktab_below hK HBv.out hK.lt)
    rw [ev0, evn] at this; exact this)
  rw [ev0, evn]
  clear hK hh ev0 evn hwv
  go_enter Tryz.func121, Tryz.ntmps121
  go_upto_region 1 with fail
  rw [HWV.out]
  go_wp2_with (refine wpList_load_row rfl 23 _ rfl w.heap.size rfl 23 v0 (0, 0) _ R0.out Tryz.underlying23 rfl Iv0.out ?_)
  refine HC.out.mono ?_
  rintro ev w1 ⟨rfl, b1⟩
  have B1 := Lib.hid (HBv.out.trans (b1.mono HBv.out.size))
  have RA := Lib.hid ((b1.block _ (by have := HSV.out; omega)).trans R0.out)
  have RB := Lib.hid ((b1.block _ (by have := HSV.out; omega)).trans R1.out)
  have hs1 : w.heap.size + 1 < w1.heap.size := (Array.getElem?_eq_some_iff.1 RB.out).1
  clear b1
  go_upto_region 2 with (refine wpList_store_row_any rfl 23 _ _ rfl w.heap.size vn rfl rfl 23 _ RA.out Ivn.out (by rw [Zv0.out, Zvn.out]) Ovn.out ?_; intro w2 hbN hgN hsN; have B2 := Lib.hid hbN; have R2 := Lib.hid hgN; have S2 := Lib.hid hsN; clear hbN hgN hsN)
  have RC := Lib.hid ((B2.out.same _ hs1 (by omega)).trans RB.out)
  go_wp2_with (first
    | (refine wpList_load_row rfl 23 _ rfl w.heap.size rfl 23 vn (0, 0) _ R2.out Tryz.underlying23 rfl Ivn.out ?_)
    | (refine wpList_store_row_any rfl 23 _ _ rfl (w.heap.size + 1) vn rfl rfl 23 _ RC.out Ivn.out (by rw [Zvn.out]; rfl) Ovn.out ?_; intro w3 hbN hgN hsN; have B3 := Lib.hid hbN; have R3 := Lib.hid hgN; clear hbN hgN hsN))
  refine bodyPost_ret (v := .agg vn) (results_cell_row rfl _ _ (w.heap.size + 1) 23 vn (0, 0) _ rfl R3.out Tryz.underlying23 rfl Ivn.out) rfl ⟨rfl, ?_⟩
  exact (B1.out.trans (B2.out.to_below (by omega) (fun k hk q => by omega))).trans (B3.out.to_below (by have := S2.out; omega) (fun k hk q => by omega))
end Go.Proofs.YtnpblpbcchminaaGreatDoor
