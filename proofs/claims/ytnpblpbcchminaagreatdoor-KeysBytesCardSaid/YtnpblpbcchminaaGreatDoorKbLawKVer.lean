import Derived.SliceStrings
import Derived.Deep.Strs
import Derived.Deep.Slices
import Derived.SizedLaws
import Derived.Test.YtnpblpbcchminaaGreatDoorRows
import Derived.Deep.AppendLies
import Derived.Test.YtnpblpbcchminaaGreatDoorKbKrefC
import Derived.Test.YtnpblpbcchminaaGreatDoorKbRef18
/- cartularylaw01.TextsSize: how many bytes texts have, and one for each. No condition. A list of texts as an argument. -/
namespace Go.Proofs.YtnpblpbcchminaaGreatDoor
open Go.ChangeShapes Go.WideShapes Go.ChangeAt Go.RowKit
set_option linter.unusedVariables false
/-- a list of texts as an argument: its parts -/
def SIn (w : World) (A : Option Addr) (n cap : Nat) (l : List ByteArray) : Prop := l.length = n ∧ n ≤ cap ∧ cap ≤ 9223372036854775807 ∧ (∀ s ∈ l, s.size ≤ 140737488355328) ∧ n ≤ 140737488355328 ∧ (l = [] ∨ ∃ g o, A = some ⟨g, o, none⟩ ∧ w.rangeAt g o (l.map Value.string))
theorem SIn.below {w w' : World} {A : Option Addr} {n cap : Nat} {l : List ByteArray} (h : SIn w A n cap l) (hb : Below w.heap.size w w') : SIn w' A n cap l := by
  obtain ⟨h1, h2, h3, h4, h6, h5⟩ := h
  refine ⟨h1, h2, h3, h4, h6, ?_⟩
  rcases h5 with h5 | ⟨g, o, h6, h7⟩
  · exact .inl h5
  · by_cases hl : l = []
    · exact .inl hl
    · exact .inr ⟨g, o, h6, rangeAt_below hb h7 (rangeAt_lt h7 (by simpa using hl))⟩
theorem SIn.at {w : World} {A : Option Addr} {n cap : Nat} {l : List ByteArray} (h : SIn w A n cap l) {k : Nat} {s : ByteArray} (hk : l[k]? = some s) : ∃ g o, A = some ⟨g, o, none⟩ ∧ w.cell? ⟨g, o + k, none⟩ = some (.string s) ∧ g < w.heap.size ∧ s.size ≤ 140737488355328 := by
  obtain ⟨h1, h2, h3, h4, h6, h5⟩ := h
  rcases h5 with rfl | ⟨g, o, rfl, h7⟩
  · simp at hk
  · have hc := h7 k (.string s) (by simp [hk])
    exact ⟨g, o, rfl, hc, block_of_cell hc, h4 s (List.mem_of_getElem? hk)⟩
/-- how many bytes texts have, and one for each -/
def bulk (l : List ByteArray) : Nat := (l.map fun s => s.size + 1).sum
def bulkTo (l : List ByteArray) (k : Nat) : Nat := bulk (l.take k)
attribute [irreducible] bulkTo bulk
end Go.Proofs.YtnpblpbcchminaaGreatDoor

/- Arguments as the reader reads them: lists of hashes, a struct of two such lists and a number. No program in sight. -/
namespace Go.Proofs.YtnpblpbcchminaaGreatDoor
open Go.ChangeShapes Go.WideShapes Go.ChangeAt Go.RowKit Go.Deep
set_option linter.unusedVariables false
section
variable {H : Type} {enc : TypeId × Value → H} {P : Program} {w : World} {base : Nat} {spare : Nat → Bool} {held : Bool}
theorem byte_open {e : TypeId} {n : Nat} {cs : List Value} {x : DataW H × List MemPlace} (he : P.underlying e = some (.int .u8)) (h : DataW.trod enc P w base spare held n e cs = some x) : ∃ b : UInt8, cs = [byteV b] := by
  obtain ⟨m, rfl, rfl, hw⟩ := DataW.trod_int he h
  have hb := wf_u8 hw
  refine ⟨UInt8.ofNat (m % 256).toNat, ?_⟩
  rw [byteV_ofInt, Int.emod_eq_of_lt hb.1 hb.2]
theorem bytes_of_each : ∀ (cs : List Value), (∀ i, i < cs.length → ∃ b : UInt8, (cs.drop i).take 1 = [byteV b]) → ∃ l : List UInt8, cs = bytesV l
  | [], _ => ⟨[], rfl⟩
  | v :: r, h => by
    obtain ⟨b, hb⟩ := h 0 (by simp)
    simp at hb
    obtain ⟨l, rfl⟩ := bytes_of_each r (fun i hi => by simpa using h (i + 1) (by simpa using hi))
    exact ⟨b :: l, by rw [hb]; rfl⟩
theorem hash_open {t e : TypeId} {n k : Nat} {cs : List Value} {x : DataW H × List MemPlace} (ht : P.underlying t = some (.array k e)) (he : P.underlying e = some (.int .u8)) (hce : P.cellsOf e = 1) (hct : P.cellsOf t = k)
    (h : DataW.trod enc P w base spare held n t cs = some x) : ∃ l : List UInt8, l.length = k ∧ cs = bytesV l := by
  obtain ⟨xs, m, rfl, _, hl, hxl, hel⟩ := DataW.trod_array ht h
  rw [hct] at hl
  obtain ⟨l, rfl⟩ := bytes_of_each cs (fun i hi => by
    have := hel i (by omega)
    rw [hce, Nat.mul_one] at this
    obtain ⟨y, hy⟩ : ∃ y, xs[i]? = some y := ⟨_, List.getElem?_eq_getElem (by omega)⟩
    rw [hy] at this
    exact byte_open he this)
  exact ⟨l, by rw [← hl, bytesV_length], rfl⟩
theorem collect_list {α : Type} {Q : Nat → α → Prop} : ∀ (n : Nat), (∀ i, i < n → ∃ y, Q i y) → ∃ L : List α, L.length = n ∧ ∀ i y, L[i]? = some y → Q i y
  | 0, _ => ⟨[], rfl, fun i y h => by simp at h⟩
  | n + 1, h => by
    obtain ⟨L, hL, hq⟩ := collect_list n (fun i hi => h i (by omega))
    obtain ⟨y, hy⟩ := h n (by omega)
    refine ⟨L ++ [y], by simp [hL], fun i z hz => ?_⟩
    by_cases hi : i < n
    · rw [List.getElem?_append_left (by omega)] at hz; exact hq i z hz
    · rw [List.getElem?_append_right (by omega)] at hz
      obtain rfl : i = n := by have := (List.getElem?_eq_some_iff.1 hz).1; simp at this; omega
      simp [hL] at hz; subst hz; exact hy
theorem hashes_open {t q e : TypeId} {n : Nat} {cs : List Value} {x : DataW H × List MemPlace} (hs : P.underlying t = some (.slice q)) (hq : P.underlying q = some (.array 32 e)) (he : P.underlying e = some (.int .u8)) (hce : P.cellsOf e = 1) (hcq : P.cellsOf q = 32)
    (h : DataW.trod enc P w base spare held n t cs = some x) : ∃ A len cap l, cs = [.slice A len cap] ∧ HRd w (.slice A len cap) l ∧ l.length = len ∧ cap ≤ maxLen ∧ ∀ b, (∀ z ∈ x.1.weights P t, z ≤ b) → len * P.bytesOf q ≤ b := by
  rcases open_slice hs h with ⟨rfl, rfl⟩ | ⟨a, len, cap, m, k, D, Pl, rfl, hb, hl, hm, hmm, rfl, hx⟩
  · exact ⟨none, 0, 0, [], rfl, ⟨H32.nil, none, 0, rfl, Nat.le_refl _, .inl rfl⟩, rfl, Nat.zero_le _, fun b _ => by simp⟩
  · have hlm : len ≤ m := by rw [hmm]; split <;> omega
    obtain ⟨L, hL, hQ⟩ := collect_list (Q := fun i y => y.length = 32 ∧ ∀ j, j < 32 → w.cell? (a.add (i * 32 + j)) = (bytesV y)[j]?) len (fun i hi => by
      obtain ⟨cs', h1, h2⟩ := hx i (by omega)
      rw [hcq] at h1
      obtain ⟨_, _, h3⟩ := World.cells?_some h1
      obtain ⟨y, hy, rfl⟩ := hash_open hq he hce hcq h2
      exact ⟨y, hy, fun j hj => by rw [← add_add]; exact h3 j hj⟩)
    have h32 : H32 L := fun y hy => by
      obtain ⟨i, hi⟩ := List.getElem?_of_mem hy
      exact (hQ i y hi).1
    refine ⟨_, len, cap, L, rfl, ⟨h32, _, cap, by rw [hL], by omega, ?_⟩, hL, hm, fun b hb => Nat.le_trans (Nat.mul_le_mul_right _ (Nat.le_add_right len (m - len))) (hb _ (by simp [DataW.weights, hs]))⟩
    by_cases h0 : L = []
    · exact .inl h0
    · right
      have hpos : 0 < L.length := List.length_pos_iff.2 h0
      obtain ⟨b, o, sp⟩ := a
      have hcell : ∀ j v, (hashCells L)[j]? = some v → w.cell? ((⟨b, o, sp⟩ : Addr).add j) = some v := fun j v hj => by
        have hjl := (List.getElem?_eq_some_iff.1 hj).1
        rw [hashCells_length h32] at hjl
        obtain ⟨y, hy⟩ : ∃ y, L[j / 32]? = some y := ⟨_, List.getElem?_eq_getElem (by omega)⟩
        obtain ⟨hy1, hy2⟩ := hQ _ y hy
        obtain ⟨u, hu⟩ : ∃ u, (bytesV y)[j % 32]? = some u := ⟨_, List.getElem?_eq_getElem (by rw [bytesV_length]; omega)⟩
        have h3 := hashCells_at h32 hy hu
        have h4 := hy2 (j % 32) (by omega)
        rw [show j / 32 * 32 + j % 32 = j by omega] at h3 h4
        rw [h4, hu, ← h3, hj]
      have hc0 : ∃ v, (hashCells L)[0]? = some v := ⟨_, List.getElem?_eq_getElem (by rw [hashCells_length h32]; omega)⟩
      obtain ⟨v, hv⟩ := hc0
      have hspot : sp = none := by simpa [Addr.add] using World.cell?_spot (hcell 0 v hv)
      subst hspot
      exact ⟨b, o, rfl, fun j v hj => by rw [← Addr.add_mid]; exact hcell j v hj⟩
end
end Go.Proofs.YtnpblpbcchminaaGreatDoor

/- Arguments as the reader reads them: lists of texts; a stretch. -/
namespace Go.Proofs.YtnpblpbcchminaaGreatDoor
open Go.ChangeShapes Go.WideShapes Go.ChangeAt Go.RowKit Go.Deep
set_option linter.unusedVariables false
section
variable {H : Type} {enc : TypeId × Value → H} {W : World} {base : Nat} {spare : Nat → Bool} {held : Bool}
end
end Go.Proofs.YtnpblpbcchminaaGreatDoor
/- An argument of type Signed, and a text, opened. -/
namespace Go.Proofs.YtnpblpbcchminaaGreatDoor
open Go.ChangeShapes Go.WideShapes Go.ChangeAt Go.RowKit Go.Deep
set_option linter.unusedVariables false
section
variable {H : Type} {enc : TypeId × Value → H} {P : Program} {w : World} {base : Nat} {spare : Nat → Bool} {held : Bool}
theorem signed_open {t q e : TypeId} {f0 f1 f2 : Field} {n : Nat} {cs : List Value} {x : DataW H × List MemPlace} (ht : P.underlying t = some (.struct #[f0, f1, f2])) (o0 : f0.offset = 0) (o1 : f1.offset = 1) (o2 : f2.offset = 2)
    (hc : P.cellsOf t = 3) (c0 : P.cellsOf f0.type = 1) (c1 : P.cellsOf f1.type = 1) (c2 : P.cellsOf f2.type = 1) (s0 : P.underlying f0.type = some (.int .i64)) (s1 : P.underlying f1.type = some (.slice q)) (s2 : P.underlying f2.type = some (.slice q))
    (hq : P.underlying q = some (.array 32 e)) (he : P.underlying e = some (.int .u8)) (hce : P.cellsOf e = 1) (hcq : P.cellsOf q = 32)
    (h : DataW.trod enc P w base spare held n t cs = some x) : ∃ ix A1 n1 k1 l1 A2 n2 k2 l2, cs = [.int .i64 ix, .slice A1 n1 k1, .slice A2 n2 k2] ∧ HRd w (.slice A1 n1 k1) l1 ∧ l1.length = n1 ∧ k1 ≤ maxLen ∧
      HRd w (.slice A2 n2 k2) l2 ∧ l2.length = n2 ∧ k2 ≤ maxLen ∧ -9223372036854775808 ≤ ix ∧ ix ≤ 9223372036854775807 ∧ ∀ b, (∀ z ∈ x.1.weights P t, z ≤ b) → n1 * P.bytesOf q ≤ b ∧ n2 * P.bytesOf q ≤ b := by
  obtain ⟨y0, y1, y2, m, hx0, hl, h0, h1, h2⟩ := trod_struct3 ht h
  subst hx0
  rw [hc] at hl
  rw [o0, c0] at h0
  rw [o1, c1] at h1
  rw [o2, c2] at h2
  match cs, hl with
  | [x0, x1, x2], _ =>
    obtain ⟨ix, e3, _, hw⟩ := DataW.trod_int s0 h0
    obtain ⟨A1, n1, k1, l1, e1, r1, m1, b1, z1⟩ := hashes_open s1 hq he hce hcq h1
    obtain ⟨A2, n2, k2, l2, e2, r2, m2, b2, z2⟩ := hashes_open s2 hq he hce hcq h2
    simp at e1 e2 e3
    subst e1 e2 e3
    have := wf_i64 hw
    exact ⟨ix, A1, n1, k1, l1, A2, n2, k2, l2, rfl, r1, m1, b1, r2, m2, b2, this.1, this.2, fun b hb => ⟨z1 b (fun z hz => hb z (by simp only [DataW.weights, ht, DataW.weightsEach, List.map_cons, List.map_nil, List.mem_append]; exact .inr (.inl hz))), z2 b (fun z hz => hb z (by simp only [DataW.weights, ht, DataW.weightsEach, List.map_cons, List.map_nil, List.mem_append]; first | exact .inr (.inr (.inl hz)) | exact .inr (.inr hz)))⟩⟩
theorem hrd_in {w : World} {A : Option Addr} {n cap : Nat} {l : List (List UInt8)} (h : HRd w (.slice A n cap) l) (hn : l.length = n) (hc : cap ≤ maxLen) : HIn w A n cap l := by
  obtain ⟨h1, A', cap', e, h2, h3⟩ := h
  cases e
  exact ⟨h1, rfl, h2, by unfold maxLen at hc; omega, h3⟩
theorem signed_arg {W : World} {n : Nat} {cs : Array Value} {x : DataW H × List MemPlace}
    (h : DataW.trod enc Tryz.prog W base spare held n 26 cs.toList = some x) (hw : ∀ z ∈ x.1.weights Tryz.prog 26, z ≤ reachBytes) :
    ∃ ix A1 n1 c1 l1 A2 n2 c2 l2, cs = #[.int .i64 ix, .slice A1 n1 c1, .slice A2 n2 c2] ∧ HIn W A1 n1 c1 l1 ∧ HIn W A2 n2 c2 l2 ∧ n1 ≤ 9000000000000000000 ∧ n2 ≤ 9000000000000000000 ∧ -9223372036854775808 ≤ ix ∧ ix ≤ 9223372036854775807 := by
  obtain ⟨ix, A1, n1, c1, l1, A2, n2, c2, l2, hcs, r1, e1, m1, r2, e2, m2, i0, i1, hsz⟩ := signed_open (e := 5) Tryz.underlying26 rfl rfl rfl (by kernel_rfl) (by kernel_rfl) (by kernel_rfl) (by kernel_rfl) (by kernel_rfl) (by kernel_rfl) (by kernel_rfl) (by kernel_rfl) (by kernel_rfl) (by kernel_rfl) (by kernel_rfl) h
  have hz := hsz _ hw
  have hb : Tryz.prog.bytesOf 23 = 32 := by kernel_rfl
  have hr := reachBytes_lt
  rw [hb] at hz
  refine ⟨ix, A1, n1, c1, l1, A2, n2, c2, l2, ?_, hrd_in r1 e1 m1, hrd_in r2 e2 m2, by omega, by omega, i0, i1⟩
  cases cs
  simp at hcs
  rw [hcs]
theorem string_arg {W : World} {n : Nat} {cs : List Value} {x : DataW H × List MemPlace} (h : DataW.trod enc Tryz.prog W base spare held n 9 cs = some x) (hw : ∀ z ∈ x.1.weights Tryz.prog 9, z ≤ reachBytes) :
    ∃ s : ByteArray, cs = [.string s] ∧ s.size ≤ 9000000000000000000 := by
  obtain ⟨s, rfl, rfl, _⟩ := DataW.trod_string Tryz.underlying9 h
  have hr := reachBytes_lt
  have := hw s.size (by simp [DataW.weights])
  exact ⟨s, rfl, by omega⟩
end
end Go.Proofs.YtnpblpbcchminaaGreatDoor
/- verify.Root, Inclusion where the path is too long or too short, or the leaf is none. Condition: the package-level variables read as listed. -/
namespace Go.Proofs.YtnpblpbcchminaaGreatDoor
open Go.ChangeShapes Go.WideShapes Go.ChangeAt Go.RowKit
set_option linter.unusedVariables false
section
variable {α : Type} (node : α → α → α)
/-- from the node n of a level whose last is l, with h in hand, the hashes ps say no root: there are too many or too few -/
def SaysN (n l : Nat) (h : α) (ps : List α) : Prop := ∃ f, l + 1 ≤ 2 ^ f ∧ bot node (f + 1) n (l + 1) h ps = none
theorem SaysN.nil {n l : Nat} {h : α} (hs : SaysN node n l h []) : l ≠ 0 := by
  obtain ⟨f, _, hb⟩ := hs
  intro e
  subst e
  rw [bot_one node (by omega)] at hb
  cases hb
theorem SaysN.fuel {n l : Nat} {h : α} {ps : List α} (hs : SaysN node n l h ps) (hl : 0 < l) : ∃ f, l + 1 ≤ 2 ^ (f + 1) ∧ bot node (f + 1 + 1) n (l + 1) h ps = none := by
  obtain ⟨f, hf, hb⟩ := hs
  cases f with
  | zero => simp at hf; omega
  | succ f => exact ⟨f, hf, hb⟩
theorem SaysN.lone {n : Nat} {h : α} {ps : List α} (hs : SaysN node n n h ps) (hn : 0 < n) (he : n % 2 = 0) : SaysN node (n / 2) (n / 2) h ps := by
  obtain ⟨f, hf, hb⟩ := hs.fuel node hn
  rw [Nat.pow_succ] at hf
  rw [bot_last node (by omega) ⟨he, by omega⟩, show (n + 1 + 1) / 2 = n / 2 + 1 by omega] at hb
  exact ⟨f, by omega, hb⟩
theorem SaysN.odd {n l : Nat} {h p : α} {ps : List α} (hs : SaysN node n l h (p :: ps)) (hl : 0 < l) (ho : n % 2 = 1) : SaysN node (n / 2) (l / 2) (node p h) ps := by
  obtain ⟨f, hf, hb⟩ := hs.fuel node hl
  rw [Nat.pow_succ] at hf
  rw [bot_odd node (by omega) ho, show (l + 1 + 1) / 2 = l / 2 + 1 by omega] at hb
  exact ⟨f, by omega, hb⟩
theorem SaysN.even {n l : Nat} {h p : α} {ps : List α} (hs : SaysN node n l h (p :: ps)) (hl : 0 < l) (he : n % 2 = 0) (hn : n ≠ l) : SaysN node (n / 2) (l / 2) (node h p) ps := by
  obtain ⟨f, hf, hb⟩ := hs.fuel node hl
  rw [Nat.pow_succ] at hf
  rw [bot_even node (by omega) he (by omega), show (l + 1 + 1) / 2 = l / 2 + 1 by omega] at hb
  exact ⟨f, by omega, hb⟩
theorem SaysN.up {n : Nat} {h : α} {ps : List α} (hs : SaysN node n n h ps) : ∀ k, (∀ j, j < k → n / 2 ^ j % 2 = 0 ∧ n / 2 ^ j ≠ 0) → SaysN node (n / 2 ^ k) (n / 2 ^ k) h ps
  | 0, _ => by simpa using hs
  | k + 1, hk => by
    have ih := SaysN.up hs k (fun j hj => hk j (by omega))
    have h1 := hk k (by omega)
    have := ih.lone node (Nat.pos_of_ne_zero h1.2) h1.1
    rwa [Nat.div_div_eq_div_mul, ← Nat.pow_succ] at this
end
end Go.Proofs.YtnpblpbcchminaaGreatDoor
/- keys.Verify where it answers an error. Condition: the table reads as listed. -/
namespace Go.Proofs.YtnpblpbcchminaaGreatDoor
open Go.ChangeShapes Go.WideShapes Go.ChangeAt Go.RowKit
set_option linter.unusedVariables false

end Go.Proofs.YtnpblpbcchminaaGreatDoor
/- cartularylaw01.Beyond: are lengths, taken together, too many? No condition. -/
namespace Go.Proofs.YtnpblpbcchminaaGreatDoor
open Go.ChangeShapes Go.WideShapes Go.ChangeAt Go.RowKit
set_option linter.unusedVariables false
/-- the sum of the first k -/
def sumTo (l : List Nat) (k : Nat) : Nat := (l.take k).sum
theorem sumTo_step {l : List Nat} {k x : Nat} (h : l[k]? = some x) : sumTo l (k + 1) = sumTo l k + x := by
  unfold sumTo; rw [List.take_add_one, h]; simp
theorem sumTo_le (l : List Nat) (k : Nat) : sumTo l k ≤ l.sum := by
  unfold sumTo
  have := List.sum_append (l₁ := l.take k) (l₂ := l.drop k)
  rw [List.take_append_drop] at this; omega
theorem sumTo_all (l : List Nat) : sumTo l l.length = l.sum := by unfold sumTo; rw [List.take_length]
attribute [irreducible] sumTo
set_option maxRecDepth 100000 in
set_option maxHeartbeats 2000000 in
theorem beyond_any (l : List Nat) (g n c : Nat) (w : World) (hn : l.length = n) (hx : ∀ x ∈ l, x ≤ 9000000000000000000) (hr : ∀ (j x : Nat), l[j]? = some x → w.cell? ⟨g, j, none⟩ = some (.int .i64 x)) (hnm : n ≤ 1000) :
    Calls Tryz.prog 6 #[.slice (some ⟨g, 0, none⟩) n c] w fun ev w' => ev = .returned (.bool (decide (1048576 < l.sum))) ∧ w = w' := by
  have HN := Lib.hid (And.intro hn (And.intro hx hr))
  clear hn hx hr
  go_enter Tryz.func6, Tryz.ntmps6
  go_wp2
  go_loop [3, 4] (fun s i => ∃ k t : Nat, k ≤ n ∧ i = .int .i64 k ∧ s = .int .i64 t ∧ t ≤ 1048576 ∧ Hid (t = sumTo l k)) (fun _ i => n - (intOf i).toNat)
  case atStart => exact ⟨0, 0, Nat.zero_le _, rfl, rfl, by omega, Lib.hid (by unfold sumTo; simp)⟩
  case round =>
    obtain ⟨k, t, hk, rfl, rfl, ht, HT⟩ := hrel
    by_cases hlt : k < n
    · obtain ⟨x, hx⟩ : ∃ x, l[k]? = some x := ⟨_, List.getElem?_eq_getElem (by have := HN.out.1; omega)⟩
      have hc := HN.out.2.2 k x hx
      have hxb := HN.out.2.1 x (List.mem_of_getElem? hx)
      have hst := Lib.hid (sumTo_step hx)
      have i0 : (0 : Int) ≤ k := by omega
      have i1 : (k : Int) < n := by omega
      clear hx
      by_cases hgt : 1048576 < t + x
      · have hgt' : (1048576 : Int) < (t : Int) + x := by omega
        go_wp2
        go_ret
        refine ⟨ret_bool ?_, rfl⟩
        have := sumTo_le l (k + 1)
        have h1 := hst.out
        have h2 := HT.out
        simp; omega
      · have hle : ((t : Int) + x) ≤ 1048576 := by omega
        go_wp2
        go_round
        case rel => exact ⟨k + 1, t + x, by omega, by go_num, by go_num, by omega, Lib.hid (by rw [hst.out, HT.out])⟩
        case measure => simp [intOf]; omega
    · obtain rfl : k = n := by omega
      go_wp2
      go_ret
      refine ⟨ret_bool ?_, rfl⟩
      have h2 := HT.out
      rw [← HN.out.1, sumTo_all] at h2
      simp; omega
end Go.Proofs.YtnpblpbcchminaaGreatDoor
/- What a path says in a tree of a power of two, plain. Condition: the table reads as listed. -/
namespace Go.Proofs.YtnpblpbcchminaaGreatDoor
open Go.ChangeShapes Go.WideShapes Go.ChangeAt Go.RowKit
set_option linter.unusedVariables false
end Go.Proofs.YtnpblpbcchminaaGreatDoor
/- cartularyref22.Digits, Recover. Condition: the table reads as listed. -/
namespace Go.Proofs.YtnpblpbcchminaaGreatDoor
open Go.ChangeShapes Go.WideShapes Go.ChangeAt Go.RowKit
set_option linter.unusedVariables false

end Go.Proofs.YtnpblpbcchminaaGreatDoor
/- cartularyref23.Verify. Condition: the table reads as listed. -/
namespace Go.Proofs.YtnpblpbcchminaaGreatDoor
open Go.ChangeShapes Go.WideShapes Go.ChangeAt Go.RowKit
set_option linter.unusedVariables false

end Go.Proofs.YtnpblpbcchminaaGreatDoor
/- cartularylaw23.KeysVerifies. Condition: the table reads as listed. -/
namespace Go.Proofs.YtnpblpbcchminaaGreatDoor
open Go.ChangeShapes Go.WideShapes Go.ChangeAt Go.RowKit
set_option linter.unusedVariables false

set_option maxRecDepth 100000 in
set_option maxHeartbeats 8000000 in
theorem twin_signed (x : Int) (m n : Nat) (A A2 : Option Addr) (c c2 : Nat) (C P : List (List UInt8)) (w : World) (h1 : HIn w A m c C) (h2 : HIn w A2 n c2 P) (hm : m ≤ 1048576) (hn : n ≤ 1048576) :
    Calls Tryz.prog 7 #[.agg #[.int .i64 x, .slice A m c, .slice A2 n c2]] w fun ev w' => ∃ G1 G2, ev = .returned (.agg #[.int .i64 x, .slice (some ⟨G1, 0, none⟩) m (m + 1), .slice (some ⟨G2, 0, none⟩) n (n + 1)]) ∧ Twin w' G1 C ∧ Twin w' G2 P ∧ Below w.heap.size w w' := by
  obtain ⟨wv, hwv⟩ : ∃ y9 : World, ((w.alloc (.cells #[.int .i64 x, .slice A m c, .slice A2 n c2] 26)).alloc (.cells #[.int .i64 0, .slice none 0 0, .slice none 0 0] 26)) = y9 := ⟨_, rfl⟩
  have HBv : Hid (Below w.heap.size w wv) := Lib.hid (by rw [← hwv]; exact (((Below.refl _ _).alloc (by simp <;> omega) _).alloc (by simp <;> omega) _))
  have HSV : Hid (wv.heap.size = w.heap.size + 2) := Lib.hid (by rw [← hwv]; simp)
  have RA : Hid (wv.heap[w.heap.size]? = some (.cells #[.int .i64 x, .slice A m c, .slice A2 n c2] 26 (0, 0))) := Lib.hid (by rw [← hwv]; exact (((Below.refl (w.alloc (.cells #[.int .i64 x, .slice A m c, .slice A2 n c2] 26)).heap.size (w.alloc (.cells #[.int .i64 x, .slice A m c, .slice A2 n c2] 26))).alloc (Nat.le_refl _) _).block w.heap.size (by simp <;> omega)).trans (heap_at _ _ _ (by simp <;> omega)))
  have RB : Hid (wv.heap[(w.heap.size + 1)]? = some (.cells #[.int .i64 0, .slice none 0 0, .slice none 0 0] 26 (0, 0))) := Lib.hid (by rw [← hwv]; exact heap_at _ _ _ (by simp <;> omega))
  have HWV := Lib.hid hwv
  have hsv := HSV.out
  have H1 := Lib.hid (h1.below HBv.out)
  have H20 := Lib.hid h2
  have HT1 := Lib.hid (twin_any A m c C wv H1.out hm)
  have z1 : wv.cell? ⟨w.heap.size, 1, none⟩ = some (.slice A m c) := (cell_of_row wv _ 1 _ 26 (0, 0) RA.out).trans rfl
  clear h1 h2 hwv
  go_enter Tryz.func7, Tryz.ntmps7
  go_upto_region 1 with fail
  rw [HWV.out]
  go_wp2_with fail
  refine HT1.out.mono ?_
  obtain ⟨G1, hG1⟩ : ∃ G, wv.heap.size = G := ⟨_, rfl⟩
  rw [hG1]
  rintro ev w1 ⟨rfl, ht1, b1⟩
  have T1 := Lib.hid ht1
  have B1 := Lib.hid b1
  have R1 : Hid (w1.heap[w.heap.size]? = some (.cells #[.int .i64 x, .slice A m c, .slice A2 n c2] 26 (0, 0))) := Lib.hid ((b1.block _ (by omega)).trans RA.out)
  have RB1 := Lib.hid ((b1.block _ (show w.heap.size + 1 < G1 by omega)).trans RB.out)
  have hs1 := T1.out.lt
  have y1 : w1.cell? ⟨w.heap.size, 1, none⟩ = some (.slice A m c) := (cell_of_row w1 _ 1 _ 26 (0, 0) R1.out).trans rfl
  have yf := frozen_of_row w1 w.heap.size 1 _ 26 R1.out
  clear ht1 b1 z1
  go_upto_region 2 with fail
  obtain ⟨w2, hw2⟩ : ∃ y, w1.setCell ⟨w.heap.size, 1, none⟩ (.slice (some ⟨G1, 0, none⟩) m (m + 1)) = y := ⟨_, rfl⟩
  have K2 : Hid (But (· = w.heap.size) w1 w2) := Lib.hid (by rw [← hw2]; exact (But.refl _ _).setCell _ _ _ (fun _ => rfl))
  have R2 : Hid (w2.heap[w.heap.size]? = some (.cells #[.int .i64 x, .slice (some ⟨G1, 0, none⟩) m (m + 1), .slice A2 n c2] 26 (0, 0))) := Lib.hid (by rw [← hw2]; exact heap_setCell_same w1 _ 1 _ 26 _ R1.out)
  have T2 := Lib.hid (T1.out.same (K2.out.same _ hs1 (by omega)))
  have RB2 := Lib.hid ((K2.out.same _ (by omega) (by omega)).trans RB1.out)
  have BW2 : Hid (Below w.heap.size w w2) := Lib.hid (HBv.out.trans ((B1.out.mono (by omega)).trans (K2.out.to_below (by omega) (fun k hk q => by omega))))
  have H22 := Lib.hid (H20.out.below BW2.out)
  have hs2 := K2.out.size
  have HT2 := Lib.hid (twin_any A2 n c2 P w2 H22.out hn)
  rw [hw2]
  clear hw2 y1 yf
  have z2 : w2.cell? ⟨w.heap.size, 2, none⟩ = some (.slice A2 n c2) := (cell_of_row w2 _ 2 _ 26 (0, 0) R2.out).trans rfl
  go_wp2_with fail
  refine HT2.out.mono ?_
  obtain ⟨G2, hG2⟩ : ∃ G, w2.heap.size = G := ⟨_, rfl⟩
  rw [hG2]
  rintro ev w3 ⟨rfl, ht3, b3⟩
  have T3 := Lib.hid ht3
  have B3 := Lib.hid b3
  have R3 : Hid (w3.heap[w.heap.size]? = some (.cells #[.int .i64 x, .slice (some ⟨G1, 0, none⟩) m (m + 1), .slice A2 n c2] 26 (0, 0))) := Lib.hid ((b3.block _ (by omega)).trans R2.out)
  have RB3 := Lib.hid ((b3.block _ (show w.heap.size + 1 < G2 by omega)).trans RB2.out)
  have T13 := Lib.hid (T2.out.same (b3.block _ (by omega)))
  have hs3 := T3.out.lt
  have y1 : w3.cell? ⟨w.heap.size, 2, none⟩ = some (.slice A2 n c2) := (cell_of_row w3 _ 2 _ 26 (0, 0) R3.out).trans rfl
  have yf := frozen_of_row w3 w.heap.size 2 _ 26 R3.out
  clear ht3 b3 z2
  go_upto_region 3 with fail
  obtain ⟨w4, hw4⟩ : ∃ y, w3.setCell ⟨w.heap.size, 2, none⟩ (.slice (some ⟨G2, 0, none⟩) n (n + 1)) = y := ⟨_, rfl⟩
  have K4 : Hid (But (· = w.heap.size) w3 w4) := Lib.hid (by rw [← hw4]; exact (But.refl _ _).setCell _ _ _ (fun _ => rfl))
  obtain ⟨sv, hsv9⟩ : ∃ y : Array Value, #[.int .i64 x, .slice (some ⟨G1, 0, none⟩) m (m + 1), .slice (some ⟨G2, 0, none⟩) n (n + 1)] = y := ⟨_, rfl⟩
  have Zsv : Hid (sv.size = 3) := Lib.hid (by rw [← hsv9]; rfl)
  have Isv : Hid ((Tryz.prog.info? 26).map (·.size) = some sv.size) := Lib.hid (by rw [Zsv.out]; kernel_rfl)
  have Osv : Hid (sv.all (·.oneCell') = true) := Lib.hid (by rw [← hsv9]; simp [Value.oneCell'])
  have Hsv9 := Lib.hid hsv9

  have R4 : Hid (w4.heap[w.heap.size]? = some (.cells sv 26 (0, 0))) := Lib.hid (by rw [← hw4, ← hsv9]; exact heap_setCell_same w3 _ 2 _ 26 _ R3.out)
  have RB4 := Lib.hid ((K4.out.same _ (by omega) (by omega)).trans RB3.out)
  have TA := Lib.hid (T13.out.same (K4.out.same _ (by omega) (by omega)))
  have TB := Lib.hid (T3.out.same (K4.out.same _ hs3 (by omega)))
  have BW4 : Hid (Below w.heap.size w w4) := Lib.hid (BW2.out.trans ((B3.out.mono (by omega)).trans (K4.out.to_below (by omega) (fun k hk q => by omega))))
  have hs4 := K4.out.size
  rw [hw4]
  clear hw4 y1 yf hsv9
  go_wp2_with (first
    | (refine wpList_load_row rfl 26 _ rfl w.heap.size rfl 26 sv (0, 0) _ R4.out Tryz.underlying26 rfl Isv.out ?_)
    | (refine wpList_store_row_any rfl 26 _ _ rfl (w.heap.size + 1) sv rfl rfl 26 _ RB4.out Isv.out (by rw [Zsv.out]; rfl) Osv.out ?_; intro w5 hbN hgN hsN; have B5 := Lib.hid hbN; have R5 := Lib.hid hgN; clear hbN hgN hsN))
  refine bodyPost_ret (v := .agg sv) (results_cell_row rfl _ _ (w.heap.size + 1) 26 sv (0, 0) _ rfl R5.out Tryz.underlying26 rfl Isv.out) rfl ⟨G1, G2, by rw [Hsv9.out], TA.out.same (B5.out.same _ (by omega) (by omega)), TB.out.same (B5.out.same _ (by omega) (by omega)), BW4.out.trans (B5.out.to_below (by omega) (fun k hk q => by omega))⟩

set_option maxRecDepth 100000 in
set_option maxHeartbeats 8000000 in
theorem left_signed (x : Int) (m n : Nat) (A A2 : Option Addr) (c c2 G1 G2 : Nat) (C P : List (List UInt8)) (w : World) (h1 : HIn w A m c C) (h2 : HIn w A2 n c2 P) (t1 : Twin w G1 C) (t2 : Twin w G2 P) (hm : m ≤ 1048576) (hn : n ≤ 1048576) :
    Calls Tryz.prog 11 #[.agg #[.int .i64 x, .slice (some ⟨G1, 0, none⟩) m (m + 1), .slice (some ⟨G2, 0, none⟩) n (n + 1)], .agg #[.int .i64 x, .slice A m c, .slice A2 n c2]] w fun ev w' => ev = .returned (.bool true) ∧ Below w.heap.size w w' := by
  obtain ⟨wv, hwv⟩ : ∃ y9 : World, ((w.alloc (.cells #[.int .i64 x, .slice (some ⟨G1, 0, none⟩) m (m + 1), .slice (some ⟨G2, 0, none⟩) n (n + 1)] 26)).alloc (.cells #[.int .i64 x, .slice A m c, .slice A2 n c2] 26)) = y9 := ⟨_, rfl⟩
  have HBv : Hid (Below w.heap.size w wv) := Lib.hid (by rw [← hwv]; exact (((Below.refl _ _).alloc (by simp <;> omega) _).alloc (by simp <;> omega) _))
  have HSV : Hid (wv.heap.size = w.heap.size + 2) := Lib.hid (by rw [← hwv]; simp)
  have RA : Hid (wv.heap[w.heap.size]? = some (.cells #[.int .i64 x, .slice (some ⟨G1, 0, none⟩) m (m + 1), .slice (some ⟨G2, 0, none⟩) n (n + 1)] 26 (0, 0))) := Lib.hid (by rw [← hwv]; exact (((Below.refl (w.alloc (.cells #[.int .i64 x, .slice (some ⟨G1, 0, none⟩) m (m + 1), .slice (some ⟨G2, 0, none⟩) n (n + 1)] 26)).heap.size (w.alloc (.cells #[.int .i64 x, .slice (some ⟨G1, 0, none⟩) m (m + 1), .slice (some ⟨G2, 0, none⟩) n (n + 1)] 26))).alloc (Nat.le_refl _) _).block w.heap.size (by simp <;> omega)).trans (heap_at _ _ _ (by simp <;> omega)))
  have RB : Hid (wv.heap[(w.heap.size + 1)]? = some (.cells #[.int .i64 x, .slice A m c, .slice A2 n c2] 26 (0, 0))) := Lib.hid (by rw [← hwv]; exact heap_at _ _ _ (by simp <;> omega))
  have HWV := Lib.hid hwv
  have hsv := HSV.out
  have HSH1 : Hid (∀ w', Below w.heap.size w w' → Calls Tryz.prog 43 #[.slice (some ⟨G1, 0, none⟩) m (m + 1), .slice A m c] w' fun ev w2 => ev = .returned (.bool true) ∧ Below w'.heap.size w' w2) := Lib.hid (fun w' hb => left_any G1 m c A C w' (t1.below hb) (h1.below hb) hm)
  have HSH2 : Hid (∀ w', Below w.heap.size w w' → Calls Tryz.prog 43 #[.slice (some ⟨G2, 0, none⟩) n (n + 1), .slice A2 n c2] w' fun ev w2 => ev = .returned (.bool true) ∧ Below w'.heap.size w' w2) := Lib.hid (fun w' hb => left_any G2 n c2 A2 P w' (t2.below hb) (h2.below hb) hn)
  have a0 : wv.cell? ⟨w.heap.size, 0, none⟩ = some (.int .i64 x) := (cell_of_row wv _ 0 _ 26 (0, 0) RA.out).trans rfl
  have a1 : wv.cell? ⟨w.heap.size, 1, none⟩ = some (.slice (some ⟨G1, 0, none⟩) m (m + 1)) := (cell_of_row wv _ 1 _ 26 (0, 0) RA.out).trans rfl
  have b0 : wv.cell? ⟨w.heap.size + 1, 0, none⟩ = some (.int .i64 x) := (cell_of_row wv _ 0 _ 26 (0, 0) RB.out).trans rfl
  have b1 : wv.cell? ⟨w.heap.size + 1, 1, none⟩ = some (.slice A m c) := (cell_of_row wv _ 1 _ 26 (0, 0) RB.out).trans rfl
  clear h1 h2 t1 t2 hwv
  go_enter Tryz.func11, Tryz.ntmps11
  go_upto_region 1 with fail
  rw [HWV.out]
  go_wp2_with fail
  refine (HSH1.out wv HBv.out).mono ?_
  rintro ev w1 ⟨rfl, b⟩
  have B1' := Lib.hid (HBv.out.trans (b.mono HBv.out.size))
  have c0 : w1.cell? ⟨w.heap.size, 2, none⟩ = some (.slice (some ⟨G2, 0, none⟩) n (n + 1)) := (cell_of_row w1 _ 2 _ 26 (0, 0) ((b.block _ (by omega)).trans RA.out)).trans rfl
  have c1 : w1.cell? ⟨w.heap.size + 1, 2, none⟩ = some (.slice A2 n c2) := (cell_of_row w1 _ 2 _ 26 (0, 0) ((b.block _ (by omega)).trans RB.out)).trans rfl
  clear b
  go_wp2_with fail
  refine (HSH2.out w1 B1'.out).mono ?_
  rintro ev w2 ⟨rfl, b⟩
  have B2' := Lib.hid (B1'.out.trans (b.mono B1'.out.size))
  clear b
  go_wp2_with fail
  go_ret
  exact ⟨rfl, B2'.out⟩

theorem beyond3 (x0 x1 x2 : Nat) (w : World) (hx0 : x0 ≤ 9000000000000000000) (hx1 : x1 ≤ 9000000000000000000) (hx2 : x2 ≤ 9000000000000000000) :
    Calls Tryz.prog 6 #[.slice (some ⟨w.heap.size, 0, none⟩) 3 3] (w.alloc (.cells #[.int .i64 (x0 : Nat), .int .i64 (x1 : Nat), .int .i64 (x2 : Nat)] 3)) fun ev w' => ev = .returned (.bool (decide (1048576 < x0 + x1 + x2))) ∧ w' = (w.alloc (.cells #[.int .i64 (x0 : Nat), .int .i64 (x1 : Nat), .int .i64 (x2 : Nat)] 3)) := by
  have := beyond_any [x0, x1, x2] w.heap.size 3 3 (w.alloc (.cells #[.int .i64 (x0 : Nat), .int .i64 (x1 : Nat), .int .i64 (x2 : Nat)] 3)) rfl (by simp; omega) (fun j x hj => by
    refine cell_new _ _ _ _ ?_
    match j, hj with
    | 0, hj => simp at hj; subst hj; rfl
    | 1, hj => simp at hj; subst hj; rfl
    | 2, hj => simp at hj; subst hj; rfl
    | j + 3, hj => simp at hj) (by omega)
  have hs : [x0, x1, x2].sum = x0 + x1 + x2 := by simp <;> omega
  rw [hs] at this
  exact this.mono (fun _ _ h => ⟨h.1, h.2.symm⟩)
end Go.Proofs.YtnpblpbcchminaaGreatDoor
