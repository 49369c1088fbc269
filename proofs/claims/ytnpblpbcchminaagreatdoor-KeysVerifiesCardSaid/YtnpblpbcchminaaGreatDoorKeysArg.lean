import Derived.Test.YtnpblpbcchminaaGreatDoorHashAid
import Derived.SliceStrings
import Derived.Test.YtnpblpbcchminaaGreatDoorHashMem
import Derived.Deep.Strs
import Derived.Deep.Slices
import Derived.SizedLaws
/- cartularylaw01.TextsSize: how many bytes texts have, and one for each. No condition. A list of texts as an argument. -/
namespace Go.Proofs.YtnpblpbcchminaaGreatDoor
open Go.ChangeShapes Go.WideShapes Go.ChangeAt Go.RowKit
set_option linter.unusedVariables false
/-- a list of texts as an argument: its parts -/
def SIn (w : World) (A : Option Addr) (n cap : Nat) (l : List ByteArray) : Prop := l.length = n ∧ n ≤ cap ∧ cap ≤ 9223372036854775807 ∧ (∀ s ∈ l, s.size ≤ 140737488355328) ∧ n ≤ 140737488355328 ∧ (l = [] ∨ ∃ g o, A = some ⟨g, o, none⟩ ∧ w.rangeAt g o (l.map Value.string))
theorem SIn.below {w w' : World} {A : Option Addr} {n cap : Nat} {l : List ByteArray} (h : SIn w A n cap l) (hb : Below w.heap.size w w') : SIn w' A n cap l := by
  obtain ⟨h1, h2, h3, h4, h6, h5⟩ := h
  refine ⟨h1, h2, h3, h4, h6, ?_⟩
  rcases h5 with h5 | ⟨g, o, h6, h7⟩
  · exact .inl h5
  · by_cases hl : l = []
    · exact .inl hl
    · exact .inr ⟨g, o, h6, rangeAt_below hb h7 (rangeAt_lt h7 (by simpa using hl))⟩
theorem SIn.at {w : World} {A : Option Addr} {n cap : Nat} {l : List ByteArray} (h : SIn w A n cap l) {k : Nat} {s : ByteArray} (hk : l[k]? = some s) : ∃ g o, A = some ⟨g, o, none⟩ ∧ w.cell? ⟨g, o + k, none⟩ = some (.string s) ∧ g < w.heap.size ∧ s.size ≤ 140737488355328 := by
  obtain ⟨h1, h2, h3, h4, h6, h5⟩ := h
  rcases h5 with rfl | ⟨g, o, rfl, h7⟩
  · simp at hk
  · have hc := h7 k (.string s) (by simp [hk])
    exact ⟨g, o, rfl, hc, block_of_cell hc, h4 s (List.mem_of_getElem? hk)⟩
/-- how many bytes texts have, and one for each -/
def bulk (l : List ByteArray) : Nat := (l.map fun s => s.size + 1).sum
def bulkTo (l : List ByteArray) (k : Nat) : Nat := bulk (l.take k)
theorem bulkTo_step {l : List ByteArray} {k : Nat} {s : ByteArray} (h : l[k]? = some s) : bulkTo l (k + 1) = bulkTo l k + s.size + 1 := by
  unfold bulkTo bulk; rw [List.take_add_one, h]; simp; omega
theorem bulkTo_le (l : List ByteArray) (k : Nat) : bulkTo l k ≤ bulk l := by
  unfold bulkTo bulk
  have := List.sum_append (l₁ := (l.take k).map fun s => s.size + 1) (l₂ := (l.drop k).map fun s => s.size + 1)
  rw [← List.map_append, List.take_append_drop] at this; omega
theorem bulkTo_all (l : List ByteArray) : bulkTo l l.length = bulk l := by unfold bulkTo; rw [List.take_length]
theorem bulk_size {l : List ByteArray} {s : ByteArray} (h : s ∈ l) : s.size + 1 ≤ bulk l := by
  obtain ⟨k, hk⟩ := List.getElem?_of_mem h
  have := bulkTo_step hk
  have := bulkTo_le l (k + 1)
  omega
theorem bulk_len : ∀ (l : List ByteArray), l.length ≤ bulk l
  | [] => Nat.le_refl _
  | s :: l => by have := bulk_len l; unfold bulk at this ⊢; simp; omega
attribute [irreducible] bulkTo bulk
end Go.Proofs.YtnpblpbcchminaaGreatDoor

/- Arguments as the reader reads them: lists of hashes, a struct of two such lists and a number. No program in sight. -/
namespace Go.Proofs.YtnpblpbcchminaaGreatDoor
open Go.ChangeShapes Go.WideShapes Go.ChangeAt Go.RowKit Go.Deep
set_option linter.unusedVariables false
section
variable {H : Type} {enc : TypeId × Value → H} {P : Program} {w : World} {base : Nat} {spare : Nat → Bool} {held : Bool}
theorem byte_open {e : TypeId} {n : Nat} {cs : List Value} {x : DataW H × List MemPlace} (he : P.underlying e = some (.int .u8)) (h : DataW.trod enc P w base spare held n e cs = some x) : ∃ b : UInt8, cs = [byteV b] := by
  obtain ⟨m, rfl, rfl, hw⟩ := DataW.trod_int he h
  have hb := wf_u8 hw
  refine ⟨UInt8.ofNat (m % 256).toNat, ?_⟩
  rw [byteV_ofInt, Int.emod_eq_of_lt hb.1 hb.2]
theorem bytes_of_each : ∀ (cs : List Value), (∀ i, i < cs.length → ∃ b : UInt8, (cs.drop i).take 1 = [byteV b]) → ∃ l : List UInt8, cs = bytesV l
  | [], _ => ⟨[], rfl⟩
  | v :: r, h => by
    obtain ⟨b, hb⟩ := h 0 (by simp)
    simp at hb
    obtain ⟨l, rfl⟩ := bytes_of_each r (fun i hi => by simpa using h (i + 1) (by simpa using hi))
    exact ⟨b :: l, by rw [hb]; rfl⟩
theorem hash_open {t e : TypeId} {n k : Nat} {cs : List Value} {x : DataW H × List MemPlace} (ht : P.underlying t = some (.array k e)) (he : P.underlying e = some (.int .u8)) (hce : P.cellsOf e = 1) (hct : P.cellsOf t = k)
    (h : DataW.trod enc P w base spare held n t cs = some x) : ∃ l : List UInt8, l.length = k ∧ cs = bytesV l := by
  obtain ⟨xs, m, rfl, _, hl, hxl, hel⟩ := DataW.trod_array ht h
  rw [hct] at hl
  obtain ⟨l, rfl⟩ := bytes_of_each cs (fun i hi => by
    have := hel i (by omega)
    rw [hce, Nat.mul_one] at this
    obtain ⟨y, hy⟩ : ∃ y, xs[i]? = some y := ⟨_, List.getElem?_eq_getElem (by omega)⟩
    rw [hy] at this
    exact byte_open he this)
  exact ⟨l, by rw [← hl, bytesV_length], rfl⟩
theorem collect_list {α : Type} {Q : Nat → α → Prop} : ∀ (n : Nat), (∀ i, i < n → ∃ y, Q i y) → ∃ L : List α, L.length = n ∧ ∀ i y, L[i]? = some y → Q i y
  | 0, _ => ⟨[], rfl, fun i y h => by simp at h⟩
  | n + 1, h => by
    obtain ⟨L, hL, hq⟩ := collect_list n (fun i hi => h i (by omega))
    obtain ⟨y, hy⟩ := h n (by omega)
    refine ⟨L ++ [y], by simp [hL], fun i z hz => ?_⟩
    by_cases hi : i < n
    · rw [List.getElem?_append_left (by omega)] at hz; exact hq i z hz
    · rw [List.getElem?_append_right (by omega)] at hz
      obtain rfl : i = n := by have := (List.getElem?_eq_some_iff.1 hz).1; simp at this; omega
      simp [hL] at hz; subst hz; exact hy
theorem hashes_open {t q e : TypeId} {n : Nat} {cs : List Value} {x : DataW H × List MemPlace} (hs : P.underlying t = some (.slice q)) (hq : P.underlying q = some (.array 32 e)) (he : P.underlying e = some (.int .u8)) (hce : P.cellsOf e = 1) (hcq : P.cellsOf q = 32)
    (h : DataW.trod enc P w base spare held n t cs = some x) : ∃ A len cap l, cs = [.slice A len cap] ∧ HRd w (.slice A len cap) l ∧ l.length = len ∧ cap ≤ maxLen ∧ ∀ b, (∀ z ∈ x.1.weights P t, z ≤ b) → len * P.bytesOf q ≤ b := by
  rcases open_slice hs h with ⟨rfl, rfl⟩ | ⟨a, len, cap, m, k, D, Pl, rfl, hb, hl, hm, hmm, rfl, hx⟩
  · exact ⟨none, 0, 0, [], rfl, ⟨H32.nil, none, 0, rfl, Nat.le_refl _, .inl rfl⟩, rfl, Nat.zero_le _, fun b _ => by simp⟩
  · have hlm : len ≤ m := by rw [hmm]; split <;> omega
    obtain ⟨L, hL, hQ⟩ := collect_list (Q := fun i y => y.length = 32 ∧ ∀ j, j < 32 → w.cell? (a.add (i * 32 + j)) = (bytesV y)[j]?) len (fun i hi => by
      obtain ⟨cs', h1, h2⟩ := hx i (by omega)
      rw [hcq] at h1
      obtain ⟨_, _, h3⟩ := World.cells?_some h1
      obtain ⟨y, hy, rfl⟩ := hash_open hq he hce hcq h2
      exact ⟨y, hy, fun j hj => by rw [← add_add]; exact h3 j hj⟩)
    have h32 : H32 L := fun y hy => by
      obtain ⟨i, hi⟩ := List.getElem?_of_mem hy
      exact (hQ i y hi).1
    refine ⟨_, len, cap, L, rfl, ⟨h32, _, cap, by rw [hL], by omega, ?_⟩, hL, hm, fun b hb => Nat.le_trans (Nat.mul_le_mul_right _ (Nat.le_add_right len (m - len))) (hb _ (by simp [DataW.weights, hs]))⟩
    by_cases h0 : L = []
    · exact .inl h0
    · right
      have hpos : 0 < L.length := List.length_pos_iff.2 h0
      obtain ⟨b, o, sp⟩ := a
      have hcell : ∀ j v, (hashCells L)[j]? = some v → w.cell? ((⟨b, o, sp⟩ : Addr).add j) = some v := fun j v hj => by
        have hjl := (List.getElem?_eq_some_iff.1 hj).1
        rw [hashCells_length h32] at hjl
        obtain ⟨y, hy⟩ : ∃ y, L[j / 32]? = some y := ⟨_, List.getElem?_eq_getElem (by omega)⟩
        obtain ⟨hy1, hy2⟩ := hQ _ y hy
        obtain ⟨u, hu⟩ : ∃ u, (bytesV y)[j % 32]? = some u := ⟨_, List.getElem?_eq_getElem (by rw [bytesV_length]; omega)⟩
        have h3 := hashCells_at h32 hy hu
        have h4 := hy2 (j % 32) (by omega)
        rw [show j / 32 * 32 + j % 32 = j by omega] at h3 h4
        rw [h4, hu, ← h3, hj]
      have hc0 : ∃ v, (hashCells L)[0]? = some v := ⟨_, List.getElem?_eq_getElem (by rw [hashCells_length h32]; omega)⟩
      obtain ⟨v, hv⟩ := hc0
      have hspot : sp = none := by simpa [Addr.add] using World.cell?_spot (hcell 0 v hv)
      subst hspot
      exact ⟨b, o, rfl, fun j v hj => by rw [← Addr.add_mid]; exact hcell j v hj⟩
theorem given_open {t q e : TypeId} {f0 f1 f2 : Field} {n : Nat} {cs : List Value} {x : DataW H × List MemPlace} (ht : P.underlying t = some (.struct #[f0, f1, f2])) (o0 : f0.offset = 0) (o1 : f1.offset = 1) (o2 : f2.offset = 2)
    (hc : P.cellsOf t = 3) (c0 : P.cellsOf f0.type = 1) (c1 : P.cellsOf f1.type = 1) (c2 : P.cellsOf f2.type = 1) (s0 : P.underlying f0.type = some (.slice q)) (s1 : P.underlying f1.type = some (.slice q)) (s2 : P.underlying f2.type = some (.int .u64))
    (hq : P.underlying q = some (.array 32 e)) (he : P.underlying e = some (.int .u8)) (hce : P.cellsOf e = 1) (hcq : P.cellsOf q = 32)
    (h : DataW.trod enc P w base spare held n t cs = some x) : ∃ A1 n1 k1 l1 A2 n2 k2 l2 ix, cs = [.slice A1 n1 k1, .slice A2 n2 k2, .int .u64 ix] ∧ HRd w (.slice A1 n1 k1) l1 ∧ l1.length = n1 ∧ k1 ≤ maxLen ∧
      HRd w (.slice A2 n2 k2) l2 ∧ l2.length = n2 ∧ k2 ≤ maxLen ∧ 0 ≤ ix ∧ ix < 18446744073709551616 ∧ ∀ b, (∀ z ∈ x.1.weights P t, z ≤ b) → n1 * P.bytesOf q ≤ b ∧ n2 * P.bytesOf q ≤ b := by
  obtain ⟨y0, y1, y2, m, hx0, hl, h0, h1, h2⟩ := trod_struct3 ht h
  subst hx0
  rw [hc] at hl
  rw [o0, c0] at h0
  rw [o1, c1] at h1
  rw [o2, c2] at h2
  match cs, hl with
  | [x0, x1, x2], _ =>
    obtain ⟨A1, n1, k1, l1, e1, r1, m1, b1, z1⟩ := hashes_open s0 hq he hce hcq h0
    obtain ⟨A2, n2, k2, l2, e2, r2, m2, b2, z2⟩ := hashes_open s1 hq he hce hcq h1
    obtain ⟨ix, e3, _, hw⟩ := DataW.trod_int s2 h2
    simp at e1 e2 e3
    subst e1 e2 e3
    have := wf_u64 hw
    exact ⟨A1, n1, k1, l1, A2, n2, k2, l2, ix, rfl, r1, m1, b1, r2, m2, b2, this.1, this.2, fun b hb => ⟨z1 b (fun z hz => hb z (by simp only [DataW.weights, ht, DataW.weightsEach, List.map_cons, List.map_nil, List.mem_append]; exact .inl hz)), z2 b (fun z hz => hb z (by simp only [DataW.weights, ht, DataW.weightsEach, List.map_cons, List.map_nil, List.mem_append]; exact .inr (.inl hz)))⟩⟩
end
end Go.Proofs.YtnpblpbcchminaaGreatDoor

/- Arguments as the reader reads them: lists of texts; a stretch. -/
namespace Go.Proofs.YtnpblpbcchminaaGreatDoor
open Go.ChangeShapes Go.WideShapes Go.ChangeAt Go.RowKit Go.Deep
set_option linter.unusedVariables false
section
variable {H : Type} {enc : TypeId × Value → H} {W : World} {base : Nat} {spare : Nat → Bool} {held : Bool}
theorem weightsAll_mem {P : Program} {e : TypeId} : ∀ {ds : List (DataW H)} {d : DataW H}, d ∈ ds → ∀ z ∈ d.weights P e, z ∈ DataW.weightsAll P e ds
  | x :: r, d, hd, z, hz => by
    simp only [DataW.weightsAll, List.mem_append]
    rcases List.mem_cons.1 hd with rfl | hd
    · exact .inl hz
    · exact .inr (weightsAll_mem hd z hz)
  | [], d, hd, z, hz => by simp at hd
theorem texts_arg {n : Nat} {cs : Array Value} {x : DataW H × List MemPlace}
    (h : DataW.trod enc Tryz.prog W base spare held n 149 cs.toList = some x) (hw : ∀ z ∈ x.1.weights Tryz.prog 149, z ≤ reachBytes) :
    ∃ A n c l, cs = #[.slice A n c] ∧ SIn W A n c l := by
  have hr := reachBytes_lt
  have c1 : Tryz.prog.cellsOf 9 = 1 := by kernel_rfl
  rcases open_strings Tryz.underlying149 Tryz.underlying9 c1 h with ⟨hcs, hx⟩ | ⟨a, len, cap, ss, hcs, _, hl, hm, hz, hx, hcell, hsz⟩
  · refine ⟨none, 0, 0, [], ?_, rfl, Nat.le_refl _, by omega, by simp, by omega, .inl rfl⟩
    cases cs; simp at hcs; rw [hcs]
  · subst hx
    have hb : Tryz.prog.bytesOf 9 = 16 := by kernel_rfl
    have hlen : (ss.take len).length = len := by rw [List.length_take]; split at hz <;> omega
    have h1 : ∀ z ∈ (DataW.slice (strs (H := H) (ss.take len)) (strs (ss.drop len))).weights Tryz.prog 149, z ≤ reachBytes := hw
    simp only [DataW.weights, Tryz.underlying149, List.mem_cons, List.mem_append] at h1
    have h2 := h1 _ (.inl rfl)
    rw [hb] at h2
    have h3 : len ≤ 140737488355328 := by simp only [strs, List.length_map] at h2; rw [hlen] at h2; omega
    refine ⟨some a, len, cap, ss.take len, ?_, hlen, hl, by unfold maxLen at hm; omega, ?_, h3, ?_⟩
    · cases cs; simp at hcs; rw [hcs]
    · intro s hs
      have := h1 s.size (.inr (.inl (weightsAll_mem (d := .lit (.string s.data.toList)) (by simp only [strs, List.mem_map]; exact ⟨s, hs, rfl⟩) _ (by simp [DataW.weights]))))
      omega
    · by_cases h0 : ss.take len = []
      · exact .inl h0
      · right
        obtain ⟨b, o, sp⟩ := a
        have hpos : 0 < (ss.take len).length := List.length_pos_iff.2 h0
        have hcl : ∀ j u, ((ss.take len).map Value.string)[j]? = some u → W.cell? ((⟨b, o, sp⟩ : Addr).add j) = some u := fun j u hu => by
          have hj := (List.getElem?_eq_some_iff.1 hu).1
          rw [List.length_map, hlen] at hj
          have hjs : j < ss.length := by split at hz <;> omega
          rw [hcell j hjs]
          rw [List.getElem?_map, List.getElem?_take_of_lt hj, List.getElem?_eq_getElem hjs] at hu
          rw [List.getD_eq_getElem?_getD, List.getElem?_eq_getElem hjs]; simpa using hu
        obtain ⟨u, hu⟩ : ∃ u, ((ss.take len).map Value.string)[0]? = some u := ⟨_, List.getElem?_eq_getElem (by rw [List.length_map]; omega)⟩
        have hspot : sp = none := by simpa [Addr.add] using World.cell?_spot (hcl 0 u hu)
        subst hspot
        exact ⟨b, o, rfl, fun j v hj => by rw [← Addr.add_mid]; exact hcl j v hj⟩
set_option maxRecDepth 100000 in
theorem hash_arg {n : Nat} {r : Reach} {b0 : Nat} {v : Value} {x : DataW H × List MemPlace} (o : Value.okWide Tryz.prog W r b0 23 v) (h : DataW.trod enc Tryz.prog W base spare held n 23 v.cells.toList = some x) : ∃ l : List UInt8, l.length = 32 ∧ v = hv l := by
  simp only [Value.okWide, Tryz.underlying23] at o
  obtain ⟨cs, rfl, h2, _⟩ := o
  obtain ⟨l, hl, hc⟩ := hash_open Tryz.underlying23 Tryz.underlying5 (by kernel_rfl) (by kernel_rfl) h
  refine ⟨l, hl, ?_⟩
  unfold hv
  simp only [Value.cells] at hc
  rw [← hc]
end
end Go.Proofs.YtnpblpbcchminaaGreatDoor

