import Derived.Test.YtchfbdbgmlcfiaaGreatDoorHashMem
import Derived.Deep.Strs
import Derived.Deep.Slices
import Derived.SizedLaws
import Derived.Test.YtchfbdbgmlcfiaaGreatDoorBatchApi
/- Arguments as the reader reads them: lists of hashes, a struct of two such lists and a number. No program in sight. -/
namespace Go.Proofs.YtchfbdbgmlcfiaaGreatDoor
open Go.ChangeShapes Go.WideShapes Go.ChangeAt Go.RowKit Go.Deep
set_option linter.unusedVariables false
section
variable {H : Type} {enc : TypeId × Value → H} {P : Program} {w : World} {base : Nat} {spare : Nat → Bool} {held : Bool}
theorem byte_open {e : TypeId} {n : Nat} {cs : List Value} {x : DataW H × List MemPlace} (he : P.underlying e = some (.int .u8)) (h : DataW.trod enc P w base spare held n e cs = some x) : ∃ b : UInt8, cs = [byteV b] := by
  obtain ⟨m, rfl, rfl, hw⟩ := DataW.trod_int he h
  have hb := wf_u8 hw
  refine ⟨UInt8.ofNat (m % 256).toNat, ?_⟩
  rw [byteV_ofInt, Int.emod_eq_of_lt hb.1 hb.2]
theorem bytes_of_each : ∀ (cs : List Value), (∀ i, i < cs.length → ∃ b : UInt8, (cs.drop i).take 1 = [byteV b]) → ∃ l : List UInt8, cs = bytesV l
  | [], _ => ⟨[], rfl⟩
  | v :: r, h => by
    obtain ⟨b, hb⟩ := h 0 (by simp)
    simp at hb
    obtain ⟨l, rfl⟩ := bytes_of_each r (fun i hi => by simpa using h (i + 1) (by simpa using hi))
    exact ⟨b :: l, by rw [hb]; rfl⟩
theorem hash_open {t e : TypeId} {n k : Nat} {cs : List Value} {x : DataW H × List MemPlace} (ht : P.underlying t = some (.array k e)) (he : P.underlying e = some (.int .u8)) (hce : P.cellsOf e = 1) (hct : P.cellsOf t = k)
    (h : DataW.trod enc P w base spare held n t cs = some x) : ∃ l : List UInt8, l.length = k ∧ cs = bytesV l := by
  obtain ⟨xs, m, rfl, _, hl, hxl, hel⟩ := DataW.trod_array ht h
  rw [hct] at hl
  obtain ⟨l, rfl⟩ := bytes_of_each cs (fun i hi => by
    have := hel i (by omega)
    rw [hce, Nat.mul_one] at this
    obtain ⟨y, hy⟩ : ∃ y, xs[i]? = some y := ⟨_, List.getElem?_eq_getElem (by omega)⟩
    rw [hy] at this
    exact byte_open he this)
  exact ⟨l, by rw [← hl, bytesV_length], rfl⟩
theorem collect_list {α : Type} {Q : Nat → α → Prop} : ∀ (n : Nat), (∀ i, i < n → ∃ y, Q i y) → ∃ L : List α, L.length = n ∧ ∀ i y, L[i]? = some y → Q i y
  | 0, _ => ⟨[], rfl, fun i y h => by simp at h⟩
  | n + 1, h => by
    obtain ⟨L, hL, hq⟩ := collect_list n (fun i hi => h i (by omega))
    obtain ⟨y, hy⟩ := h n (by omega)
    refine ⟨L ++ [y], by simp [hL], fun i z hz => ?_⟩
    by_cases hi : i < n
    · rw [List.getElem?_append_left (by omega)] at hz; exact hq i z hz
    · rw [List.getElem?_append_right (by omega)] at hz
      obtain rfl : i = n := by have := (List.getElem?_eq_some_iff.1 hz).1; simp at this; omega
      simp [hL] at hz; subst hz; exact hy
theorem hashes_open {t q e : TypeId} {n : Nat} {cs : List Value} {x : DataW H × List MemPlace} (hs : P.underlying t = some (.slice q)) (hq : P.underlying q = some (.array 32 e)) (he : P.underlying e = some (.int .u8)) (hce : P.cellsOf e = 1) (hcq : P.cellsOf q = 32)
    (h : DataW.trod enc P w base spare held n t cs = some x) : ∃ A len cap l, cs = [.slice A len cap] ∧ HRd w (.slice A len cap) l ∧ l.length = len ∧ cap ≤ maxLen ∧ ∀ b, (∀ z ∈ x.1.weights P t, z ≤ b) → len * P.bytesOf q ≤ b := by
  rcases open_slice hs h with ⟨rfl, rfl⟩ | ⟨a, len, cap, m, k, D, Pl, rfl, hb, hl, hm, hmm, rfl, hx⟩
  · exact ⟨none, 0, 0, [], rfl, ⟨H32.nil, none, 0, rfl, Nat.le_refl _, .inl rfl⟩, rfl, Nat.zero_le _, fun b _ => by simp⟩
  · have hlm : len ≤ m := by rw [hmm]; split <;> omega
    obtain ⟨L, hL, hQ⟩ := collect_list (Q := fun i y => y.length = 32 ∧ ∀ j, j < 32 → w.cell? (a.add (i * 32 + j)) = (bytesV y)[j]?) len (fun i hi => by
      obtain ⟨cs', h1, h2⟩ := hx i (by omega)
      rw [hcq] at h1
      obtain ⟨_, _, h3⟩ := World.cells?_some h1
      obtain ⟨y, hy, rfl⟩ := hash_open hq he hce hcq h2
      exact ⟨y, hy, fun j hj => by rw [← add_add]; exact h3 j hj⟩)
    have h32 : H32 L := fun y hy => by
      obtain ⟨i, hi⟩ := List.getElem?_of_mem hy
      exact (hQ i y hi).1
    refine ⟨_, len, cap, L, rfl, ⟨h32, _, cap, by rw [hL], by omega, ?_⟩, hL, hm, fun b hb => Nat.le_trans (Nat.mul_le_mul_right _ (Nat.le_add_right len (m - len))) (hb _ (by simp [DataW.weights, hs]))⟩
    by_cases h0 : L = []
    · exact .inl h0
    · right
      have hpos : 0 < L.length := List.length_pos_iff.2 h0
      obtain ⟨b, o, sp⟩ := a
      have hcell : ∀ j v, (hashCells L)[j]? = some v → w.cell? ((⟨b, o, sp⟩ : Addr).add j) = some v := fun j v hj => by
        have hjl := (List.getElem?_eq_some_iff.1 hj).1
        rw [hashCells_length h32] at hjl
        obtain ⟨y, hy⟩ : ∃ y, L[j / 32]? = some y := ⟨_, List.getElem?_eq_getElem (by omega)⟩
        obtain ⟨hy1, hy2⟩ := hQ _ y hy
        obtain ⟨u, hu⟩ : ∃ u, (bytesV y)[j % 32]? = some u := ⟨_, List.getElem?_eq_getElem (by rw [bytesV_length]; omega)⟩
        have h3 := hashCells_at h32 hy hu
        have h4 := hy2 (j % 32) (by omega)
        rw [show j / 32 * 32 + j % 32 = j by omega] at h3 h4
        rw [h4, hu, ← h3, hj]
      have hc0 : ∃ v, (hashCells L)[0]? = some v := ⟨_, List.getElem?_eq_getElem (by rw [hashCells_length h32]; omega)⟩
      obtain ⟨v, hv⟩ := hc0
      have hspot : sp = none := by simpa [Addr.add] using World.cell?_spot (hcell 0 v hv)
      subst hspot
      exact ⟨b, o, rfl, fun j v hj => by rw [← Addr.add_mid]; exact hcell j v hj⟩
theorem given_open {t q e : TypeId} {f0 f1 f2 : Field} {n : Nat} {cs : List Value} {x : DataW H × List MemPlace} (ht : P.underlying t = some (.struct #[f0, f1, f2])) (o0 : f0.offset = 0) (o1 : f1.offset = 1) (o2 : f2.offset = 2)
    (hc : P.cellsOf t = 3) (c0 : P.cellsOf f0.type = 1) (c1 : P.cellsOf f1.type = 1) (c2 : P.cellsOf f2.type = 1) (s0 : P.underlying f0.type = some (.slice q)) (s1 : P.underlying f1.type = some (.slice q)) (s2 : P.underlying f2.type = some (.int .u64))
    (hq : P.underlying q = some (.array 32 e)) (he : P.underlying e = some (.int .u8)) (hce : P.cellsOf e = 1) (hcq : P.cellsOf q = 32)
    (h : DataW.trod enc P w base spare held n t cs = some x) : ∃ A1 n1 k1 l1 A2 n2 k2 l2 ix, cs = [.slice A1 n1 k1, .slice A2 n2 k2, .int .u64 ix] ∧ HRd w (.slice A1 n1 k1) l1 ∧ l1.length = n1 ∧ k1 ≤ maxLen ∧
      HRd w (.slice A2 n2 k2) l2 ∧ l2.length = n2 ∧ k2 ≤ maxLen ∧ 0 ≤ ix ∧ ix < 18446744073709551616 ∧ ∀ b, (∀ z ∈ x.1.weights P t, z ≤ b) → n1 * P.bytesOf q ≤ b ∧ n2 * P.bytesOf q ≤ b := by
  obtain ⟨y0, y1, y2, m, hx0, hl, h0, h1, h2⟩ := trod_struct3 ht h
  subst hx0
  rw [hc] at hl
  rw [o0, c0] at h0
  rw [o1, c1] at h1
  rw [o2, c2] at h2
  match cs, hl with
  | [x0, x1, x2], _ =>
    obtain ⟨A1, n1, k1, l1, e1, r1, m1, b1, z1⟩ := hashes_open s0 hq he hce hcq h0
    obtain ⟨A2, n2, k2, l2, e2, r2, m2, b2, z2⟩ := hashes_open s1 hq he hce hcq h1
    obtain ⟨ix, e3, _, hw⟩ := DataW.trod_int s2 h2
    simp at e1 e2 e3
    subst e1 e2 e3
    have := wf_u64 hw
    exact ⟨A1, n1, k1, l1, A2, n2, k2, l2, ix, rfl, r1, m1, b1, r2, m2, b2, this.1, this.2, fun b hb => ⟨z1 b (fun z hz => hb z (by simp only [DataW.weights, ht, DataW.weightsEach, List.map_cons, List.map_nil, List.mem_append]; exact .inl hz)), z2 b (fun z hz => hb z (by simp only [DataW.weights, ht, DataW.weightsEach, List.map_cons, List.map_nil, List.mem_append]; exact .inr (.inl hz)))⟩⟩
end
end Go.Proofs.YtchfbdbgmlcfiaaGreatDoor

/- An argument of type Given, opened. -/
namespace Go.Proofs.YtchfbdbgmlcfiaaGreatDoor
open Go.ChangeShapes Go.WideShapes Go.ChangeAt Go.RowKit Go.Deep
set_option linter.unusedVariables false
theorem hrd_in {w : World} {A : Option Addr} {n cap : Nat} {l : List (List UInt8)} (h : HRd w (.slice A n cap) l) (hn : l.length = n) (hc : cap ≤ maxLen) : HIn w A n cap l := by
  obtain ⟨h1, A', cap', e, h2, h3⟩ := h
  cases e
  exact ⟨h1, rfl, h2, by unfold maxLen at hc; omega, h3⟩
theorem given_arg {H : Type} {enc : TypeId × Value → H} {W : World} {base : Nat} {spare : Nat → Bool} {held : Bool} {n : Nat} {cs : Array Value} {x : DataW H × List MemPlace}
    (h : DataW.trod enc Tryz.prog W base spare held n 25 cs.toList = some x) (hw : ∀ z ∈ x.1.weights Tryz.prog 25, z ≤ reachBytes) :
    ∃ A1 n1 c1 l1 A2 n2 c2 l2 ix, cs = #[.slice A1 n1 c1, .slice A2 n2 c2, .int .u64 ix] ∧ HIn W A1 n1 c1 l1 ∧ HIn W A2 n2 c2 l2 ∧ n1 ≤ 9000000000000000000 ∧ n2 ≤ 9000000000000000000 ∧ 0 ≤ ix ∧ ix < 18446744073709551616 := by
  obtain ⟨A1, n1, c1, l1, A2, n2, c2, l2, ix, hcs, r1, e1, m1, r2, e2, m2, i0, i1, hsz⟩ := given_open (e := 5) Tryz.underlying25 rfl rfl rfl (by kernel_rfl) (by kernel_rfl) (by kernel_rfl) (by kernel_rfl) (by kernel_rfl) (by kernel_rfl) (by kernel_rfl) (by kernel_rfl) (by kernel_rfl) (by kernel_rfl) (by kernel_rfl) h
  have hz := hsz _ hw
  have hb : Tryz.prog.bytesOf 75 = 32 := by kernel_rfl
  have hr := reachBytes_lt
  rw [hb] at hz
  refine ⟨A1, n1, c1, l1, A2, n2, c2, l2, ix, ?_, hrd_in r1 e1 m1, hrd_in r2 e2 m2, by omega, by omega, i0, i1⟩
  cases cs
  simp at hcs
  rw [hcs]
end Go.Proofs.YtchfbdbgmlcfiaaGreatDoor

