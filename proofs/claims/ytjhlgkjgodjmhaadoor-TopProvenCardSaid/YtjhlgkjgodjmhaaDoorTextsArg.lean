import Derived.Test.YtjhlgkjgodjmhaaDoorTexts
import Derived.Deep.Strs
import Derived.Deep.Slices
import Derived.SizedLaws
/- Arguments as the reader reads them: lists of texts; a stretch. -/
namespace Go.Proofs.YtjhlgkjgodjmhaaDoor
open Go.ChangeShapes Go.WideShapes Go.ChangeAt Go.RowKit Go.Deep
set_option linter.unusedVariables false
section
variable {H : Type} {enc : TypeId × Value → H} {W : World} {base : Nat} {spare : Nat → Bool} {held : Bool}
theorem weightsAll_mem {P : Program} {e : TypeId} : ∀ {ds : List (DataW H)} {d : DataW H}, d ∈ ds → ∀ z ∈ d.weights P e, z ∈ DataW.weightsAll P e ds
  | x :: r, d, hd, z, hz => by
    simp only [DataW.weightsAll, List.mem_append]
    rcases List.mem_cons.1 hd with rfl | hd
    · exact .inl hz
    · exact .inr (weightsAll_mem hd z hz)
  | [], d, hd, z, hz => by simp at hd
theorem texts_arg {n : Nat} {cs : Array Value} {x : DataW H × List MemPlace}
    (h : DataW.trod enc Tryd.prog W base spare held n 22 cs.toList = some x) (hw : ∀ z ∈ x.1.weights Tryd.prog 22, z ≤ reachBytes) :
    ∃ A n c l, cs = #[.slice A n c] ∧ SIn W A n c l := by
  have hr := reachBytes_lt
  have c1 : Tryd.prog.cellsOf 9 = 1 := by kernel_rfl
  rcases open_strings Tryd.underlying22 Tryd.underlying9 c1 h with ⟨hcs, hx⟩ | ⟨a, len, cap, ss, hcs, _, hl, hm, hz, hx, hcell, hsz⟩
  · refine ⟨none, 0, 0, [], ?_, rfl, Nat.le_refl _, by omega, by simp, by omega, .inl rfl⟩
    cases cs; simp at hcs; rw [hcs]
  · subst hx
    have hb : Tryd.prog.bytesOf 9 = 16 := by kernel_rfl
    have hlen : (ss.take len).length = len := by rw [List.length_take]; split at hz <;> omega
    have h1 : ∀ z ∈ (DataW.slice (strs (H := H) (ss.take len)) (strs (ss.drop len))).weights Tryd.prog 22, z ≤ reachBytes := hw
    simp only [DataW.weights, Tryd.underlying22, List.mem_cons, List.mem_append] at h1
    have h2 := h1 _ (.inl rfl)
    rw [hb] at h2
    have h3 : len ≤ 140737488355328 := by simp only [strs, List.length_map] at h2; rw [hlen] at h2; omega
    refine ⟨some a, len, cap, ss.take len, ?_, hlen, hl, by unfold maxLen at hm; omega, ?_, h3, ?_⟩
    · cases cs; simp at hcs; rw [hcs]
    · intro s hs
      have := h1 s.size (.inr (.inl (weightsAll_mem (d := .lit (.string s.data.toList)) (by simp only [strs, List.mem_map]; exact ⟨s, hs, rfl⟩) _ (by simp [DataW.weights]))))
      omega
    · by_cases h0 : ss.take len = []
      · exact .inl h0
      · right
        obtain ⟨b, o, sp⟩ := a
        have hpos : 0 < (ss.take len).length := List.length_pos_iff.2 h0
        have hcl : ∀ j u, ((ss.take len).map Value.string)[j]? = some u → W.cell? ((⟨b, o, sp⟩ : Addr).add j) = some u := fun j u hu => by
          have hj := (List.getElem?_eq_some_iff.1 hu).1
          rw [List.length_map, hlen] at hj
          have hjs : j < ss.length := by split at hz <;> omega
          rw [hcell j hjs]
          rw [List.getElem?_map, List.getElem?_take_of_lt hj, List.getElem?_eq_getElem hjs] at hu
          rw [List.getD_eq_getElem?_getD, List.getElem?_eq_getElem hjs]; simpa using hu
        obtain ⟨u, hu⟩ : ∃ u, ((ss.take len).map Value.string)[0]? = some u := ⟨_, List.getElem?_eq_getElem (by rw [List.length_map]; omega)⟩
        have hspot : sp = none := by simpa [Addr.add] using World.cell?_spot (hcl 0 u hu)
        subst hspot
        exact ⟨b, o, rfl, fun j v hj => by rw [← Addr.add_mid]; exact hcl j v hj⟩
theorem pair_open {P : Program} {t : TypeId} {f0 f1 : Field} {n : Nat} {cs : List Value} {x : DataW H × List MemPlace} (ht : P.underlying t = some (.struct #[f0, f1])) (o0 : f0.offset = 0) (o1 : f1.offset = 1)
    (hc : P.cellsOf t = 2) (c0 : P.cellsOf f0.type = 1) (c1 : P.cellsOf f1.type = 1) (s0 : P.underlying f0.type = some (.int .u64)) (s1 : P.underlying f1.type = some (.int .u64))
    (h : DataW.trod enc P W base spare held n t cs = some x) : ∃ b e, cs = [.int .u64 b, .int .u64 e] ∧ 0 ≤ b ∧ b < 18446744073709551616 ∧ 0 ≤ e ∧ e < 18446744073709551616 := by
  obtain ⟨y0, y1, m, hx0, hl, h0, h1⟩ := trod_struct2 ht h
  rw [hc] at hl
  rw [o0, c0] at h0
  rw [o1, c1] at h1
  match cs, hl with
  | [x0, x1], _ =>
    obtain ⟨b, e0, _, hw0⟩ := DataW.trod_int s0 h0
    obtain ⟨e, e1, _, hw1⟩ := DataW.trod_int s1 h1
    simp at e0 e1
    subst e0 e1
    have q0 := wf_u64 hw0
    have q1 := wf_u64 hw1
    exact ⟨b, e, rfl, q0.1, q0.2, q1.1, q1.2⟩
theorem span_arg {n : Nat} {cs : Array Value} {x : DataW H × List MemPlace} (h : DataW.trod enc Tryd.prog W base spare held n 57 cs.toList = some x) :
    ∃ b e, cs = #[.int .u64 b, .int .u64 e] ∧ 0 ≤ b ∧ b < 18446744073709551616 ∧ 0 ≤ e ∧ e < 18446744073709551616 := by
  obtain ⟨b, e, hcs, q⟩ := pair_open Tryd.underlying57 rfl rfl (by kernel_rfl) (by kernel_rfl) (by kernel_rfl) (by kernel_rfl) (by kernel_rfl) h
  refine ⟨b, e, ?_, q⟩
  cases cs
  simp at hcs
  rw [hcs]
end
end Go.Proofs.YtjhlgkjgodjmhaaDoor

/- An argument of type Asked, opened: a list of texts and four numbers. -/
namespace Go.Proofs.YtjhlgkjgodjmhaaDoor
open Go.ChangeShapes Go.WideShapes Go.ChangeAt Go.RowKit Go.Deep
set_option linter.unusedVariables false
section
variable {H : Type} {enc : TypeId × Value → H} {W : World} {base : Nat} {spare : Nat → Bool} {held : Bool}
theorem trod_struct5 {P : Program} {t : TypeId} {f0 f1 f2 f3 f4 : Field} {fuel : Nat} {cs : List Value} {x : DataW H × List MemPlace} (ht : P.underlying t = some (.struct #[f0, f1, f2, f3, f4])) (h : DataW.trod enc P W base spare held fuel t cs = some x) :
    ∃ y0 y1 y2 y3 y4 n, x.1 = .agg [y0.1, y1.1, y2.1, y3.1, y4.1] ∧ cs.length = P.cellsOf t ∧ DataW.trod enc P W base spare held n f0.type ((cs.drop f0.offset).take (P.cellsOf f0.type)) = some y0 ∧
      DataW.trod enc P W base spare held n f1.type ((cs.drop f1.offset).take (P.cellsOf f1.type)) = some y1 ∧ DataW.trod enc P W base spare held n f2.type ((cs.drop f2.offset).take (P.cellsOf f2.type)) = some y2 ∧
      DataW.trod enc P W base spare held n f3.type ((cs.drop f3.offset).take (P.cellsOf f3.type)) = some y3 ∧ DataW.trod enc P W base spare held n f4.type ((cs.drop f4.offset).take (P.cellsOf f4.type)) = some y4 := by
  obtain ⟨xs, n, _, rfl, hl, hlen, hf⟩ := DataW.trod_struct ht h
  match xs, hlen with
  | [y0, y1, y2, y3, y4], _ => exact ⟨y0, y1, y2, y3, y4, n, by simp, hl, by simpa using hf 0 f0 rfl, by simpa using hf 1 f1 rfl, by simpa using hf 2 f2 rfl, by simpa using hf 3 f3 rfl, by simpa using hf 4 f4 rfl⟩
theorem u64_cell {n : Nat} {v : Value} {y : DataW H × List MemPlace} (h : DataW.trod enc Tryd.prog W base spare held n 23 [v] = some y) : ∃ i, v = .int .u64 i ∧ 0 ≤ i ∧ i < 18446744073709551616 := by
  obtain ⟨i, e, _, hw⟩ := DataW.trod_int Tryd.underlying23 h
  simp at e
  have := wf_u64 hw
  exact ⟨i, e, this.1, this.2⟩
theorem asked_arg {n : Nat} {cs : Array Value} {x : DataW H × List MemPlace}
    (h : DataW.trod enc Tryd.prog W base spare held n 25 cs.toList = some x) (hw : ∀ z ∈ x.1.weights Tryd.prog 25, z ≤ reachBytes) :
    ∃ A k c l xi xo xe xs, cs = #[.slice A k c, .int .u64 xi, .int .u64 xo, .int .u64 xe, .int .u64 xs] ∧ SIn W A k c l ∧ 0 ≤ xi ∧ xi < 18446744073709551616 ∧ 0 ≤ xo ∧ xo < 18446744073709551616 ∧ 0 ≤ xe ∧ xe < 18446744073709551616 ∧ 0 ≤ xs ∧ xs < 18446744073709551616 := by
  obtain ⟨y0, y1, y2, y3, y4, m, hx, hl, h0, h1, h2, h3, h4⟩ := trod_struct5 Tryd.underlying25 h
  have hc : Tryd.prog.cellsOf 25 = 5 := by kernel_rfl
  have c0 : Tryd.prog.cellsOf 22 = 1 := by kernel_rfl
  have cu : Tryd.prog.cellsOf 23 = 1 := by kernel_rfl
  rw [hc] at hl
  dsimp only at h0 h1 h2 h3 h4
  rw [c0] at h0
  rw [cu] at h1 h2 h3 h4
  obtain ⟨l⟩ := cs
  match l, hl with
  | [z0, z1, z2, z3, z4], _ =>
    obtain ⟨xi, rfl, a1, a2⟩ := u64_cell h1
    obtain ⟨xo, rfl, b1, b2⟩ := u64_cell h2
    obtain ⟨xe, rfl, d1, d2⟩ := u64_cell h3
    obtain ⟨xs, rfl, e1, e2⟩ := u64_cell h4
    obtain ⟨A, k, c, ll, hcs, hs⟩ := texts_arg (cs := #[z0]) h0 (fun z hz => hw z (by
      rw [hx]
      simp only [DataW.weights, Tryd.underlying25, DataW.weightsEach, List.map_cons, List.map_nil, List.mem_append]
      exact .inl hz))
    simp at hcs
    subst hcs
    exact ⟨A, k, c, ll, xi, xo, xe, xs, rfl, hs, a1, a2, b1, b2, d1, d2, e1, e2⟩
end
end Go.Proofs.YtjhlgkjgodjmhaaDoor

