/- Arguments as the reader reads them: lists of texts; a stretch. -/
import Derived.Test.YtmfngcnmacjbfaaDoorTexts
import Derived.Deep.Strs
import Derived.Deep.Slices
import Derived.SizedLaws
namespace Go.Proofs.YtmfngcnmacjbfaaDoor
open Go.ChangeShapes Go.WideShapes Go.ChangeAt Go.RowKit Go.Deep
set_option linter.unusedVariables false
section
variable {H : Type} {enc : TypeId × Value → H} {W : World} {base : Nat} {spare : Nat → Bool} {held : Bool}
theorem weightsAll_mem {P : Program} {e : TypeId} : ∀ {ds : List (DataW H)} {d : DataW H}, d ∈ ds → ∀ z ∈ d.weights P e, z ∈ DataW.weightsAll P e ds
  | x :: r, d, hd, z, hz => by
    simp only [DataW.weightsAll, List.mem_append]
    rcases List.mem_cons.1 hd with rfl | hd
    · exact .inl hz
    · exact .inr (weightsAll_mem hd z hz)
  | [], d, hd, z, hz => by simp at hd
theorem texts_arg {n : Nat} {cs : Array Value} {x : DataW H × List MemPlace}
    (h : DataW.trod enc Tryd.prog W base spare held n 48 cs.toList = some x) (hw : ∀ z ∈ x.1.weights Tryd.prog 48, z ≤ reachBytes) :
    ∃ A n c l, cs = #[.slice A n c] ∧ SIn W A n c l := by
  have hr := reachBytes_lt
  have c1 : Tryd.prog.cellsOf 9 = 1 := by kernel_rfl
  rcases open_strings Tryd.underlying48 Tryd.underlying9 c1 h with ⟨hcs, hx⟩ | ⟨a, len, cap, ss, hcs, _, hl, hm, hz, hx, hcell, hsz⟩
  · refine ⟨none, 0, 0, [], ?_, rfl, Nat.le_refl _, by omega, by simp, by omega, .inl rfl⟩
    cases cs; simp at hcs; rw [hcs]
  · subst hx
    have hb : Tryd.prog.bytesOf 9 = 16 := by kernel_rfl
    have hlen : (ss.take len).length = len := by rw [List.length_take]; split at hz <;> omega
    have h1 : ∀ z ∈ (DataW.slice (strs (H := H) (ss.take len)) (strs (ss.drop len))).weights Tryd.prog 48, z ≤ reachBytes := hw
    simp only [DataW.weights, Tryd.underlying48, List.mem_cons, List.mem_append] at h1
    have h2 := h1 _ (.inl rfl)
    rw [hb] at h2
    have h3 : len ≤ 140737488355328 := by simp only [strs, List.length_map] at h2; rw [hlen] at h2; omega
    refine ⟨some a, len, cap, ss.take len, ?_, hlen, hl, by unfold maxLen at hm; omega, ?_, h3, ?_⟩
    · cases cs; simp at hcs; rw [hcs]
    · intro s hs
      have := h1 s.size (.inr (.inl (weightsAll_mem (d := .lit (.string s.data.toList)) (by simp only [strs, List.mem_map]; exact ⟨s, hs, rfl⟩) _ (by simp [DataW.weights]))))
      omega
    · by_cases h0 : ss.take len = []
      · exact .inl h0
      · right
        obtain ⟨b, o, sp⟩ := a
        have hpos : 0 < (ss.take len).length := List.length_pos_iff.2 h0
        have hcl : ∀ j u, ((ss.take len).map Value.string)[j]? = some u → W.cell? ((⟨b, o, sp⟩ : Addr).add j) = some u := fun j u hu => by
          have hj := (List.getElem?_eq_some_iff.1 hu).1
          rw [List.length_map, hlen] at hj
          have hjs : j < ss.length := by split at hz <;> omega
          rw [hcell j hjs]
          rw [List.getElem?_map, List.getElem?_take_of_lt hj, List.getElem?_eq_getElem hjs] at hu
          rw [List.getD_eq_getElem?_getD, List.getElem?_eq_getElem hjs]; simpa using hu
        obtain ⟨u, hu⟩ : ∃ u, ((ss.take len).map Value.string)[0]? = some u := ⟨_, List.getElem?_eq_getElem (by rw [List.length_map]; omega)⟩
        have hspot : sp = none := by simpa [Addr.add] using World.cell?_spot (hcl 0 u hu)
        subst hspot
        exact ⟨b, o, rfl, fun j v hj => by rw [← Addr.add_mid]; exact hcl j v hj⟩
theorem pair_open {P : Program} {t : TypeId} {f0 f1 : Field} {n : Nat} {cs : List Value} {x : DataW H × List MemPlace} (ht : P.underlying t = some (.struct #[f0, f1])) (o0 : f0.offset = 0) (o1 : f1.offset = 1)
    (hc : P.cellsOf t = 2) (c0 : P.cellsOf f0.type = 1) (c1 : P.cellsOf f1.type = 1) (s0 : P.underlying f0.type = some (.int .u64)) (s1 : P.underlying f1.type = some (.int .u64))
    (h : DataW.trod enc P W base spare held n t cs = some x) : ∃ b e, cs = [.int .u64 b, .int .u64 e] ∧ 0 ≤ b ∧ b < 18446744073709551616 ∧ 0 ≤ e ∧ e < 18446744073709551616 := by
  obtain ⟨y0, y1, m, hx0, hl, h0, h1⟩ := trod_struct2 ht h
  rw [hc] at hl
  rw [o0, c0] at h0
  rw [o1, c1] at h1
  match cs, hl with
  | [x0, x1], _ =>
    obtain ⟨b, e0, _, hw0⟩ := DataW.trod_int s0 h0
    obtain ⟨e, e1, _, hw1⟩ := DataW.trod_int s1 h1
    simp at e0 e1
    subst e0 e1
    have q0 := wf_u64 hw0
    have q1 := wf_u64 hw1
    exact ⟨b, e, rfl, q0.1, q0.2, q1.1, q1.2⟩
theorem span_arg {n : Nat} {cs : Array Value} {x : DataW H × List MemPlace} (h : DataW.trod enc Tryd.prog W base spare held n 50 cs.toList = some x) :
    ∃ b e, cs = #[.int .u64 b, .int .u64 e] ∧ 0 ≤ b ∧ b < 18446744073709551616 ∧ 0 ≤ e ∧ e < 18446744073709551616 := by
  obtain ⟨b, e, hcs, q⟩ := pair_open Tryd.underlying50 rfl rfl (by kernel_rfl) (by kernel_rfl) (by kernel_rfl) (by kernel_rfl) (by kernel_rfl) h
  refine ⟨b, e, ?_, q⟩
  cases cs
  simp at hcs
  rw [hcs]
end
end Go.Proofs.YtmfngcnmacjbfaaDoor
