/- An argument of type Signed, and a text, opened. -/
import Derived.Test.YtnpblpbcchminaaGreatDoorKeysArg
import Derived.Test.YtnpblpbcchminaaGreatDoorHashAid
namespace Go.Proofs.YtnpblpbcchminaaGreatDoor
open Go.ChangeShapes Go.WideShapes Go.ChangeAt Go.RowKit Go.Deep
set_option linter.unusedVariables false
section
variable {H : Type} {enc : TypeId × Value → H} {P : Program} {w : World} {base : Nat} {spare : Nat → Bool} {held : Bool}
theorem signed_open {t q e : TypeId} {f0 f1 f2 : Field} {n : Nat} {cs : List Value} {x : DataW H × List MemPlace} (ht : P.underlying t = some (.struct #[f0, f1, f2])) (o0 : f0.offset = 0) (o1 : f1.offset = 1) (o2 : f2.offset = 2)
    (hc : P.cellsOf t = 3) (c0 : P.cellsOf f0.type = 1) (c1 : P.cellsOf f1.type = 1) (c2 : P.cellsOf f2.type = 1) (s0 : P.underlying f0.type = some (.int .i64)) (s1 : P.underlying f1.type = some (.slice q)) (s2 : P.underlying f2.type = some (.slice q))
    (hq : P.underlying q = some (.array 32 e)) (he : P.underlying e = some (.int .u8)) (hce : P.cellsOf e = 1) (hcq : P.cellsOf q = 32)
    (h : DataW.trod enc P w base spare held n t cs = some x) : ∃ ix A1 n1 k1 l1 A2 n2 k2 l2, cs = [.int .i64 ix, .slice A1 n1 k1, .slice A2 n2 k2] ∧ HRd w (.slice A1 n1 k1) l1 ∧ l1.length = n1 ∧ k1 ≤ maxLen ∧
      HRd w (.slice A2 n2 k2) l2 ∧ l2.length = n2 ∧ k2 ≤ maxLen ∧ -9223372036854775808 ≤ ix ∧ ix ≤ 9223372036854775807 ∧ ∀ b, (∀ z ∈ x.1.weights P t, z ≤ b) → n1 * P.bytesOf q ≤ b ∧ n2 * P.bytesOf q ≤ b := by
  obtain ⟨y0, y1, y2, m, hx0, hl, h0, h1, h2⟩ := trod_struct3 ht h
  subst hx0
  rw [hc] at hl
  rw [o0, c0] at h0
  rw [o1, c1] at h1
  rw [o2, c2] at h2
  match cs, hl with
  | [x0, x1, x2], _ =>
    obtain ⟨ix, e3, _, hw⟩ := DataW.trod_int s0 h0
    obtain ⟨A1, n1, k1, l1, e1, r1, m1, b1, z1⟩ := hashes_open s1 hq he hce hcq h1
    obtain ⟨A2, n2, k2, l2, e2, r2, m2, b2, z2⟩ := hashes_open s2 hq he hce hcq h2
    simp at e1 e2 e3
    subst e1 e2 e3
    have := wf_i64 hw
    exact ⟨ix, A1, n1, k1, l1, A2, n2, k2, l2, rfl, r1, m1, b1, r2, m2, b2, this.1, this.2, fun b hb => ⟨z1 b (fun z hz => hb z (by simp only [DataW.weights, ht, DataW.weightsEach, List.map_cons, List.map_nil, List.mem_append]; exact .inr (.inl hz))), z2 b (fun z hz => hb z (by simp only [DataW.weights, ht, DataW.weightsEach, List.map_cons, List.map_nil, List.mem_append]; first | exact .inr (.inr (.inl hz)) | exact .inr (.inr hz)))⟩⟩
theorem hrd_in {w : World} {A : Option Addr} {n cap : Nat} {l : List (List UInt8)} (h : HRd w (.slice A n cap) l) (hn : l.length = n) (hc : cap ≤ maxLen) : HIn w A n cap l := by
  obtain ⟨h1, A', cap', e, h2, h3⟩ := h
  cases e
  exact ⟨h1, rfl, h2, by unfold maxLen at hc; omega, h3⟩
theorem signed_arg {W : World} {n : Nat} {cs : Array Value} {x : DataW H × List MemPlace}
    (h : DataW.trod enc Tryz.prog W base spare held n 26 cs.toList = some x) (hw : ∀ z ∈ x.1.weights Tryz.prog 26, z ≤ reachBytes) :
    ∃ ix A1 n1 c1 l1 A2 n2 c2 l2, cs = #[.int .i64 ix, .slice A1 n1 c1, .slice A2 n2 c2] ∧ HIn W A1 n1 c1 l1 ∧ HIn W A2 n2 c2 l2 ∧ n1 ≤ 9000000000000000000 ∧ n2 ≤ 9000000000000000000 ∧ -9223372036854775808 ≤ ix ∧ ix ≤ 9223372036854775807 := by
  obtain ⟨ix, A1, n1, c1, l1, A2, n2, c2, l2, hcs, r1, e1, m1, r2, e2, m2, i0, i1, hsz⟩ := signed_open (e := 5) Tryz.underlying26 rfl rfl rfl (by kernel_rfl) (by kernel_rfl) (by kernel_rfl) (by kernel_rfl) (by kernel_rfl) (by kernel_rfl) (by kernel_rfl) (by kernel_rfl) (by kernel_rfl) (by kernel_rfl) (by kernel_rfl) h
  have hz := hsz _ hw
  have hb : Tryz.prog.bytesOf 23 = 32 := by kernel_rfl
  have hr := reachBytes_lt
  rw [hb] at hz
  refine ⟨ix, A1, n1, c1, l1, A2, n2, c2, l2, ?_, hrd_in r1 e1 m1, hrd_in r2 e2 m2, by omega, by omega, i0, i1⟩
  cases cs
  simp at hcs
  rw [hcs]
theorem string_arg {W : World} {n : Nat} {cs : List Value} {x : DataW H × List MemPlace} (h : DataW.trod enc Tryz.prog W base spare held n 9 cs = some x) (hw : ∀ z ∈ x.1.weights Tryz.prog 9, z ≤ reachBytes) :
    ∃ s : ByteArray, cs = [.string s] ∧ s.size ≤ 9000000000000000000 := by
  obtain ⟨s, rfl, rfl, _⟩ := DataW.trod_string Tryz.underlying9 h
  have hr := reachBytes_lt
  have := hw s.size (by simp [DataW.weights])
  exact ⟨s, rfl, by omega⟩
end
end Go.Proofs.YtnpblpbcchminaaGreatDoor
