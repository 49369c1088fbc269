/- codec.Reader: take. Condition: the table reads as listed. -/
import Derived.Test.YtnpblpbcchminaaDoorKeysRead
namespace Go.Proofs.YtnpblpbcchminaaDoor
open Go.ChangeShapes Go.WideShapes Go.ChangeAt Go.RowKit
set_option linter.unusedVariables false
set_option maxRecDepth 100000 in
set_option maxHeartbeats 8000000 in
theorem take_yes (p i k j : Nat) (S : ByteArray) (w : World) (h : ROk p w S i) (hk : i + k ≤ S.size) (hk9 : k ≤ 64) : Calls Tryd.prog 55 #[.pointer (some ⟨p, 0, none⟩), .int .i64 k, .int .i64 j] w fun ev w' => ev = .returned (.string (S.extract i (i + k))) ∧ ROk p w' S (i + k) ∧ But (· = p) w w' := by
  have HN := Lib.hid (next_yes p i k S w h hk hk9)
  obtain ⟨s, hs⟩ : ∃ s, S.extract i (i + k) = s := ⟨_, rfl⟩
  rw [hs] at HN ⊢
  clear h hs
  go_enter Tryd.func55, Tryd.ntmps55
  go_wp2_with fail
  refine HN.out.mono ?_
  rintro ev w1 ⟨rfl, h1, b1⟩
  have H1 := Lib.hid (And.intro h1 b1)
  clear h1 b1
  go_wp2_with fail
  go_ret
  exact ⟨rfl, H1.out.1, H1.out.2⟩
set_option maxRecDepth 100000 in
set_option maxHeartbeats 8000000 in
theorem take_no (a : Nat → Addr) (B p i k j : Nat) (S : ByteArray) (w : World) (hE : Env B a w) (h : ROk p w S i) (hk : S.size < i + k) (hk9 : k ≤ 64) : Calls Tryd.prog 55 #[.pointer (some ⟨p, 0, none⟩), .int .i64 k, .int .i64 j] w fun ev w' => ev = .returned (.string ⟨#[]⟩) ∧ RBad p w' S ∧ But (· = p) w w' := by
  have HN := Lib.hid (next_no p i k S w h hk hk9)
  have HE := Lib.hid hE
  have HH := Lib.hid h
  have hpl := h.lt
  clear h hE
  go_enter Tryd.func55, Tryd.ntmps55
  go_wp2_with fail
  refine HN.out.mono ?_
  rintro ev w1 ⟨rfl, b1⟩
  have B1 := Lib.hid b1
  have HB := Lib.hid (bad_ok a B p i j S w1 (HE.out.step b1) (HH.out.below b1))
  clear b1
  go_wp2_with fail
  refine HB.out.mono ?_
  rintro ev w2 ⟨rfl, h2, b2⟩
  have H2 := Lib.hid (And.intro h2 ((but_of p B1.out).trans b2))
  clear h2 b2
  go_wp2_with fail
  go_ret
  exact ⟨rfl, H2.out.1, H2.out.2⟩
set_option maxRecDepth 100000 in
set_option maxHeartbeats 8000000 in
theorem take_bad (a : Nat → Addr) (B p k j : Nat) (S : ByteArray) (w : World) (hE : Env B a w) (h : RBad p w S) (hk9 : k ≤ 64) : Calls Tryd.prog 55 #[.pointer (some ⟨p, 0, none⟩), .int .i64 k, .int .i64 j] w fun ev w' => ev = .returned (.string ⟨#[]⟩) ∧ RBad p w' S ∧ But (· = p) w w' := by
  have HN := Lib.hid (next_bad p k S w h)
  have HE := Lib.hid hE
  have HH := Lib.hid h
  have hpl : p < w.heap.size := by obtain ⟨i, x, h⟩ := h; exact h.lt
  clear h hE
  go_enter Tryd.func55, Tryd.ntmps55
  go_wp2_with fail
  refine HN.out.mono ?_
  rintro ev w1 ⟨rfl, b1⟩
  have B1 := Lib.hid b1
  have HB := Lib.hid (bad_bad a B p j S w1 (HE.out.step b1) (HH.out.below b1))
  clear b1
  go_wp2_with fail
  refine HB.out.mono ?_
  rintro ev w2 ⟨rfl, h2, b2⟩
  have H2 := Lib.hid (And.intro h2 ((but_of p B1.out).trans b2))
  clear h2 b2
  go_wp2_with fail
  go_ret
  exact ⟨rfl, H2.out.1, H2.out.2⟩
end Go.Proofs.YtnpblpbcchminaaDoor
