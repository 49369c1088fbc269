/- codec.Reader: Var. Condition: the table reads as listed. -/
import Derived.Test.YtnpblpbcchminaaDoorKeysNum
namespace Go.Proofs.YtnpblpbcchminaaDoor
open Go.ChangeShapes Go.WideShapes Go.ChangeAt Go.RowKit
set_option linter.unusedVariables false
set_option maxRecDepth 100000 in
set_option maxHeartbeats 8000000 in
theorem rvar_some (p i v k : Nat) (S : ByteArray) (w : World) (h : ROk p w S i) (hn : numF 0 0 ((bOf S).drop i) = some (v, k)) :
    Calls Tryd.prog 35 #[.pointer (some ⟨p, 0, none⟩)] w fun ev w' => ev = .returned (.int .u64 v) ∧ ROk p w' S (i + k) ∧ But (· = p) w w' := by
  have HRE := Lib.hid (ready_ok p i S w h)
  have c1 : w.cell? ⟨p, 1, none⟩ = some (.int .i64 i) := (cell_of_row w p 1 _ 97 (0, 0) h.1).trans rfl
  have HNU : Hid (Calls Tryd.prog 51 #[.func (.func 52) #[.pointer (some ⟨p, 0, none⟩)] #[]] w fun ev w' => NumPost p S i ev w w') := Lib.hid (number_any p i S w h)
  have HNF := Lib.hid hn
  clear h hn
  go_enter Tryd.func35, Tryd.ntmps35
  go_wp2_with fail
  refine HRE.out.mono ?_
  rintro ev w1 ⟨rfl, rfl⟩
  go_wp2_with fail
  refine HNU.out.mono ?_
  rintro ev w2 hq
  unfold NumPost at hq
  rw [HNF.out] at hq
  obtain ⟨⟨rfl, h2⟩, b2⟩ := hq
  have H2 := Lib.hid (And.intro h2 b2)
  clear h2 b2
  go_wp2_with fail
  go_ret
  exact ⟨rfl, H2.out.1, H2.out.2⟩
set_option maxRecDepth 100000 in
set_option maxHeartbeats 8000000 in
theorem rvar_none (a : Nat → Addr) (B p i : Nat) (S : ByteArray) (w : World) (hE : Env B a w) (hpB : B ≤ p) (h : ROk p w S i) (hn : numF 0 0 ((bOf S).drop i) = none) :
    Calls Tryd.prog 35 #[.pointer (some ⟨p, 0, none⟩)] w fun ev w' => ev = .returned (.int .u64 0) ∧ RBad p w' S ∧ But (· = p) w w' := by
  have HRE := Lib.hid (ready_ok p i S w h)
  have c1 : w.cell? ⟨p, 1, none⟩ = some (.int .i64 i) := (cell_of_row w p 1 _ 97 (0, 0) h.1).trans rfl
  have HNU : Hid (Calls Tryd.prog 51 #[.func (.func 52) #[.pointer (some ⟨p, 0, none⟩)] #[]] w fun ev w' => NumPost p S i ev w w') := Lib.hid (number_any p i S w h)
  have HNF := Lib.hid hn
  have HE := Lib.hid hE
  have HBS := Lib.hid hE.laid.size
  clear h hn hE
  go_enter Tryd.func35, Tryd.ntmps35
  go_wp2_with fail
  refine HRE.out.mono ?_
  rintro ev w1 ⟨rfl, rfl⟩
  go_wp2_with fail
  refine HNU.out.mono ?_
  rintro ev w2 hq
  unfold NumPost at hq
  rw [HNF.out] at hq
  obtain ⟨⟨rfl, j, h2⟩, b2⟩ := hq
  have HBA := Lib.hid (bad_ok a B p j i S w2 (HE.out.below (b2.to_below HBS.out (fun k hk q => by omega))) h2)
  have B2 := Lib.hid b2
  clear h2 b2
  go_wp2_with fail
  refine HBA.out.mono ?_
  rintro ev w3 ⟨rfl, h3, b3⟩
  have H3 := Lib.hid (And.intro h3 (B2.out.trans b3))
  clear h3 b3
  go_wp2_with fail
  go_ret
  exact ⟨rfl, H3.out.1, H3.out.2⟩
set_option maxRecDepth 100000 in
set_option maxHeartbeats 8000000 in
theorem rvar_bad (p : Nat) (S : ByteArray) (w : World) (h : RBad p w S) :
    Calls Tryd.prog 35 #[.pointer (some ⟨p, 0, none⟩)] w fun ev w' => ev = .returned (.int .u64 0) ∧ w = w' := by
  have HRE := Lib.hid (ready_bad p S w h)
  clear h
  go_enter Tryd.func35, Tryd.ntmps35
  go_wp2_with fail
  refine HRE.out.mono ?_
  rintro ev w1 ⟨rfl, rfl⟩
  go_wp2_with fail
  go_ret
  exact ⟨rfl, rfl⟩
end Go.Proofs.YtnpblpbcchminaaDoor
