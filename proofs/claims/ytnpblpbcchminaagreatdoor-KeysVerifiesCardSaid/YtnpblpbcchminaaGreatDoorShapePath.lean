/- shape.halves and shape.Path, what they answer: the stretches of a path. Condition: the package-level variables read as listed. -/
import Derived.Test.YtnpblpbcchminaaGreatDoorLen64
import Derived.Test.YtnpblpbcchminaaGreatDoorErrs
import Derived.Test.YtnpblpbcchminaaGreatDoorMem
import Derived.RegionTactic
import Derived.ChangeAlike
import Derived.BigQuiet
import Derived.Deep.QuietTactic
import Derived.BigRegion
import Derived.Laws.EntriesVeiled
namespace Go.Proofs.YtnpblpbcchminaaGreatDoor
open Go.ChangeShapes Go.WideShapes Go.ChangeAt Go.RowKit
set_option linter.unusedVariables false

def pathL : Nat → Int → Int → Int → List (Int × Int)
  | 0, _, _, _ => []
  | f + 1, ix, b, e => if e - b < 2 then [] else if ix < b + blwI (e - b) then pathL f ix b (b + blwI (e - b)) ++ [(b + blwI (e - b), e)] else pathL f ix (b + blwI (e - b)) e ++ [(b, b + blwI (e - b))]
theorem pathL_len : ∀ (f : Nat) (ix b e : Int), (pathL f ix b e).length ≤ f
  | 0, _, _, _ => Nat.le_refl _
  | f + 1, ix, b, e => by
      unfold pathL
      have h1 := pathL_len f ix b (b + blwI (e - b))
      have h2 := pathL_len f ix (b + blwI (e - b)) e
      split
      · simp
      · split <;> simp <;> omega
theorem blwI_le_pow {n : Int} {f : Nat} (h2 : 2 ≤ n) (h : n ≤ pow2 (f + 1)) : blwI n ≤ pow2 f := by
  have hb := blwI_bd h2
  have hp := blwI_pow h2
  have hl := lgI_pos h2
  obtain ⟨k, hk⟩ : ∃ k : Nat, (lgI n - 1).toNat = k := ⟨_, rfl⟩
  have e1 : blwI n = pow2 k := by rw [hp, hk]; unfold pow2; simp
  rw [e1]
  refine pow2_le ?_
  by_cases hc : k ≤ f
  · exact hc
  · have := pow2_le (show f + 1 ≤ k by omega); omega

/-- behind a call of a function that puts stretches behind a list in the box Bl -/
def CollPost (base Bl : Nat) (w : World) (v : Value) (n : Nat) (xs : List Value) (news : List (Int × Int)) (ev : Ending) (w' : World) : Prop :=
  ev = .returned (.tuple #[]) ∧ ∃ v', w'.cell? ⟨Bl, 0, none⟩ = some v' ∧ w'.frozen? ⟨Bl, 0, none⟩ = false ∧ w'.ownsRow base 168 2 v' (n + news.length) (xs ++ spanCells news) ∧ Coll Bl w w' v v'
theorem collPost_nil {base Bl : Nat} {w w' : World} {v : Value} {n : Nat} {xs : List Value} {ev : Ending} (he : ev = .returned (.tuple #[])) (hl : w.cell? ⟨Bl, 0, none⟩ = some v) (hf : w.frozen? ⟨Bl, 0, none⟩ = false)
    (hown : w.ownsRow base 168 2 v n xs) (hb : Below w.heap.size w w') : CollPost base Bl w v n xs [] ev w' :=
  ⟨he, v, cell_below hb hl (block_of_cell hl), frozen_below hb hf (block_of_cell hl), by simpa [spanCells] using own_below hown hb (Nat.le_refl _), Coll.below hb⟩

theorem info_span : (Tryz.prog.info? 168).map (fun i => (i.zero, i.size, i.bytes)) = some (some (.agg #[.int .u64 0, .int .u64 0]), 2, 16) := by kernel_rfl
end Go.Proofs.YtnpblpbcchminaaGreatDoor
