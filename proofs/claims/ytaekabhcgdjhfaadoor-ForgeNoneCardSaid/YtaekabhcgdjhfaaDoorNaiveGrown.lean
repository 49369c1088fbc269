/- cartularylaw08.grown: a log of texts; those too long are refused. Condition: the package-level variables read as listed. -/
import Derived.Test.YtaekabhcgdjhfaaDoorNaiveHashes
import Derived.Test.YtaekabhcgdjhfaaDoorTexts
namespace Go.Proofs.YtaekabhcgdjhfaaDoor
open Go.ChangeShapes Go.WideShapes Go.ChangeAt Go.RowKit
set_option linter.unusedVariables false
/-- the texts that a log takes -/
def keptL (D : List ByteArray) : List ByteArray := D.filter fun s => decide (s.size ≤ 65536)
theorem keptL_hit {D : List ByteArray} {k : Nat} {s : ByteArray} (h : D[k]? = some s) (hs : s.size ≤ 65536) : keptL (D.take (k + 1)) = keptL (D.take k) ++ [s] := by
  unfold keptL; rw [List.take_add_one, h]; simp [hs]
theorem keptL_miss {D : List ByteArray} {k : Nat} {s : ByteArray} (h : D[k]? = some s) (hs : ¬ s.size ≤ 65536) : keptL (D.take (k + 1)) = keptL (D.take k) := by
  unfold keptL; rw [List.take_add_one, h]; simp [hs]
theorem keptL_len (D : List ByteArray) (k : Nat) : (keptL (D.take k)).length ≤ k := Nat.le_trans (List.length_filter_le _ _) (by simp; omega)
theorem Coll.below_of {Bl : Nat} {w w' : World} {v v' : Value} (h : Coll Bl w w' v v') {B : Nat} (hB : B ≤ Bl) (hs : B ≤ w.heap.size) (hv : ∀ k, v.ownBlock = some k → B ≤ k) : Below B w w' :=
  ⟨h.os, h.tape, h.output, h.size, fun k hk => h.same k (by omega) (by omega) (fun e => by have := hv k e.symm; omega)⟩
theorem LogAt.own_ge {base b : Nat} {v : Value} {L : List ByteArray} {w : World} (h : LogAt base b v L w) : ∀ k, v.ownBlock = some k → base ≤ k := fun k hk => (h.2.2.2.1.lt k hk).1
attribute [irreducible] keptL
end Go.Proofs.YtaekabhcgdjhfaaDoor
