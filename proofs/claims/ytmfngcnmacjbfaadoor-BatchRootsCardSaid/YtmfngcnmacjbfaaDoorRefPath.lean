/- cartularyref07.Split, path, sub: what the reference answers. No condition. -/
import Derived.Test.YtmfngcnmacjbfaaDoorShapePath
import Derived.Test.YtmfngcnmacjbfaaDoorShapeProof
import Derived.Test.YtmfngcnmacjbfaaDoorBitsLog
import Derived.Deep.RegionHeld3
import Derived.Deep.AppendLies
import Derived.Outline
namespace Go.Proofs.YtmfngcnmacjbfaaDoor
open Go.ChangeShapes Go.WideShapes Go.ChangeAt Go.RowKit
set_option linter.unusedVariables false
/-- a call that hands back a new list -/
def RefPost (e size : Nat) (w : World) (n : Nat) (xs : List Value) (ev : Ending) (w' : World) : Prop :=
  ∃ v, ev = .returned v ∧ w'.ownsRow w.heap.size e size v n xs ∧ Below w.heap.size w w'
theorem refsplit_yes (n : Int) (w : World) (h2 : 2 ≤ n) (h : n ≤ 9223372036854775808) :
    Calls Tryd.prog 76 #[.int .u64 n] w fun e w' => e = .returned (.tuple #[.int .u64 (blwI n), .bool true]) ∧ w = w' := by
  go_enter Tryd.func76, Tryd.ntmps76
  go_wp2_with fail
  refine (refbelow_yes _ _ h2 (by omega)).mono ?_
  rintro e w' ⟨rfl, rfl⟩
  go_wp2
  go_ret2
  exact ⟨rfl, rfl⟩
theorem refsplit_no (n : Int) (w : World) (h0 : 0 ≤ n) (hn : n < 18446744073709551616) (h : n < 2 ∨ 9223372036854775808 < n) :
    Calls Tryd.prog 76 #[.int .u64 n] w fun e w' => e = .returned (.tuple #[.int .u64 0, .bool false]) ∧ w = w' := by
  by_cases hc : 9223372036854775808 < n
  · clear h
    go_enter Tryd.func76, Tryd.ntmps76
    go_wp2
    go_ret2
    exact ⟨rfl, rfl⟩
  · have h2 : n < 2 := by omega
    clear h
    go_enter Tryd.func76, Tryd.ntmps76
    go_wp2_with fail
    refine (refbelow_no _ _ h0 h2).mono ?_
    rintro e w' ⟨rfl, rfl⟩
    go_wp2
    go_ret2
    exact ⟨rfl, rfl⟩

end Go.Proofs.YtmfngcnmacjbfaaDoor
