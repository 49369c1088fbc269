/- Words turned right. -/
import Derived.Test.YtaekabhcgdjhfaaDoorRows
import Derived.Test.YtaekabhcgdjhfaaDoorHashMem
import Derived.RegionTactic
import Derived.ChangeAlike
import Derived.BigQuiet
import Derived.Deep.QuietTactic
import Derived.StillTailTactics
import Derived.Outline
namespace Go.Proofs.YtaekabhcgdjhfaaDoor
open Go.ChangeShapes Go.WideShapes Go.ChangeAt Go.RowKit
set_option linter.unusedVariables false
/-- x turned right by n -/
def rotW (x n : Int) : Int := bits .or .u32 (x / 2 ^ n.toNat) (x * 2 ^ (32 - n.toNat) % 4294967296)

theorem turn_any (x n : Int) (w : World) (h1 : 1 ≤ n) (h2 : n ≤ 31) :
    Calls Tryd.prog 71 #[.int .u32 x, .int .i64 n] w fun ev w' => ev = .returned (.int .u32 (rotW x n)) ∧ ∃ k, w' = w.drewN k := by
  obtain ⟨m, rfl⟩ := Int.eq_ofNat_of_zero_le (show 0 ≤ n by omega)
  have H : Hid (rotW x (m : Int) = bits .or .u32 (x / 2 ^ m) (x * 2 ^ (32 - m) % 4294967296)) := Lib.hid rfl
  have h3 : 1 ≤ m := by omega
  have h4 : m ≤ 31 := by omega
  clear h1 h2
  go_enter Tryd.func71, Tryd.ntmps71
  go_wp2
  go_quiet (fail)
  go_wp2
  go_ret
  exact ⟨ret_int H.out.symm, _, rfl⟩

attribute [irreducible] rotW
end Go.Proofs.YtaekabhcgdjhfaaDoor
