/- The errors of package api that these walks meet: what a walk may use of them. Condition: the package-level variables read as listed. -/
import Derived.Test.YtjhlgkjgodjmhaaDoorRows
import Derived.Test.YtjhlgkjgodjmhaaDoorAid
import Derived.LaidEql
import Derived.Stop.Asserts
import Derived.RowKitTokens
import Derived.Below
namespace Go.Proofs.YtjhlgkjgodjmhaaDoor
open Go.ChangeShapes Go.WideShapes Go.ChangeAt Go.RowKit
set_option linter.unusedVariables false
/-- the error of number k -/
def errV (a : Nat → Addr) (k : Nat) : Value := .iface 115 (.pointer (some (a k)))
/-- In world w the errors' variables hold what they hold at the start; all that lies below block B. -/
structure Laid (B : Nat) (a : Nat → Addr) (w : World) : Prop where
  size : B ≤ w.heap.size
  low : 6 ≤ B
  e1 : w.cell? ⟨2, 0, none⟩ = some (.iface 115 (.pointer (some (a 1))))
  e2 : w.cell? ⟨4, 0, none⟩ = some (.iface 115 (.pointer (some (a 2))))
  e4 : w.cell? ⟨3, 0, none⟩ = some (.iface 115 (.pointer (some (a 4))))
  e5 : w.cell? ⟨1, 0, none⟩ = some (.iface 115 (.pointer (some (a 5))))
  e10 : w.cell? ⟨0, 0, none⟩ = some (.iface 115 (.pointer (some (a 10))))
theorem Laid.below {B : Nat} {a : Nat → Addr} {w w' : World} (h : Laid B a w) (hb : Below B w w') : Laid B a w' := by
  have hc : ∀ g o, g < 6 → w'.cell? ⟨g, o, none⟩ = w.cell? ⟨g, o, none⟩ := fun g o hg => hb.cell (p := ⟨g, o, none⟩) (Nat.lt_of_lt_of_le hg h.low)
  exact { size := Nat.le_trans h.size hb.size, low := h.low
          e1 := (hc _ _ (by decide)).trans h.e1
          e2 := (hc _ _ (by decide)).trans h.e2
          e4 := (hc _ _ (by decide)).trans h.e4
          e5 := (hc _ _ (by decide)).trans h.e5
          e10 := (hc _ _ (by decide)).trans h.e10
          }
theorem Laid.grow {B B' : Nat} {a : Nat → Addr} {w w' : World} (h : Laid B a w) (hb : Below B' w w') (hB : w.heap.size ≤ B') : Laid B a w' := h.below (hb.mono (Nat.le_trans h.size hB))
end Go.Proofs.YtjhlgkjgodjmhaaDoor
