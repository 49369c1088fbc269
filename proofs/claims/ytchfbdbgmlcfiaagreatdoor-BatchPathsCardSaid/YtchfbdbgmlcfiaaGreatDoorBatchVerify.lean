/- batch.Verify. Condition: the package-level variables read as listed. -/
import Derived.Test.YtchfbdbgmlcfiaaGreatDoorBatchApi
namespace Go.Proofs.YtchfbdbgmlcfiaaGreatDoor
open Go.ChangeShapes Go.WideShapes Go.ChangeAt Go.RowKit
set_option linter.unusedVariables false
end Go.Proofs.YtchfbdbgmlcfiaaGreatDoor
