/- batch.walk.says: any stretch, whoever is told of the nodes (Path). -/
import Derived.Test.YtpdkpdpkggepcaaGreatDoorBatchLeaf
import Derived.Test.YtpdkpdpkggepcaaGreatDoorNotePlain
import Derived.BigRegion
import Derived.Deep.DeepCutAuto
import Derived.Test.YtpdkpdpkggepcaaGreatDoorBatchNode
namespace Go.Proofs.YtpdkpdpkggepcaaGreatDoor
open Go.ChangeShapes Go.WideShapes Go.ChangeAt Go.RowKit
set_option linter.unusedVariables false
end Go.Proofs.YtpdkpdpkggepcaaGreatDoor
