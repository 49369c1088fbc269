/- batch.walk.says: any stretch, whoever is told of the nodes (Path). -/
import Derived.Test.YtaekabhcgdjhfaaDoorBatchLeaf
import Derived.Test.YtaekabhcgdjhfaaDoorNotePlain
import Derived.BigRegion
import Derived.Deep.DeepCutAuto
import Derived.Test.YtaekabhcgdjhfaaDoorBatchNode
namespace Go.Proofs.YtaekabhcgdjhfaaDoor
open Go.ChangeShapes Go.WideShapes Go.ChangeAt Go.RowKit
set_option linter.unusedVariables false
end Go.Proofs.YtaekabhcgdjhfaaDoor
