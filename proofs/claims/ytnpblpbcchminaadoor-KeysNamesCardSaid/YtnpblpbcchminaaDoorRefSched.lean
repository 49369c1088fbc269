/- cartularyref04.schedule: the words of a block. No condition. -/
import Derived.Test.YtnpblpbcchminaaDoorShaPlain
import Derived.Test.YtnpblpbcchminaaDoorHashMem
import Derived.Deep.RegionHeld3
import Derived.Deep.DrawnRows
import Derived.BigRegion
namespace Go.Proofs.YtnpblpbcchminaaDoor
open Go.ChangeShapes Go.WideShapes Go.ChangeAt Go.RowKit
set_option linter.unusedVariables false
def wordsV (xs : List UInt8) : Array Value := ((wds xs 64).map (Value.int .u32)).toArray
end Go.Proofs.YtnpblpbcchminaaDoor
