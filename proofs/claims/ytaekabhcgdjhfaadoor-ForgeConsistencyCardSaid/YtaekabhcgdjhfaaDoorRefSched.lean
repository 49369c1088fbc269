/- cartularyref04.schedule: the words of a block. No condition. -/
import Derived.Test.YtaekabhcgdjhfaaDoorShaPlain
import Derived.Test.YtaekabhcgdjhfaaDoorHashMem
import Derived.Deep.RegionHeld3
import Derived.Deep.DrawnRows
import Derived.BigRegion
namespace Go.Proofs.YtaekabhcgdjhfaaDoor
open Go.ChangeShapes Go.WideShapes Go.ChangeAt Go.RowKit
set_option linter.unusedVariables false
def wordsV (xs : List UInt8) : Array Value := ((wds xs 64).map (Value.int .u32)).toArray
end Go.Proofs.YtaekabhcgdjhfaaDoor
