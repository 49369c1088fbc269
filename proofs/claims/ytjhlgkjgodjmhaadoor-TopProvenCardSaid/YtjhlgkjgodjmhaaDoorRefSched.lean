/- cartularyref04.schedule: the words of a block. No condition. -/
import Derived.Test.YtjhlgkjgodjmhaaDoorShaPlain
import Derived.Test.YtjhlgkjgodjmhaaDoorHashMem
import Derived.Deep.RegionHeld3
import Derived.Deep.DrawnRows
import Derived.BigRegion
namespace Go.Proofs.YtjhlgkjgodjmhaaDoor
open Go.ChangeShapes Go.WideShapes Go.ChangeAt Go.RowKit
set_option linter.unusedVariables false
def wordsV (xs : List UInt8) : Array Value := ((wds xs 64).map (Value.int .u32)).toArray
end Go.Proofs.YtjhlgkjgodjmhaaDoor
