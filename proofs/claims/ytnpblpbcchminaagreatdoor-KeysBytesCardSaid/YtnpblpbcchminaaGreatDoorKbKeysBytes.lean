import Derived.Test.YtnpblpbcchminaaGreatDoorKbKeysDec
import Derived.Test.YtnpblpbcchminaaGreatDoorKbKeysLives
/- A signature's bytes, plain: what is written is read, what is read was written. Condition: the table reads as listed. -/
namespace Go.Proofs.YtnpblpbcchminaaGreatDoor
open Go.ChangeShapes Go.WideShapes Go.ChangeAt Go.RowKit
set_option linter.unusedVariables false
end Go.Proofs.YtnpblpbcchminaaGreatDoor
