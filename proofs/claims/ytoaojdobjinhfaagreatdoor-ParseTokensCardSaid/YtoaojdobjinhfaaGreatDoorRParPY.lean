/- The reference parser's statement, walked. -/
/- The reference parser's statement, walked. -/
import Derived.Test.YtoaojdobjinhfaaGreatDoorRParOY
set_option linter.unusedSimpArgs false
set_option linter.unusedVariables false
namespace Go.Proofs.YtoaojdobjinhfaaGreatDoor
open Go.RowKit

end Go.Proofs.YtoaojdobjinhfaaGreatDoor
namespace Go.Proofs.YtoaojdobjinhfaaGreatDoor
open Go.RowKit

end Go.Proofs.YtoaojdobjinhfaaGreatDoor
