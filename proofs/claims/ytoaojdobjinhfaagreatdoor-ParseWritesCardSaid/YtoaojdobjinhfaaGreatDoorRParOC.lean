/- The reference parser's branch, walked. -/
import Derived.Test.YtoaojdobjinhfaaGreatDoorRParLC
set_option linter.unusedSimpArgs false
set_option linter.unusedVariables false
namespace Go.Proofs.YtoaojdobjinhfaaGreatDoor
open Go.RowKit

theorem zbD (w:World) (X Y:List Value) (tX tY:TypeId):∃ W0,W0=(w.alloc (.cells X.toArray tX)).alloc (.cells Y.toArray tY)∧Below w.heap.size w W0∧OwnV W0 w.heap.size tX X∧OwnV W0 (w.heap.size+1) tY Y∧w.heap.size+2≤W0.heap.size:=opened w X Y tX tY
end Go.Proofs.YtoaojdobjinhfaaGreatDoor
