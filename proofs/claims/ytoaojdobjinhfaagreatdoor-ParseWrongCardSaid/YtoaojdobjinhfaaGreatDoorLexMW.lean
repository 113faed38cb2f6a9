/- The lexer's answer without fuel; what its tokens are like; joining. Plain mathematics. -/
import Derived.Test.YtoaojdobjinhfaaGreatDoorLexMC
set_option linter.unusedSimpArgs false
set_option linter.unusedVariables false
namespace Go.Proofs.YtoaojdobjinhfaaGreatDoor
theorem lexT_nil (l c:Int):lexT [] l c=.ok [⟨4,[],0,l,c⟩]:=rfl
open Go.RowKit
end Go.Proofs.YtoaojdobjinhfaaGreatDoor
