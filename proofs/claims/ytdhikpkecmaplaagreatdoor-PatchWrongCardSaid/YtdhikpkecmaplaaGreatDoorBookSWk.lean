/- What can be done with a book of patches, as functions of the book; E tells the error of a source for a slot, base whether the systems are right for so many scripts. Plain mathematics. -/
import Derived.Test.YtdhikpkecmaplaaGreatDoorRegion10Mk
set_option linter.unusedSimpArgs false
set_option linter.unusedVariables false
namespace Go.Proofs.YtdhikpkecmaplaaGreatDoor
def withdrawB (base : Nat -> Bool) (R : Int -> List UInt8 -> Bool) (b : Bk) (p : Pt) : Option Bk × Int :=
  if znM base R b = false then (none, 2) else if (b.pend.any fun x => x.same p) = false then (none, 6) else (some { b with pend := b.pend.eraseP fun x => x.same p }, 0)
end Go.Proofs.YtdhikpkecmaplaaGreatDoor
