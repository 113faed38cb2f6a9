/- The place of an error: both numbers are greater than 0, or both are 0. Plain. -/
import Derived.Test.YtdhikpkecmaplaaGreatDoorRLexMk
set_option linter.unusedSimpArgs false
set_option linter.unusedVariables false
namespace Go.Proofs.YtdhikpkecmaplaaGreatDoor
def PosR : LexR -> Prop
  | .ok l => ∀ t ∈ l, 0 < t.line /\ 0 < t.col
  | .err a b _ => 0 < a /\ 0 < b
theorem PosR.cons {r:LexR} {t:Tok} (h:PosR r) (h1:0 < t.line) (h2:0 < t.col):PosR (r.cons t):=by
 cases r with
 | ok l =>
  intro u hu;rcases List.mem_cons.1 hu with rfl | hu
  ·exact ⟨h1,h2⟩
  ·exact h u hu
 | err a b c=>exact h
end Go.Proofs.YtdhikpkecmaplaaGreatDoor
