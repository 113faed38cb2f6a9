/- What a word is. Plain mathematics. -/
import Derived.Test.YtcichbdkdbnmiaaDoorLexS
namespace Go.Proofs.YtcichbdkdbnmiaaDoor

def wordS (s : List UInt8) : Bool := match s with
  | [] => false
  | b :: r => decide ((b :: r).length ≤ 24) && letterB b && r.all partB
def tokAt (l : List Tok) (i : Nat) : Tok := l.getD i ⟨4, [], 0, 0, 0⟩
end Go.Proofs.YtcichbdkdbnmiaaDoor
