/-
  No cell of these rows narrows 'for every input' (looked for: loops, veiled, ifaces, maps, wideKeys, modest, calm, conditions, laid).
  DERIVED. THE GIVEN ROWS OF THIS SEAT. 7 by the template 'for every input the law returns true; each argument reads behind the call as it read before'; 0 by the template 'total and deterministic' (their statements: YtbcfanfnnmijdaaTotals.lean).
  GIVEN WITH THE SEED: the statements are not yours to turn. If you find one false, say at which input.
  Laid BY PROGRAM, IN A SANDBOX (cutbox-rows.mjs): the forced cells as the released guide's own fill.sh prints them over the translation 15f8396c1e5df53d… (all of the seat's roots in one cut). By AI agents, Wed Nov 11 2026. No macro, syntax, notation, axiom, sorry.
-/
import Derived.Test.YtbcfanfnnmijdaaChecked
import GoSem.Claim
import GoSem.ClaimJoined
import GoSem.ClaimMapViews
import Derived.JoinedTies
import Derived.KernelRfl
namespace Go.Proofs.Ytbcfanfnnmijdaa
/- THE CELL 'sum', in the pinned program and in every row, IS THE sha256 OF THE DUMP (.gsa) THAT YtbcfanfnnmijdaaProg.lean LOADS. Nothing in Lean hashes anything: it is a label: what it is worth is what the hold of that sum in a sandbox is worth. -/
noncomputable def Try.pinned : Pinned := { name := "ytbcfanfnnmijdaa", sum := "15f8396c1e5df53d89b2915c6419b90a8d764025e7dbb428318f65e4aef49617", checked := Try.checked }
namespace Rows
def none {H : Type} : Left H := { results := [], args := [] }

/-- 'marcheslaw16.OrderKeeps': WHATEVER THE INPUT: true; the input reads as it did. -/
def orderKeepsSpec : ChangeSpec := { name := "orderKeeps", fn := fun _ => fun
  | [d1, d2, d3] => { results := [.lit (.bool true)], args := [d1, d2, d3] }
  | _ => none }
def orderKeepsRow : OpenClaim := { program := "ytbcfanfnnmijdaa", sum := "15f8396c1e5df53d89b2915c6419b90a8d764025e7dbb428318f65e4aef49617", func := "marches/marcheslaw16.OrderKeeps", spec := "orderKeeps", unfollowed := true, recurses := true, apart := false }
def OrderKeepsSaid : Prop := orderKeepsRow.holds Try.pinned (OpenSpec.ofChange orderKeepsSpec)

/-- ITS FALSE NEIGHBOUR: 'it returns false'. Refute it at one input. -/
def orderKeepsWrong : ChangeSpec := { name := "orderKeeps", fn := fun _ => fun
  | [d1, d2, d3] => { results := [.lit (.bool false)], args := [d1, d2, d3] }
  | _ => none }
def OrderKeepsWrongFalsely : Prop := orderKeepsRow.holds Try.pinned (OpenSpec.ofChange orderKeepsWrong)

/-- 'marcheslaw16.OrderChains': WHATEVER THE INPUT: true; the input reads as it did. -/
def orderChainsSpec : ChangeSpec := { name := "orderChains", fn := fun _ => fun
  | [d1, d2] => { results := [.lit (.bool true)], args := [d1, d2] }
  | _ => none }
def orderChainsRow : OpenClaim := { program := "ytbcfanfnnmijdaa", sum := "15f8396c1e5df53d89b2915c6419b90a8d764025e7dbb428318f65e4aef49617", func := "marches/marcheslaw16.OrderChains", spec := "orderChains", unfollowed := true, recurses := true, apart := false }
def OrderChainsSaid : Prop := orderChainsRow.holds Try.pinned (OpenSpec.ofChange orderChainsSpec)

/-- ITS FALSE NEIGHBOUR: 'it returns false'. Refute it at one input. -/
def orderChainsWrong : ChangeSpec := { name := "orderChains", fn := fun _ => fun
  | [d1, d2] => { results := [.lit (.bool false)], args := [d1, d2] }
  | _ => none }
def OrderChainsWrongFalsely : Prop := orderChainsRow.holds Try.pinned (OpenSpec.ofChange orderChainsWrong)

/-- 'marcheslaw16.OrderConflicts': WHATEVER THE INPUT: true; the input reads as it did. -/
def orderConflictsSpec : ChangeSpec := { name := "orderConflicts", fn := fun _ => fun
  | [d1, d2, d3] => { results := [.lit (.bool true)], args := [d1, d2, d3] }
  | _ => none }
def orderConflictsRow : OpenClaim := { program := "ytbcfanfnnmijdaa", sum := "15f8396c1e5df53d89b2915c6419b90a8d764025e7dbb428318f65e4aef49617", func := "marches/marcheslaw16.OrderConflicts", spec := "orderConflicts", unfollowed := true, recurses := true, apart := false }
def OrderConflictsSaid : Prop := orderConflictsRow.holds Try.pinned (OpenSpec.ofChange orderConflictsSpec)

/-- ITS FALSE NEIGHBOUR: 'it returns false'. Refute it at one input. -/
def orderConflictsWrong : ChangeSpec := { name := "orderConflicts", fn := fun _ => fun
  | [d1, d2, d3] => { results := [.lit (.bool false)], args := [d1, d2, d3] }
  | _ => none }
def OrderConflictsWrongFalsely : Prop := orderConflictsRow.holds Try.pinned (OpenSpec.ofChange orderConflictsWrong)

/-- 'marcheslaw16.OrderTells': WHATEVER THE INPUT: true; the input reads as it did. -/
def orderTellsSpec : ChangeSpec := { name := "orderTells", fn := fun _ => fun
  | [d1, d2, d3, d4, d5] => { results := [.lit (.bool true)], args := [d1, d2, d3, d4, d5] }
  | _ => none }
def orderTellsRow : OpenClaim := { program := "ytbcfanfnnmijdaa", sum := "15f8396c1e5df53d89b2915c6419b90a8d764025e7dbb428318f65e4aef49617", func := "marches/marcheslaw16.OrderTells", spec := "orderTells", unfollowed := true, recurses := true, apart := false }
def OrderTellsSaid : Prop := orderTellsRow.holds Try.pinned (OpenSpec.ofChange orderTellsSpec)

/-- ITS FALSE NEIGHBOUR: 'it returns false'. Refute it at one input. -/
def orderTellsWrong : ChangeSpec := { name := "orderTells", fn := fun _ => fun
  | [d1, d2, d3, d4, d5] => { results := [.lit (.bool false)], args := [d1, d2, d3, d4, d5] }
  | _ => none }
def OrderTellsWrongFalsely : Prop := orderTellsRow.holds Try.pinned (OpenSpec.ofChange orderTellsWrong)

/-- 'marcheslaw16.OrderStages': WHATEVER THE INPUT: true; the input reads as it did. -/
def orderStagesSpec : ChangeSpec := { name := "orderStages", fn := fun _ => fun
  | [d1, d2] => { results := [.lit (.bool true)], args := [d1, d2] }
  | _ => none }
def orderStagesRow : OpenClaim := { program := "ytbcfanfnnmijdaa", sum := "15f8396c1e5df53d89b2915c6419b90a8d764025e7dbb428318f65e4aef49617", func := "marches/marcheslaw16.OrderStages", spec := "orderStages", unfollowed := true, recurses := true, apart := false }
def OrderStagesSaid : Prop := orderStagesRow.holds Try.pinned (OpenSpec.ofChange orderStagesSpec)

/-- ITS FALSE NEIGHBOUR: 'it returns false'. Refute it at one input. -/
def orderStagesWrong : ChangeSpec := { name := "orderStages", fn := fun _ => fun
  | [d1, d2] => { results := [.lit (.bool false)], args := [d1, d2] }
  | _ => none }
def OrderStagesWrongFalsely : Prop := orderStagesRow.holds Try.pinned (OpenSpec.ofChange orderStagesWrong)

/-- 'marcheslaw16.OrderReady': WHATEVER THE INPUT: true; the input reads as it did. -/
def orderReadySpec : ChangeSpec := { name := "orderReady", fn := fun _ => fun
  | [d1, d2] => { results := [.lit (.bool true)], args := [d1, d2] }
  | _ => none }
def orderReadyRow : OpenClaim := { program := "ytbcfanfnnmijdaa", sum := "15f8396c1e5df53d89b2915c6419b90a8d764025e7dbb428318f65e4aef49617", func := "marches/marcheslaw16.OrderReady", spec := "orderReady", unfollowed := true, recurses := true, apart := false }
def OrderReadySaid : Prop := orderReadyRow.holds Try.pinned (OpenSpec.ofChange orderReadySpec)

/-- ITS FALSE NEIGHBOUR: 'it returns false'. Refute it at one input. -/
def orderReadyWrong : ChangeSpec := { name := "orderReady", fn := fun _ => fun
  | [d1, d2] => { results := [.lit (.bool false)], args := [d1, d2] }
  | _ => none }
def OrderReadyWrongFalsely : Prop := orderReadyRow.holds Try.pinned (OpenSpec.ofChange orderReadyWrong)

/-- 'marcheslaw16.OrderWrong': WHATEVER THE INPUT: true; the input reads as it did. -/
def orderWrongSpec : ChangeSpec := { name := "orderWrong", fn := fun _ => fun
  | [d1, d2] => { results := [.lit (.bool true)], args := [d1, d2] }
  | _ => none }
def orderWrongRow : OpenClaim := { program := "ytbcfanfnnmijdaa", sum := "15f8396c1e5df53d89b2915c6419b90a8d764025e7dbb428318f65e4aef49617", func := "marches/marcheslaw16.OrderWrong", spec := "orderWrong", unfollowed := true, recurses := true, apart := false }
def OrderWrongSaid : Prop := orderWrongRow.holds Try.pinned (OpenSpec.ofChange orderWrongSpec)

/-- ITS FALSE NEIGHBOUR: 'it returns false'. Refute it at one input. -/
def orderWrongWrong : ChangeSpec := { name := "orderWrong", fn := fun _ => fun
  | [d1, d2] => { results := [.lit (.bool false)], args := [d1, d2] }
  | _ => none }
def OrderWrongWrongFalsely : Prop := orderWrongRow.holds Try.pinned (OpenSpec.ofChange orderWrongWrong)

/- THE SECOND FORM. 'bulk': how many values and letters a reading holds, each counted each time it is reached (what is shared counts as often as it is met; a slice's spare places count too). A statement '..UptoSaid' is the law's where the arguments, and the package variables that the reading takes, are together of bulk at most 1048576: NARROWER than '..Said'. Prove '..Said' where nothing that the law and all that it calls make is longer than what came in: it says more and counts as full. Else prove '..UptoSaid'. A law counts once. -/
mutual
def uptoBulk {H : Type} : DataW H → Nat
  | .lit (.string bytes) => bytes.length + 1
  | .lit _ => 1
  | .nil => 1
  | .ptr d => uptoBulk d + 1
  | .slice elems spare => uptoBulkAll elems + uptoBulkAll spare + 1
  | .agg parts => uptoBulkAll parts + 1
  | .iface _ d => uptoBulk d + 1
  | .map entries => uptoBulkEntries entries + 1
  | .held _ => 1
def uptoBulkAll {H : Type} : List (DataW H) → Nat
  | [] => 0
  | d :: r => uptoBulk d + uptoBulkAll r
def uptoBulkEntries {H : Type} : List (Lit × DataW H) → Nat
  | [] => 0
  | x :: r => uptoBulkEntry x + uptoBulkEntries r
def uptoBulkEntry {H : Type} : Lit × DataW H → Nat
  | (.string bytes, d) => bytes.length + uptoBulk d + 1
  | (_, d) => uptoBulk d + 1
 end
def uptoSmall : (H : Type) → List (DataW H) → Bool := fun _ ds => decide (uptoBulkAll ds ≤ 1048576)
def OpenSpec.upto (s : _root_.Go.ChangeSpec) : _root_.Go.OpenSpec := { _root_.Go.OpenSpec.ofChange s with cond := some uptoSmall }

/-- 'marcheslaw16.OrderKeeps', WHERE WHAT IT READS IS OF BULK AT MOST 1048576: true; the input reads as it did. -/
def orderKeepsUptoRow : OpenClaim := { program := "ytbcfanfnnmijdaa", sum := "15f8396c1e5df53d89b2915c6419b90a8d764025e7dbb428318f65e4aef49617", func := "marches/marcheslaw16.OrderKeeps", spec := "orderKeeps", unfollowed := true, recurses := true, apart := false, narrowed := true }
def OrderKeepsUptoSaid : Prop := orderKeepsUptoRow.holds Try.pinned (OpenSpec.upto orderKeepsSpec)

/-- 'marcheslaw16.OrderChains', WHERE WHAT IT READS IS OF BULK AT MOST 1048576: true; the input reads as it did. -/
def orderChainsUptoRow : OpenClaim := { program := "ytbcfanfnnmijdaa", sum := "15f8396c1e5df53d89b2915c6419b90a8d764025e7dbb428318f65e4aef49617", func := "marches/marcheslaw16.OrderChains", spec := "orderChains", unfollowed := true, recurses := true, apart := false, narrowed := true }
def OrderChainsUptoSaid : Prop := orderChainsUptoRow.holds Try.pinned (OpenSpec.upto orderChainsSpec)

/-- 'marcheslaw16.OrderConflicts', WHERE WHAT IT READS IS OF BULK AT MOST 1048576: true; the input reads as it did. -/
def orderConflictsUptoRow : OpenClaim := { program := "ytbcfanfnnmijdaa", sum := "15f8396c1e5df53d89b2915c6419b90a8d764025e7dbb428318f65e4aef49617", func := "marches/marcheslaw16.OrderConflicts", spec := "orderConflicts", unfollowed := true, recurses := true, apart := false, narrowed := true }
def OrderConflictsUptoSaid : Prop := orderConflictsUptoRow.holds Try.pinned (OpenSpec.upto orderConflictsSpec)

/-- 'marcheslaw16.OrderTells', WHERE WHAT IT READS IS OF BULK AT MOST 1048576: true; the input reads as it did. -/
def orderTellsUptoRow : OpenClaim := { program := "ytbcfanfnnmijdaa", sum := "15f8396c1e5df53d89b2915c6419b90a8d764025e7dbb428318f65e4aef49617", func := "marches/marcheslaw16.OrderTells", spec := "orderTells", unfollowed := true, recurses := true, apart := false, narrowed := true }
def OrderTellsUptoSaid : Prop := orderTellsUptoRow.holds Try.pinned (OpenSpec.upto orderTellsSpec)

/-- 'marcheslaw16.OrderStages', WHERE WHAT IT READS IS OF BULK AT MOST 1048576: true; the input reads as it did. -/
def orderStagesUptoRow : OpenClaim := { program := "ytbcfanfnnmijdaa", sum := "15f8396c1e5df53d89b2915c6419b90a8d764025e7dbb428318f65e4aef49617", func := "marches/marcheslaw16.OrderStages", spec := "orderStages", unfollowed := true, recurses := true, apart := false, narrowed := true }
def OrderStagesUptoSaid : Prop := orderStagesUptoRow.holds Try.pinned (OpenSpec.upto orderStagesSpec)

/-- 'marcheslaw16.OrderReady', WHERE WHAT IT READS IS OF BULK AT MOST 1048576: true; the input reads as it did. -/
def orderReadyUptoRow : OpenClaim := { program := "ytbcfanfnnmijdaa", sum := "15f8396c1e5df53d89b2915c6419b90a8d764025e7dbb428318f65e4aef49617", func := "marches/marcheslaw16.OrderReady", spec := "orderReady", unfollowed := true, recurses := true, apart := false, narrowed := true }
def OrderReadyUptoSaid : Prop := orderReadyUptoRow.holds Try.pinned (OpenSpec.upto orderReadySpec)

/-- 'marcheslaw16.OrderWrong', WHERE WHAT IT READS IS OF BULK AT MOST 1048576: true; the input reads as it did. -/
def orderWrongUptoRow : OpenClaim := { program := "ytbcfanfnnmijdaa", sum := "15f8396c1e5df53d89b2915c6419b90a8d764025e7dbb428318f65e4aef49617", func := "marches/marcheslaw16.OrderWrong", spec := "orderWrong", unfollowed := true, recurses := true, apart := false, narrowed := true }
def OrderWrongUptoSaid : Prop := orderWrongUptoRow.holds Try.pinned (OpenSpec.upto orderWrongSpec)

end Rows
end Go.Proofs.Ytbcfanfnnmijdaa
