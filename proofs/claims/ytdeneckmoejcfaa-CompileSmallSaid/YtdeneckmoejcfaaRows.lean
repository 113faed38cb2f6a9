/-
  NARROWER THAN 'FOR EVERY INPUT', by the rows' own cells (each row's printed sentence says how): CompileTells: loops · CompileRenamed: loops · CompileIsSound: loops · CompileCounts: loops · CompileBlocks: loops · CompileErrors: loops · CompileWrong: loops.
  DERIVED. THE GIVEN ROWS OF THIS SEAT. 9 by the template 'for every input the law returns true; each argument reads behind the call as it read before'; 0 by the template 'total and deterministic' (their statements: YtdeneckmoejcfaaTotals.lean).
  GIVEN WITH THE SEED: the statements are not yours to turn. If you find one false, say at which input.
  Laid BY PROGRAM, IN A SANDBOX (cutbox-rows.mjs): the forced cells as the released guide's own fill.sh prints them over the translation a0f60c450c6398d9… (all of the seat's roots in one cut). By AI agents, Wed Nov 11 2026. No macro, syntax, notation, axiom, sorry.
-/
import Derived.Test.YtdeneckmoejcfaaChecked
import GoSem.Claim
import GoSem.ClaimJoined
import GoSem.ClaimMapViews
import Derived.JoinedTies
import Derived.KernelRfl
namespace Go.Proofs.Ytdeneckmoejcfaa
/- THE CELL 'sum', in the pinned program and in every row, IS THE sha256 OF THE DUMP (.gsa) THAT YtdeneckmoejcfaaProg.lean LOADS. Nothing in Lean hashes anything: it is a label: what it is worth is what the hold of that sum in a sandbox is worth. -/
noncomputable def Try.pinned : Pinned := { name := "ytdeneckmoejcfaa", sum := "a0f60c450c6398d962dfcb339fcc8b6344d51499b66f44f35de5f13052ece31a", checked := Try.checked }
namespace Rows
def none {H : Type} : Left H := { results := [], args := [] }

/-- 'marcheslaw13.CompileTells': WHATEVER THE INPUT: true; the input reads as it did. -/
def compileTellsSpec : ChangeSpec := { name := "compileTells", fn := fun _ => fun
  | [d] => { results := [.lit (.bool true)], args := [d] }
  | _ => none }
def compileTellsRow : OpenClaim := { program := "ytdeneckmoejcfaa", sum := "a0f60c450c6398d962dfcb339fcc8b6344d51499b66f44f35de5f13052ece31a", func := "marches/marcheslaw13.CompileTells", spec := "compileTells", unfollowed := true, recurses := true, loops := true, apart := false }
def CompileTellsSaid : Prop := compileTellsRow.holds Try.pinned (OpenSpec.ofChange compileTellsSpec)

/-- ITS FALSE NEIGHBOUR: 'it returns false'. Refute it at one input. -/
def compileTellsWrong : ChangeSpec := { name := "compileTells", fn := fun _ => fun
  | [d] => { results := [.lit (.bool false)], args := [d] }
  | _ => none }
def CompileTellsWrongFalsely : Prop := compileTellsRow.holds Try.pinned (OpenSpec.ofChange compileTellsWrong)

/-- 'marcheslaw13.CompileChecks': WHATEVER THE INPUT: true; the input reads as it did. -/
def compileChecksSpec : ChangeSpec := { name := "compileChecks", fn := fun _ => fun
  | [d] => { results := [.lit (.bool true)], args := [d] }
  | _ => none }
def compileChecksRow : OpenClaim := { program := "ytdeneckmoejcfaa", sum := "a0f60c450c6398d962dfcb339fcc8b6344d51499b66f44f35de5f13052ece31a", func := "marches/marcheslaw13.CompileChecks", spec := "compileChecks", unfollowed := true, recurses := true, apart := false }
def CompileChecksSaid : Prop := compileChecksRow.holds Try.pinned (OpenSpec.ofChange compileChecksSpec)

/-- ITS FALSE NEIGHBOUR: 'it returns false'. Refute it at one input. -/
def compileChecksWrong : ChangeSpec := { name := "compileChecks", fn := fun _ => fun
  | [d] => { results := [.lit (.bool false)], args := [d] }
  | _ => none }
def CompileChecksWrongFalsely : Prop := compileChecksRow.holds Try.pinned (OpenSpec.ofChange compileChecksWrong)

/-- 'marcheslaw13.CompileSmall': WHATEVER THE INPUT: true; the input reads as it did. -/
def compileSmallSpec : ChangeSpec := { name := "compileSmall", fn := fun _ => fun
  | [] => { results := [.lit (.bool true)], args := [] }
  | _ => none }
def compileSmallRow : OpenClaim := { program := "ytdeneckmoejcfaa", sum := "a0f60c450c6398d962dfcb339fcc8b6344d51499b66f44f35de5f13052ece31a", func := "marches/marcheslaw13.CompileSmall", spec := "compileSmall", unfollowed := true, recurses := true, apart := false }
def CompileSmallSaid : Prop := compileSmallRow.holds Try.pinned (OpenSpec.ofChange compileSmallSpec)

/-- ITS FALSE NEIGHBOUR: 'it returns false'. Refute it at one input. -/
def compileSmallWrong : ChangeSpec := { name := "compileSmall", fn := fun _ => fun
  | [] => { results := [.lit (.bool false)], args := [] }
  | _ => none }
def CompileSmallWrongFalsely : Prop := compileSmallRow.holds Try.pinned (OpenSpec.ofChange compileSmallWrong)

/-- 'marcheslaw13.CompileRenamed': WHATEVER THE INPUT: true; the input reads as it did. -/
def compileRenamedSpec : ChangeSpec := { name := "compileRenamed", fn := fun _ => fun
  | [d1, d2] => { results := [.lit (.bool true)], args := [d1, d2] }
  | _ => none }
def compileRenamedRow : OpenClaim := { program := "ytdeneckmoejcfaa", sum := "a0f60c450c6398d962dfcb339fcc8b6344d51499b66f44f35de5f13052ece31a", func := "marches/marcheslaw13.CompileRenamed", spec := "compileRenamed", unfollowed := true, recurses := true, loops := true, apart := false }
def CompileRenamedSaid : Prop := compileRenamedRow.holds Try.pinned (OpenSpec.ofChange compileRenamedSpec)

/-- ITS FALSE NEIGHBOUR: 'it returns false'. Refute it at one input. -/
def compileRenamedWrong : ChangeSpec := { name := "compileRenamed", fn := fun _ => fun
  | [d1, d2] => { results := [.lit (.bool false)], args := [d1, d2] }
  | _ => none }
def CompileRenamedWrongFalsely : Prop := compileRenamedRow.holds Try.pinned (OpenSpec.ofChange compileRenamedWrong)

/-- 'marcheslaw13.CompileIsSound': WHATEVER THE INPUT: true; the input reads as it did. -/
def compileIsSoundSpec : ChangeSpec := { name := "compileIsSound", fn := fun _ => fun
  | [d] => { results := [.lit (.bool true)], args := [d] }
  | _ => none }
def compileIsSoundRow : OpenClaim := { program := "ytdeneckmoejcfaa", sum := "a0f60c450c6398d962dfcb339fcc8b6344d51499b66f44f35de5f13052ece31a", func := "marches/marcheslaw13.CompileIsSound", spec := "compileIsSound", unfollowed := true, recurses := true, loops := true, apart := false }
def CompileIsSoundSaid : Prop := compileIsSoundRow.holds Try.pinned (OpenSpec.ofChange compileIsSoundSpec)

/-- ITS FALSE NEIGHBOUR: 'it returns false'. Refute it at one input. -/
def compileIsSoundWrong : ChangeSpec := { name := "compileIsSound", fn := fun _ => fun
  | [d] => { results := [.lit (.bool false)], args := [d] }
  | _ => none }
def CompileIsSoundWrongFalsely : Prop := compileIsSoundRow.holds Try.pinned (OpenSpec.ofChange compileIsSoundWrong)

/-- 'marcheslaw13.CompileCounts': WHATEVER THE INPUT: true; the input reads as it did. -/
def compileCountsSpec : ChangeSpec := { name := "compileCounts", fn := fun _ => fun
  | [d] => { results := [.lit (.bool true)], args := [d] }
  | _ => none }
def compileCountsRow : OpenClaim := { program := "ytdeneckmoejcfaa", sum := "a0f60c450c6398d962dfcb339fcc8b6344d51499b66f44f35de5f13052ece31a", func := "marches/marcheslaw13.CompileCounts", spec := "compileCounts", unfollowed := true, recurses := true, loops := true, apart := false }
def CompileCountsSaid : Prop := compileCountsRow.holds Try.pinned (OpenSpec.ofChange compileCountsSpec)

/-- ITS FALSE NEIGHBOUR: 'it returns false'. Refute it at one input. -/
def compileCountsWrong : ChangeSpec := { name := "compileCounts", fn := fun _ => fun
  | [d] => { results := [.lit (.bool false)], args := [d] }
  | _ => none }
def CompileCountsWrongFalsely : Prop := compileCountsRow.holds Try.pinned (OpenSpec.ofChange compileCountsWrong)

/-- 'marcheslaw13.CompileBlocks': WHATEVER THE INPUT: true; the input reads as it did. -/
def compileBlocksSpec : ChangeSpec := { name := "compileBlocks", fn := fun _ => fun
  | [d1, d2] => { results := [.lit (.bool true)], args := [d1, d2] }
  | _ => none }
def compileBlocksRow : OpenClaim := { program := "ytdeneckmoejcfaa", sum := "a0f60c450c6398d962dfcb339fcc8b6344d51499b66f44f35de5f13052ece31a", func := "marches/marcheslaw13.CompileBlocks", spec := "compileBlocks", unfollowed := true, recurses := true, loops := true, apart := false }
def CompileBlocksSaid : Prop := compileBlocksRow.holds Try.pinned (OpenSpec.ofChange compileBlocksSpec)

/-- ITS FALSE NEIGHBOUR: 'it returns false'. Refute it at one input. -/
def compileBlocksWrong : ChangeSpec := { name := "compileBlocks", fn := fun _ => fun
  | [d1, d2] => { results := [.lit (.bool false)], args := [d1, d2] }
  | _ => none }
def CompileBlocksWrongFalsely : Prop := compileBlocksRow.holds Try.pinned (OpenSpec.ofChange compileBlocksWrong)

/-- 'marcheslaw13.CompileErrors': WHATEVER THE INPUT: true; the input reads as it did. -/
def compileErrorsSpec : ChangeSpec := { name := "compileErrors", fn := fun _ => fun
  | [d] => { results := [.lit (.bool true)], args := [d] }
  | _ => none }
def compileErrorsRow : OpenClaim := { program := "ytdeneckmoejcfaa", sum := "a0f60c450c6398d962dfcb339fcc8b6344d51499b66f44f35de5f13052ece31a", func := "marches/marcheslaw13.CompileErrors", spec := "compileErrors", unfollowed := true, recurses := true, loops := true, apart := false }
def CompileErrorsSaid : Prop := compileErrorsRow.holds Try.pinned (OpenSpec.ofChange compileErrorsSpec)

/-- ITS FALSE NEIGHBOUR: 'it returns false'. Refute it at one input. -/
def compileErrorsWrong : ChangeSpec := { name := "compileErrors", fn := fun _ => fun
  | [d] => { results := [.lit (.bool false)], args := [d] }
  | _ => none }
def CompileErrorsWrongFalsely : Prop := compileErrorsRow.holds Try.pinned (OpenSpec.ofChange compileErrorsWrong)

/-- 'marcheslaw13.CompileWrong': WHATEVER THE INPUT: true; the input reads as it did. -/
def compileWrongSpec : ChangeSpec := { name := "compileWrong", fn := fun _ => fun
  | [d1, d2] => { results := [.lit (.bool true)], args := [d1, d2] }
  | _ => none }
def compileWrongRow : OpenClaim := { program := "ytdeneckmoejcfaa", sum := "a0f60c450c6398d962dfcb339fcc8b6344d51499b66f44f35de5f13052ece31a", func := "marches/marcheslaw13.CompileWrong", spec := "compileWrong", unfollowed := true, recurses := true, loops := true, apart := false }
def CompileWrongSaid : Prop := compileWrongRow.holds Try.pinned (OpenSpec.ofChange compileWrongSpec)

/-- ITS FALSE NEIGHBOUR: 'it returns false'. Refute it at one input. -/
def compileWrongWrong : ChangeSpec := { name := "compileWrong", fn := fun _ => fun
  | [d1, d2] => { results := [.lit (.bool false)], args := [d1, d2] }
  | _ => none }
def CompileWrongWrongFalsely : Prop := compileWrongRow.holds Try.pinned (OpenSpec.ofChange compileWrongWrong)

/- THE SECOND FORM. 'bulk': how many values and letters a reading holds, each counted each time it is reached (what is shared counts as often as it is met; a slice's spare places count too). A statement '..UptoSaid' is the law's where the arguments, and the package variables that the reading takes, are together of bulk at most 1048576: NARROWER than '..Said'. Prove '..Said' where nothing that the law and all that it calls make is longer than what came in: it says more and counts as full. Else prove '..UptoSaid'. A law counts once. -/
mutual
def uptoBulk {H : Type} : DataW H → Nat
  | .lit (.string bytes) => bytes.length + 1
  | .lit _ => 1
  | .nil => 1
  | .ptr d => uptoBulk d + 1
  | .slice elems spare => uptoBulkAll elems + uptoBulkAll spare + 1
  | .agg parts => uptoBulkAll parts + 1
  | .iface _ d => uptoBulk d + 1
  | .map entries => uptoBulkEntries entries + 1
  | .held _ => 1
def uptoBulkAll {H : Type} : List (DataW H) → Nat
  | [] => 0
  | d :: r => uptoBulk d + uptoBulkAll r
def uptoBulkEntries {H : Type} : List (Lit × DataW H) → Nat
  | [] => 0
  | x :: r => uptoBulkEntry x + uptoBulkEntries r
def uptoBulkEntry {H : Type} : Lit × DataW H → Nat
  | (.string bytes, d) => bytes.length + uptoBulk d + 1
  | (_, d) => uptoBulk d + 1
 end
def uptoSmall : (H : Type) → List (DataW H) → Bool := fun _ ds => decide (uptoBulkAll ds ≤ 1048576)
def OpenSpec.upto (s : _root_.Go.ChangeSpec) : _root_.Go.OpenSpec := { _root_.Go.OpenSpec.ofChange s with cond := some uptoSmall }

/-- 'marcheslaw13.CompileTells', WHERE WHAT IT READS IS OF BULK AT MOST 1048576: true; the input reads as it did. -/
def compileTellsUptoRow : OpenClaim := { program := "ytdeneckmoejcfaa", sum := "a0f60c450c6398d962dfcb339fcc8b6344d51499b66f44f35de5f13052ece31a", func := "marches/marcheslaw13.CompileTells", spec := "compileTells", unfollowed := true, recurses := true, loops := true, apart := false, narrowed := true }
def CompileTellsUptoSaid : Prop := compileTellsUptoRow.holds Try.pinned (OpenSpec.upto compileTellsSpec)

/-- 'marcheslaw13.CompileChecks', WHERE WHAT IT READS IS OF BULK AT MOST 1048576: true; the input reads as it did. -/
def compileChecksUptoRow : OpenClaim := { program := "ytdeneckmoejcfaa", sum := "a0f60c450c6398d962dfcb339fcc8b6344d51499b66f44f35de5f13052ece31a", func := "marches/marcheslaw13.CompileChecks", spec := "compileChecks", unfollowed := true, recurses := true, apart := false, narrowed := true }
def CompileChecksUptoSaid : Prop := compileChecksUptoRow.holds Try.pinned (OpenSpec.upto compileChecksSpec)

/-- 'marcheslaw13.CompileSmall', WHERE WHAT IT READS IS OF BULK AT MOST 1048576: true; the input reads as it did. -/
def compileSmallUptoRow : OpenClaim := { program := "ytdeneckmoejcfaa", sum := "a0f60c450c6398d962dfcb339fcc8b6344d51499b66f44f35de5f13052ece31a", func := "marches/marcheslaw13.CompileSmall", spec := "compileSmall", unfollowed := true, recurses := true, apart := false, narrowed := true }
def CompileSmallUptoSaid : Prop := compileSmallUptoRow.holds Try.pinned (OpenSpec.upto compileSmallSpec)

/-- 'marcheslaw13.CompileRenamed', WHERE WHAT IT READS IS OF BULK AT MOST 1048576: true; the input reads as it did. -/
def compileRenamedUptoRow : OpenClaim := { program := "ytdeneckmoejcfaa", sum := "a0f60c450c6398d962dfcb339fcc8b6344d51499b66f44f35de5f13052ece31a", func := "marches/marcheslaw13.CompileRenamed", spec := "compileRenamed", unfollowed := true, recurses := true, loops := true, apart := false, narrowed := true }
def CompileRenamedUptoSaid : Prop := compileRenamedUptoRow.holds Try.pinned (OpenSpec.upto compileRenamedSpec)

/-- 'marcheslaw13.CompileIsSound', WHERE WHAT IT READS IS OF BULK AT MOST 1048576: true; the input reads as it did. -/
def compileIsSoundUptoRow : OpenClaim := { program := "ytdeneckmoejcfaa", sum := "a0f60c450c6398d962dfcb339fcc8b6344d51499b66f44f35de5f13052ece31a", func := "marches/marcheslaw13.CompileIsSound", spec := "compileIsSound", unfollowed := true, recurses := true, loops := true, apart := false, narrowed := true }
def CompileIsSoundUptoSaid : Prop := compileIsSoundUptoRow.holds Try.pinned (OpenSpec.upto compileIsSoundSpec)

/-- 'marcheslaw13.CompileCounts', WHERE WHAT IT READS IS OF BULK AT MOST 1048576: true; the input reads as it did. -/
def compileCountsUptoRow : OpenClaim := { program := "ytdeneckmoejcfaa", sum := "a0f60c450c6398d962dfcb339fcc8b6344d51499b66f44f35de5f13052ece31a", func := "marches/marcheslaw13.CompileCounts", spec := "compileCounts", unfollowed := true, recurses := true, loops := true, apart := false, narrowed := true }
def CompileCountsUptoSaid : Prop := compileCountsUptoRow.holds Try.pinned (OpenSpec.upto compileCountsSpec)

/-- 'marcheslaw13.CompileBlocks', WHERE WHAT IT READS IS OF BULK AT MOST 1048576: true; the input reads as it did. -/
def compileBlocksUptoRow : OpenClaim := { program := "ytdeneckmoejcfaa", sum := "a0f60c450c6398d962dfcb339fcc8b6344d51499b66f44f35de5f13052ece31a", func := "marches/marcheslaw13.CompileBlocks", spec := "compileBlocks", unfollowed := true, recurses := true, loops := true, apart := false, narrowed := true }
def CompileBlocksUptoSaid : Prop := compileBlocksUptoRow.holds Try.pinned (OpenSpec.upto compileBlocksSpec)

/-- 'marcheslaw13.CompileErrors', WHERE WHAT IT READS IS OF BULK AT MOST 1048576: true; the input reads as it did. -/
def compileErrorsUptoRow : OpenClaim := { program := "ytdeneckmoejcfaa", sum := "a0f60c450c6398d962dfcb339fcc8b6344d51499b66f44f35de5f13052ece31a", func := "marches/marcheslaw13.CompileErrors", spec := "compileErrors", unfollowed := true, recurses := true, loops := true, apart := false, narrowed := true }
def CompileErrorsUptoSaid : Prop := compileErrorsUptoRow.holds Try.pinned (OpenSpec.upto compileErrorsSpec)

/-- 'marcheslaw13.CompileWrong', WHERE WHAT IT READS IS OF BULK AT MOST 1048576: true; the input reads as it did. -/
def compileWrongUptoRow : OpenClaim := { program := "ytdeneckmoejcfaa", sum := "a0f60c450c6398d962dfcb339fcc8b6344d51499b66f44f35de5f13052ece31a", func := "marches/marcheslaw13.CompileWrong", spec := "compileWrong", unfollowed := true, recurses := true, loops := true, apart := false, narrowed := true }
def CompileWrongUptoSaid : Prop := compileWrongUptoRow.holds Try.pinned (OpenSpec.upto compileWrongSpec)

end Rows
end Go.Proofs.Ytdeneckmoejcfaa
