/- The program's lexer: Place, walked, with the iterator that it ranges over. For sources of at most a million bytes. -/
import Derived.Test.YtoaojdobjinhfaaGreatDoorLexMC
import Derived.Test.YtoaojdobjinhfaaGreatDoorOnlyC
import Derived.Shelf.Abstract
import Derived.Shelf.RegionOpen
set_option linter.unusedSimpArgs false
set_option linter.unusedVariables false
namespace Go.Proofs.YtoaojdobjinhfaaGreatDoor
open Go.RowKit Go.Shelf
attribute [local go_sem] Oper.semAt_some

def KeepsCells (W W' : World) : Prop := W.heap.size ≤ W'.heap.size ∧ ∀ (k : Nat) (o : Obj), W.heap[k]? = some o → o.isCells = true → W'.heap[k]? = some o
theorem KeepsCells.trans {A B C:World} (h:KeepsCells A B) (k:KeepsCells B C):KeepsCells A C:=⟨Nat.le_trans h.1 k.1,fun i o hi ho=>k.2 i o (h.2 i o hi ho) ho⟩
theorem KeepsCells.put (W:World) (l:Nat) (o o':Obj) (h:W.heap[l]? = some o) (hc:o.isCells=false):KeepsCells W (W.putObj l o'):=by
 have hg:=grownBy_putObj' W l o';refine ⟨hg.size,fun k u hk hu=>?_⟩;rw [hg.block k (lt_of_block hk) (fun e=>by cases e;rw [h] at hk;cases hk;rw [hc] at hu;cases hu)];exact hk
theorem KeepsCells.alloc (W:World) (o:Obj):KeepsCells W (W.alloc o):=⟨by simp,fun k u hk _=>(Below.heap_alloc W o k (lt_of_block hk)).trans hk⟩
end Go.Proofs.YtoaojdobjinhfaaGreatDoor
