/- The reference parser's inside, walked. -/
import Derived.Test.YtoaojdobjinhfaaGreatDoorRParAC
set_option linter.unusedSimpArgs false
set_option linter.unusedVariables false
namespace Go.Proofs.YtoaojdobjinhfaaGreatDoor
open Go.RowKit

theorem zbx:(Tryz.prog.info? 29).map (fun i=>(i.zero,i.size,i.bytes))=some (some (.agg #[.int .u8 0,.int .i64 0,.string ByteArray.empty,.slice none 0 0]),4,56):=by kernel_rfl
theorem ExsC.set {w:World} {P:Nat→Prop} {xs:List Ex} {cs:List Value} (h:ExsC w P xs cs) {b o:Nat} {v:Value} (hP:¬ P b):ExsC (w.setCell ⟨b,o,none⟩ v) P xs cs:=
 h.grown (⟨rfl,rfl,rfl,by have:=((Below.refl 0 w).setCell (p:=⟨b,o,none⟩) (Nat.zero_le _) v).size;exact this,fun k _ hne=>Below.heap_setCell w _ v k (fun e=>hne (by rw [e]))⟩:w.grownBy (w.setCell ⟨b,o,none⟩ v) (some b)) (fun g e=>by cases e;exact hP)
theorem opened (w:World) (X Y:List Value) (tX tY:TypeId):∃ W0,W0=(w.alloc (.cells X.toArray tX)).alloc (.cells Y.toArray tY)∧Below w.heap.size w W0∧OwnV W0 w.heap.size tX X∧OwnV W0 (w.heap.size+1) tY Y∧w.heap.size+2≤W0.heap.size:=by
 refine ⟨_,rfl,((Below.refl _ _).alloc (zr _) _).alloc (by simp) _,(OwnV.new w tX X).alloc _,?_,by simp⟩;have:=OwnV.new (w.alloc (.cells X.toArray tX)) tY Y;simpa using this
def zeroE : List Value := [.int .u8 0, .int .i64 0, .string { data := #[] }, .slice none 0 0]
theorem zal (l:List UInt8) (s:List UInt8):((bstr l).toList == s)=decide (l=s):=by
 rw [Bool.eq_iff_iff,beq_iff_eq,decide_eq_true_eq,ByteArray.toList_eq,zdn]
end Go.Proofs.YtoaojdobjinhfaaGreatDoor
