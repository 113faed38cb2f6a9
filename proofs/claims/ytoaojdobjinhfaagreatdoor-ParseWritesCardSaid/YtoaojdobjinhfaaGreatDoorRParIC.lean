/- The reference parser's operand, walked: the last case, a word that is no kind; and operand as a whole. -/
import Derived.Test.YtoaojdobjinhfaaGreatDoorRParEC
import Derived.Deep.Cut
set_option linter.unusedSimpArgs false
set_option linter.unusedVariables false
namespace Go.Proofs.YtoaojdobjinhfaaGreatDoor
open Go.RowKit

theorem zcT {l:List Tok} {i:Nat} {s:List UInt8} (h:isS l i s=true):(zaa l i).kind≠4∧(zaa l i).text=s:=by
 unfold isS at h;simpa [Bool.and_eq_true] using h
theorem zb7 {w:World} {g:Nat} {e:TypeId} {cs:List Value} (h:OwnV w g e cs) {sz n cap:Nat} (hl:cs.length=n * sz) (hn:n≤cap) (hm:cap≤9223372036854775807):Sl w sz n cs (.slice (some ⟨g,0,none⟩) n cap):=by
 refine ⟨_,_,rfl,hn,hm,hl,fun _=>⟨g,0,rfl,fun j hj=>?_⟩⟩;rw [Nat.zero_add,List.getElem?_eq_getElem (by omega)];exact h.cell (List.getElem?_eq_getElem _)
theorem zaY (w:World) (b o:Nat) (v:Value):w.grownBy (w.setCell ⟨b,o,none⟩ v) (some b):=
 ⟨rfl,rfl,rfl,by have:=((Below.refl 0 w).setCell (p:=⟨b,o,none⟩) (Nat.zero_le _) v).size;exact this,fun k _ hne=>Below.heap_setCell w _ v k (fun e=>hne (by rw [e]))⟩
theorem zbc {a b c:World} {r:Option Nat} (h:a.grownBy b r) (k:b.grownBy c r):a.grownBy c r:=
 ⟨k.os.trans h.os,k.tape.trans h.tape,k.output.trans h.output,Nat.le_trans h.size k.size,fun i hi hne=>(k.block i (by have:=h.size;omega) hne).trans (h.block i hi hne)⟩
theorem set4 {W:World} {g:Nat} {e:TypeId} {a b c d:Value} (h:OwnV W g e [a,b,c,d]) (v0 v1 v2 v3:Value) :
  ∃ W',W'=(((W.setCell ⟨g,0,none⟩ v0).setCell ⟨g,1,none⟩ v1).setCell ⟨g,2,none⟩ v2).setCell ⟨g,3,none⟩ v3∧OwnV W' g e [v0,v1,v2,v3]∧W.grownBy W' (some g):=
 ⟨_,rfl,(((h.set 0 v0).set 1 v1).set 2 v2).set 3 v3,zbc (zbc (zbc (zaY _ _ _ _) (zaY _ _ _ _)) (zaY _ _ _ _)) (zaY _ _ _ _)⟩
theorem zjJ {w4 W5 W6:World} {bx g2 m:Nat} {op:Int} {xs:List Ex} {cs:List Value} (hlow:Below w4.heap.size w4 W5) (hO:OwnV W5 g2 29 cs) (hX:ExsC w4 (fun g=>m≤g∧g≠bx) xs cs) (hg:m≤g2) (hne:g2≠bx) (hlen:xs.length≤1000) (hgr:W5.grownBy W6 (some bx)) :
  ExsC W6 (fun g=>m≤g∧g≠bx) [.mk op 0 [] xs] [.int .u8 op,.int .i64 0,.string { data:=#[] },.slice (some ⟨g2,0,none⟩) xs.length xs.length]:=by
 have h1:ExsC W5 (fun g=>m≤g∧g≠bx) [.mk op 0 [] xs] [.int .u8 op,.int .i64 0,.string (bstr []),.slice (some ⟨g2,0,none⟩) xs.length xs.length]:=
  ExsC.cons (zb7 hO hX.len (zr _) (by omega)) (.inr fun g h=>by cases h;exact ⟨hg,hne⟩) (hX.under hlow (zr _)) ExsC.nil
 exact h1.grown hgr (fun g e h=>by cases e;exact h.2 rfl)
end Go.Proofs.YtoaojdobjinhfaaGreatDoor
