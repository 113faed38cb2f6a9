/- The patches of a book: when they are right, put in, taken out, applied; R tells which source is right for which slot. Plain mathematics. -/
import Derived.Test.YtdhikpkecmaplaaGreatDoorLibSk
set_option linter.unusedSimpArgs false
set_option linter.unusedVariables false
namespace Go.Proofs.YtdhikpkecmaplaaGreatDoor
theorem pg_behind {mx:Int} {n:Nat} {R:Int->List UInt8->Bool} {last t:Int} {l:List Pt} (h:PG mx n R last [] l):PG mx n R (t+1) [] (znZ t l):=by
 obtain ⟨h1,h2⟩:=h;have hs:(znZ t l).Sublist l:=List.dropWhile_sublist _;refine ⟨fun x hx=>?_,h2.sublist hs⟩;obtain ⟨-,a2,a3,a4,a5,-⟩:=h1 x (hs.subset hx);exact ⟨by have:=zrR h2 x hx;omega,a2,a3,a4,a5,fun y hy=>by cases hy⟩
theorem apply_right {R:Int->List UInt8->Bool}:∀ (l:List Pt) (scr:List (List UInt8)),(∀ p ∈ l,0<=p.slot/\R p.slot p.src=true)->(∀ (i:Nat) (x:List UInt8),scr[i]? = some x->R i x=true)->∀ (i:Nat) (x:List UInt8),(zn4 scr l)[i]? = some x->R i x=true:=by
 intro l
 induction l with
 | nil=>intro scr _ h;exact h
 | cons p r ih =>
  intro scr hp h;refine ih (scr.set p.slot.toNat p.src) (fun q hq=>hp q (List.mem_cons_of_mem _ hq)) fun i x hx=>?_
  obtain ⟨h0,h1⟩:=hp p (by simp);by_cases e:p.slot.toNat=i
  ·subst e;rw [List.getElem?_set_self'] at hx
   cases hs:scr[p.slot.toNat]? with
   | none=>rw [hs] at hx;cases hx
   | some y =>
    rw [hs] at hx;cases hx;rw [show ((p.slot.toNat:Nat):Int)=p.slot by omega];exact h1
  ·rw [List.getElem?_set_ne e] at hx;exact h i x hx
theorem adv_valid {base:Nat->Bool} {R:Int->List UInt8->Bool} {b:Bk} {t:Int} (h:VB base R b) (h0:b.tick<=t) (h1:t<=1073741824):VB base R (advB t b):=by
 have hd:(znZ t b.pend).Sublist b.pend:=List.dropWhile_sublist _;have hu:(upTo t b.pend).Sublist b.pend:=List.takeWhile_sublist _;refine ⟨by show 0<=t;have:=h.lo;omega,h1,?_,?_,Nat.le_trans hd.length_le h.room,?_,?_⟩
 ·show base (zn4 _ _).length=true;rw [zpz];exact h.sys
 ·show (zn4 _ _).length<=16;rw [zpz];exact h.many
 ·exact apply_right _ _ (fun p hp=>by obtain ⟨-,-,a3,-,a5,-⟩:=h.pend.1 p (hu.subset hp);exact ⟨a3,a5⟩) h.scr
 ·show PG _ (zn4 _ _).length R (t+1) [] _;rw [zpz];exact pg_behind h.pend
def withdrawB (base : Nat -> Bool) (R : Int -> List UInt8 -> Bool) (b : Bk) (p : Pt) : Option Bk × Int :=
  if znM base R b = false then (none, 2) else if (b.pend.any fun x => x.same p) = false then (none, 6) else (some { b with pend := b.pend.eraseP fun x => x.same p }, 0)
def PosR : LexR -> Prop
  | .ok l => ∀ t ∈ l, 0 < t.line /\ 0 < t.col
  | .err a b _ => 0 < a /\ 0 < b
theorem PosR.cons {r:LexR} {t:Tok} (h:PosR r) (h1:0 < t.line) (h2:0 < t.col):PosR (r.cons t):=by
 cases r with
 | ok l =>
  intro u hu;rcases List.mem_cons.1 hu with rfl | hu
  ·exact ⟨h1,h2⟩
  ·exact h u hu
 | err a b c=>exact h
end Go.Proofs.YtdhikpkecmaplaaGreatDoor
