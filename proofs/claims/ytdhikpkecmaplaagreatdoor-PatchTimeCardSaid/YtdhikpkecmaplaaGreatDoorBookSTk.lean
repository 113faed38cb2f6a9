/- What can be done with a book of patches, as functions of the book; E tells the error of a source for a slot, base whether the systems are right for so many scripts. Plain mathematics. -/
import Derived.Test.YtdhikpkecmaplaaGreatDoorBookMTk
set_option linter.unusedSimpArgs false
set_option linter.unusedVariables false
namespace Go.Proofs.YtdhikpkecmaplaaGreatDoor
theorem apply_right {R:Int->List UInt8->Bool}:∀ (l:List Pt) (scr:List (List UInt8)),(∀ p ∈ l,0<=p.slot/\R p.slot p.src=true)->(∀ (i:Nat) (x:List UInt8),scr[i]? = some x->R i x=true)->∀ (i:Nat) (x:List UInt8),(zn4 scr l)[i]? = some x->R i x=true:=by
 intro l
 induction l with
 | nil=>intro scr _ h;exact h
 | cons p r ih =>
  intro scr hp h;refine ih (scr.set p.slot.toNat p.src) (fun q hq=>hp q (List.mem_cons_of_mem _ hq)) fun i x hx=>?_
  obtain ⟨h0,h1⟩:=hp p (by simp);by_cases e:p.slot.toNat=i
  ·subst e;rw [List.getElem?_set_self'] at hx
   cases hs:scr[p.slot.toNat]? with
   | none=>rw [hs] at hx;cases hx
   | some y =>
    rw [hs] at hx;cases hx;rw [show ((p.slot.toNat:Nat):Int)=p.slot by omega];exact h1
  ·rw [List.getElem?_set_ne e] at hx;exact h i x hx
theorem adv_valid {base:Nat->Bool} {R:Int->List UInt8->Bool} {b:Bk} {t:Int} (h:VB base R b) (h0:b.tick<=t) (h1:t<=1073741824):VB base R (advB t b):=by
 have hd:(znZ t b.pend).Sublist b.pend:=List.dropWhile_sublist _;have hu:(upTo t b.pend).Sublist b.pend:=List.takeWhile_sublist _;refine ⟨by show 0<=t;have:=h.lo;omega,h1,?_,?_,Nat.le_trans hd.length_le h.room,?_,?_⟩
 ·show base (zn4 _ _).length=true;rw [zpz];exact h.sys
 ·show (zn4 _ _).length<=16;rw [zpz];exact h.many
 ·exact apply_right _ _ (fun p hp=>by obtain ⟨-,-,a3,-,a5,-⟩:=h.pend.1 p (hu.subset hp);exact ⟨a3,a5⟩) h.scr
 ·show PG _ (zn4 _ _).length R (t+1) [] _;rw [zpz];exact pg_behind h.pend
theorem adv_two {b:Bk} {s t:Int} (hst:s<=t):advB t (advB s b)=advB t b/\upTo s b.pend++upTo t (znZ s b.pend)=upTo t b.pend:=by
 obtain ⟨h1,h2⟩:=up_two hst b.pend;refine ⟨?_,h1⟩;show (⟨t,zn4 (zn4 b.scr (upTo s b.pend)) (upTo t (znZ s b.pend)),znZ t (znZ s b.pend)⟩:Bk)=_;rw [<- zrS,h1,h2];rfl
theorem time_law {base:Nat->Bool} {R:Int->List UInt8->Bool} {b:Bk} (h:VB base R b) (m n:Nat) (hm:m<=65535) (hn:n<=65535) (hb:b.tick<=1073741824 - 131072) :
  zoe base R b (b.tick+m)=(some (advB (b.tick+m) b,upTo (b.tick+m) b.pend),0) /\
  zoe base R (advB (b.tick+m) b) (b.tick+m+n)=(some (advB (b.tick+m+n) b,upTo (b.tick+m+n) (znZ (b.tick+m) b.pend)),0) /\
  zoe base R b (b.tick+m+n)=(some (advB (b.tick+m+n) b,upTo (b.tick+m+n) b.pend),0) /\
  upTo (b.tick+m) b.pend++upTo (b.tick+m+n) (znZ (b.tick+m) b.pend)=upTo (b.tick+m+n) b.pend /\
  (upTo (b.tick+m+n) b.pend).length+(znZ (b.tick+m+n) b.pend).length=b.pend.length /\
  (b.tick=0∨zoe base R (advB (b.tick+m) b) (b.tick - 1)=(none,400)):=by
 have hlo:=h.lo;have hv:=valid_iff.2 h;have hx:=adv_valid h (t:=b.tick+m) (by omega) (by omega);have hvx:=valid_iff.2 hx;obtain ⟨e1,e2⟩:=adv_two (b:=b) (s:=b.tick+m) (t:=b.tick+m+n) (by omega);refine ⟨?_,?_,?_,e2,?_,?_⟩
 ·unfold zoe;rw [if_neg (by rw [hv];rintro (h | h | h) <;> first | cases h | omega),if_neg (by omega)]
 ·unfold zoe;rw [if_neg (by rw [hvx];rintro (h | h | h) <;> first | cases h | omega),if_neg (by show ¬ _ < b.tick+m;omega),e1];rfl
 ·unfold zoe;rw [if_neg (by rw [hv];rintro (h | h | h) <;> first | cases h | omega),if_neg (by omega)]
 ·have:=congrArg List.length (zpZ (b.tick+m+n) b.pend);rwa [List.length_append] at this
 ·by_cases h0:b.tick=0
  ·exact .inl h0
  ·refine .inr ?_;unfold zoe;rw [if_neg (by rw [hvx];rintro (h | h | h) <;> first | cases h | omega),if_pos (by show _ < b.tick+m;omega)]
end Go.Proofs.YtdhikpkecmaplaaGreatDoor
