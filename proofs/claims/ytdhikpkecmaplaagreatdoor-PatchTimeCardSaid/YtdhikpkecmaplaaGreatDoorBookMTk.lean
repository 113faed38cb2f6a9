/- The patches of a book: when they are right, put in, taken out, applied; R tells which source is right for which slot. Plain mathematics. -/
import Derived.Test.YtdhikpkecmaplaaGreatDoorRegion10Mk
set_option linter.unusedSimpArgs false
set_option linter.unusedVariables false
namespace Go.Proofs.YtdhikpkecmaplaaGreatDoor
theorem pg_behind {mx:Int} {n:Nat} {R:Int->List UInt8->Bool} {last t:Int} {l:List Pt} (h:PG mx n R last [] l):PG mx n R (t+1) [] (znZ t l):=by
 obtain ⟨h1,h2⟩:=h;have hs:(znZ t l).Sublist l:=List.dropWhile_sublist _;refine ⟨fun x hx=>?_,h2.sublist hs⟩;obtain ⟨-,a2,a3,a4,a5,-⟩:=h1 x (hs.subset hx);exact ⟨by have:=zrR h2 x hx;omega,a2,a3,a4,a5,fun y hy=>by cases hy⟩
theorem up_two {s t:Int} (hst:s<=t):∀ (l:List Pt),upTo s l++upTo t (znZ s l)=upTo t l/\znZ t (znZ s l)=znZ t l:=by
 intro l;unfold upTo znZ
 induction l with
 | nil=>exact ⟨rfl,rfl⟩
 | cons x r ih =>
  by_cases h:x.tick<=s
  ·have h1:decide (x.tick<=s)=true:=by simpa using h
   have h2:decide (x.tick<=t)=true:=by simp;omega
   simp only [List.takeWhile_cons,List.dropWhile_cons,h1,h2,if_true];exact ⟨by rw [List.cons_append,ih.1],ih.2⟩
  ·have h1:decide (x.tick<=s)=false:=by simpa using h
   rw [List.takeWhile_cons,List.dropWhile_cons,if_neg (by rw [h1];decide),if_neg (by rw [h1];decide)];exact ⟨rfl,rfl⟩
end Go.Proofs.YtdhikpkecmaplaaGreatDoor
