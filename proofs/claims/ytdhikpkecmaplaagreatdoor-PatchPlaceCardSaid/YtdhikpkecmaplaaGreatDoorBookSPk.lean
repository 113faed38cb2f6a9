/- What can be done with a book of patches, as functions of the book; E tells the error of a source for a slot, base whether the systems are right for so many scripts. Plain mathematics. -/
import Derived.Test.YtdhikpkecmaplaaGreatDoorBookMPk
set_option linter.unusedSimpArgs false
set_option linter.unusedVariables false
namespace Go.Proofs.YtdhikpkecmaplaaGreatDoor
def withdrawB (base : Nat -> Bool) (R : Int -> List UInt8 -> Bool) (b : Bk) (p : Pt) : Option Bk × Int :=
  if znM base R b = false then (none, 2) else if (b.pend.any fun x => x.same p) = false then (none, 6) else (some { b with pend := b.pend.eraseP fun x => x.same p }, 0)
theorem place_law {base:Nat->Bool} {E:Int->List UInt8->Int} {b c:Bk} {p:Pt} {q:Bool} (h:znO base E b p=(some c,q,0)) :
  znO base E c p=(none,false,402)/\withdrawB base (rOf E) c p=(some b,0)/\withdrawB base (rOf E) b p=(none,6)/\c.pend.length=b.pend.length+1:=by
 obtain ⟨hb,hc,rfl,hs,h1,h2,h3,h4,h5⟩:=zqF h;have hvb:=valid_iff.2 hb;have hvc:=valid_iff.2 hc;have hany:((zok p b.pend).any fun x=>x.same p)=true:=List.any_eq_true.2 ⟨p,mem_put.2 (.inl rfl),Pt.same_iff.2 ⟨rfl,rfl⟩⟩
 have hno:(b.pend.any fun x=>x.same p)=false:=by
  rw [List.any_eq_false];intro x hx;rw [hs x hx];decide
 refine ⟨?_,?_,?_,zrk _ _⟩
 ·unfold znO;rw [if_neg (by rw [hvc];rintro (h | h) <;> first | cases h | omega)];dsimp only;rw [if_neg (by omega),if_neg (by omega),if_neg (by rw [h5];simp),if_pos hany]
 ·unfold withdrawB;rw [if_neg (by rw [hvc];decide),if_neg (by rw [hany];decide)];simp only [put_erase hs]
 ·unfold withdrawB;rw [if_neg (by rw [hvb];decide),if_pos hno]
end Go.Proofs.YtdhikpkecmaplaaGreatDoor
