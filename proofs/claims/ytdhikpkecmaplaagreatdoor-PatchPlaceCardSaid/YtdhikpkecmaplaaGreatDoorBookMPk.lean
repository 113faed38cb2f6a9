/- The patches of a book: when they are right, put in, taken out, applied; R tells which source is right for which slot. Plain mathematics. -/
import Derived.Test.YtdhikpkecmaplaaGreatDoorRegion10Mk
set_option linter.unusedSimpArgs false
set_option linter.unusedVariables false
namespace Go.Proofs.YtdhikpkecmaplaaGreatDoor
theorem put_erase {p:Pt} {l:List Pt} (h:∀ x ∈ l,x.same p=false):(zok p l).eraseP (fun x=>x.same p)=l:=by
 have hu:(upTo p.tick l).Sublist l:=List.takeWhile_sublist _;unfold zok;rw [List.eraseP_append_right _ (fun x hx=>by rw [h x (hu.subset hx)];simp),List.eraseP_cons_of_pos (by rw [Pt.same_iff];exact ⟨rfl,rfl⟩),zpZ]
theorem put_at {p:Pt} {l:List Pt}:(zok p l)[(upTo p.tick l).length]? = some p:=by
 unfold zok;rw [List.getElem?_append_right (zr _),Nat.sub_self];rfl
end Go.Proofs.YtdhikpkecmaplaaGreatDoor
