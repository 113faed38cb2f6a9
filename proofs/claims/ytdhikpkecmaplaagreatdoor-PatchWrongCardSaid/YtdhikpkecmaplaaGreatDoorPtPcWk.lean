/- The statement PatchPlace, walked. -/
import Derived.Test.YtdhikpkecmaplaaGreatDoorAwSMk
import Derived.Test.YtdhikpkecmaplaaGreatDoorPlaceMWk
import Derived.Test.YtdhikpkecmaplaaGreatDoorPtDlWk
import Derived.Test.YtdhikpkecmaplaaGreatDoorPtSmWk
set_option linter.unusedSimpArgs false
set_option linter.unusedVariables false
namespace Go.Proofs.YtdhikpkecmaplaaGreatDoor
open Go.RowKit

theorem sl_nil (w:World) (sz:Nat):Sl w sz 0 [] (.slice none 0 0):=⟨none,0,rfl,zr _,by decide,(Nat.zero_mul _).symm,fun hn=>absurd hn (Nat.lt_irrefl 0)⟩
theorem zero_in (w:World) (B:Nat):BkIn B w [] ⟨0,[],[]⟩ (.slice none 0 0) (.slice none 0 0) (.slice none 0 0):=⟨sl_nil w 4,sl_nil w 1,sl_nil w 3,.inl rfl,.inl rfl,.inl rfl⟩
theorem same_zero (w:World):Calls Tryz.prog 21 #[zor,zor] w (zbe true w):=by
 have h:=sameBk_any (b:=⟨0,[],[]⟩) (zero_in w 0) (zero_in w 0);unfold bkV at h;exact h
end Go.Proofs.YtdhikpkecmaplaaGreatDoor
