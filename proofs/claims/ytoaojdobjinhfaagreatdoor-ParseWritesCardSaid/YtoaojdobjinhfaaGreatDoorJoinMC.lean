/- What a zfe list looks like, and that its joined texts are zfe to the same tokens. Plain mathematics. -/
import Derived.Test.YtoaojdobjinhfaaGreatDoorLexMC
import Derived.Lib.Join
import Derived.Test.YtoaojdobjinhfaaGreatDoorShelf
set_option linter.unusedSimpArgs false
set_option linter.unusedVariables false
namespace Go.Proofs.YtoaojdobjinhfaaGreatDoor
def endT (l c : Int) : Tok := ⟨4, [], 0, l, c⟩
theorem zga:∀ (n:Nat) (bs:List UInt8),bs.length≤n→∀ (l c:Int) (ts:List Tok),lexF bs l c=.ok ts→∃ us l' c',ts=us++[endT l' c']∧∀ t ∈ us,TokOk t:=by
 intro n
 induction n with
 | zero =>
  intro bs hb l c ts h;obtain rfl:bs=[]:=List.eq_nil_of_length_eq_zero (by omega);rw [zda] at h;cases h
  exact ⟨[],l,c,rfl,by simp⟩
 | succ n ih =>
  intro bs hb l c ts h;rw [zbY] at h;have hsl:=zc9 bs false l c
  generalize (zam bs false l c).1=bs' at *
  generalize (zam bs false l c).2.1=l' at *
  generalize (zam bs false l c).2.2=c' at *
  rcases zet bs' l' c' with ⟨_,h1⟩ | ⟨code,_,h1,_⟩ | ⟨t,ht,_,_,h2,h3,h1⟩
  ·rw [h1] at h;cases h;exact ⟨[],l',c',rfl,by simp⟩
  ·rw [h1] at h;cases h
  ·rw [h1] at h;have ht1:1≤t.text.length:=List.length_pos_iff.2 ht.text
   cases hr:lexF (bs'.drop t.text.length) l' (c'+t.text.length) with
   | err a b c=>rw [hr] at h;cases h
   | ok m =>
    rw [hr] at h;cases h;have hl:(bs'.drop t.text.length).length=bs'.length - t.text.length:=List.length_drop;obtain ⟨us,a,b,rfl,hu⟩:=ih _ (by omega) _ _ _ hr;refine ⟨t :: us,a,b,rfl,fun x hx=>?_⟩;rcases List.mem_cons.1 hx with rfl | hx
    ·exact ht
    ·exact hu x hx
open Go.RowKit
end Go.Proofs.YtoaojdobjinhfaaGreatDoor
