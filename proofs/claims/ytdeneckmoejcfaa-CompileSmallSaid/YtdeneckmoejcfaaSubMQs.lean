/- The first of a row's elements, and the rest. No program in it. -/
import Derived.Test.YtdeneckmoejcfaaRegionQs
import Derived.Test.YtdeneckmoejcfaaTreeOZs
set_option linter.unusedSimpArgs false
set_option linter.unusedVariables false
namespace Go.Proofs.Ytdeneckmoejcfaa
open Go.RowKit

theorem StsC.split {w:World} {P:Nat->Prop} {xs:List St} {cs:List Value} (h:StsC w P xs cs):∀ k,StsC w P (xs.take k) (cs.take (k * 6))/\StsC w P (xs.drop k) (cs.drop (k * 6)):=by
 induction h with
 | nil=>intro k;simp only [List.take_nil,List.drop_nil];exact ⟨.nil,.nil⟩
 | cons h1 h2 h3 b1 b2 b3 l1 l2 l3 h4 _ _ ih =>
  intro k
  cases k with
  | zero=>exact ⟨.nil,.cons h1 h2 h3 b1 b2 b3 l1 l2 l3 h4⟩
  | succ k =>
   have e:(k+1) * 6=k * 6+6:=by omega
   rw [e];exact ⟨.cons h1 h2 h3 b1 b2 b3 l1 l2 l3 (ih k).1,(ih k).2⟩
theorem Sl.take {w:World} {sz n:Nat} {cs:List Value} {a:Option Addr} {m cap:Nat} (h:Sl w sz n cs (.slice a m cap)) {k:Nat} (hk:k<=n):Sl w sz k (cs.take (k * sz)) (.slice a k cap):=by
 obtain ⟨a',cap',h1,h2,h3,h4,h5⟩:=h;cases h1;have hm:k * sz<=n * sz:=Nat.mul_le_mul_right _ hk;refine ⟨a,cap,rfl,by omega,h3,by rw [List.length_take,h4];omega,fun h0=>?_⟩;obtain ⟨b,off,rfl,hc⟩:=h5 (by omega);refine ⟨b,off,rfl,fun j hj=>?_⟩;rw [hc j (by omega),List.getElem?_take_of_lt hj]
theorem Sl.drop {w:World} {sz n:Nat} {cs:List Value} {b off:Nat} {m cap:Nat} (h:Sl w sz n cs (.slice (some ⟨b,off,none⟩) m cap)) {k:Nat} (hk:k<=n) (h0:0 < n):Sl w sz (n - k) (cs.drop (k * sz)) (.slice (some ⟨b,off+k * sz,none⟩) (n - k) (cap - k)):=by
 obtain ⟨a',cap',h1,h2,h3,h4,h5⟩:=h;cases h1;have hm:k * sz<=n * sz:=Nat.mul_le_mul_right _ hk;obtain ⟨b',off',e,hc⟩:=h5 h0;cases e;refine ⟨some ⟨b,off+k * sz,none⟩,cap - k,rfl,by omega,by omega,by rw [List.length_drop,h4,Nat.sub_mul],fun _=>?_⟩;refine ⟨b,off+k * sz,rfl,fun j hj=>?_⟩;rw [List.getElem?_drop,Nat.add_assoc];exact hc (k * sz+j) (by rw [Nat.sub_mul] at hj;omega)
end Go.Proofs.Ytdeneckmoejcfaa
