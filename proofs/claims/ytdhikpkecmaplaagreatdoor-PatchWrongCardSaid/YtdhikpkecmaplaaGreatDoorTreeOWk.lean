/- What comes in, opened: a list of statements. -/
import Derived.Test.YtdhikpkecmaplaaGreatDoorTreeOMk
set_option linter.unusedSimpArgs false
set_option linter.unusedVariables false
namespace Go.Proofs.YtdhikpkecmaplaaGreatDoor
open Go.ChangeShapes Go.WideShapes Go.RowKit
set_option maxRecDepth 100000

theorem zmR (b off k:Nat):(⟨b,off,none⟩:Addr).add k=⟨b,off+k,none⟩:=by
 unfold Addr.add;split
 ·next h=>rw [h,Nat.add_zero]
 ·rfl
theorem zlZ {H:Type} {enc:TypeId × Value->H} {P:Program} {w:World} {base:Nat} {spare:Nat->Bool} {held:Bool} {fuel:Nat} {t e:TypeId} {cs:List Value} {x:DataW H × List MemPlace} {α:Type} (sz:Nat) (hsz:0 < sz)
  (ht:P.underlying t=some (.slice e)) (hc:P.cellsOf e=sz) (R:List α->List Value->Prop) (r0:R [] []) (rj:∀ a b c d,R a b->R c d->R (a++c) (b++d))
  (el:∀ n cs y,n < fuel->DataW.trod enc P w base spare held n e cs=some y->∃ a,R [a] cs) (h:DataW.trod enc P w base spare held fuel t cs=some x) :
  ∃ v l ds,cs=[v]/\Sl w sz l.length ds v/\(l.length=0∨∀ g,v.ownBlock=some g->g < w.heap.size)/\R l ds:=by
 rcases DataW.trod_slice ht h with ⟨rfl,-⟩ | ⟨a,len,cap,elems,rest,n,rfl,rfl,-,hb,hl,hm,hlen,hel,-,-⟩
 ·exact ⟨_,[],[],rfl,Sl.nil w sz,.inl rfl,r0⟩
 ·rw [hc] at hel
  have key:∀ k,k<=len->∃ l ds,l.length=k/\ds.length=k * sz/\R l ds/\∀ j,j < k * sz->w.cell? (a.add j)=ds[j]?:=by
   intro k
   induction k with
   | zero=>intro _;exact ⟨[],[],rfl,by simp,r0,fun j hj=>by omega⟩
   | succ k ih =>
    intro hk;obtain ⟨l,ds,hl1,hd1,hr,hcell⟩:=ih (by omega);have:=hel k (by omega);rw [List.getElem?_eq_getElem (by omega)] at this;obtain ⟨cs',h1,h2⟩:=Option.bind_eq_some_iff.1 this;obtain ⟨_,hlen',hcell'⟩:=World.cells?_some h1;obtain ⟨z,hz⟩:=el n cs' _ (Nat.lt_succ_self n) h2;refine ⟨l++[z],ds++cs',by simp [hl1],by rw [List.length_append,hd1,hlen',Nat.succ_mul],rj _ _ _ _ hr hz,fun j hj=>?_⟩;rw [Nat.succ_mul] at hj;by_cases hj1:j < k * sz
    ·rw [List.getElem?_append_left (by omega)];exact hcell j hj1
    ·have:=hcell' (j - k * sz) (by omega);rw [Go.Deep.add_add,show k * sz+(j - k * sz)=j by omega] at this;rw [this,List.getElem?_append_right (by omega),hd1]
  obtain ⟨l,ds,rfl,hd,hr,hcell⟩:=key len (zr _)
  have hlow:0 < l.length->a.spot=none/\a.block < w.heap.size:=by
   intro h0;have hpos:0 < l.length * sz:=Nat.mul_pos h0 hsz;have e0:=hcell 0 hpos;rw [List.getElem?_eq_getElem (by omega)] at e0;have e1:a.add 0=a:=by cases a;simp [Addr.add]
   rw [e1] at e0;exact ⟨World.cell?_spot e0,World.block_lt_of_cell? _ _ e0⟩
  refine ⟨_,l,ds,rfl,⟨some a,cap,rfl,hl,hm,hd,fun h0=>?_⟩,?_,hr⟩
  ·obtain ⟨hs,-⟩:=hlow h0;obtain ⟨b,off,spot⟩:=a;cases hs;refine ⟨b,off,rfl,fun j hj=>?_⟩;rw [<- zmR];exact hcell j hj
  ·rcases Nat.eq_zero_or_pos l.length with h0 | h0
   ·exact .inl h0
   ·right;intro g hg;obtain ⟨hs,hlt⟩:=hlow h0;obtain ⟨b,off,spot⟩:=a;cases hs;cases hg;exact hlt
theorem zjM {n:Int} (h:(Lit.int .u8 n).wf=true):0<=n/\n<=255:=by
 simpa [Lit.wf,IntKind.min,IntKind.max,IntKind.signed,IntKind.bits] using h
theorem ziQ {n:Int} (h:(Lit.int .i64 n).wf=true):okI n:=by
 simp [Lit.wf,IntKind.min,IntKind.max,IntKind.signed,IntKind.bits] at h;unfold okI;omega
theorem zhm (s:ByteArray):bstr s.data.toList=s:=by cases s;unfold bstr;simp
variable {H : Type} {enc : TypeId × Value -> H} {w : World} {base : Nat} {spare : Nat -> Bool} {held : Bool}
end Go.Proofs.YtdhikpkecmaplaaGreatDoor
