/- The reference parser's statement, walked. -/
import Derived.Test.YtoaojdobjinhfaaGreatDoorOnlyC
import Derived.Test.YtoaojdobjinhfaaGreatDoorRParOC
set_option linter.unusedSimpArgs false
set_option linter.unusedVariables false
namespace Go.Proofs.YtoaojdobjinhfaaGreatDoor
open Go.RowKit

theorem zgC:∀ (n:Nat) (bs:List UInt8),bs.length≤n→∀ (l c:Int),(∀ ts,lexF bs l c=.ok ts→ts.length≤bs.length+1)∧∀ a b e,lexF bs l c=.err a b e→e≠0:=by
 intro n
 induction n with
 | zero =>
  intro bs hb l c;obtain rfl:bs=[]:=List.eq_nil_of_length_eq_zero (by omega);rw [zda];refine ⟨fun ts h=>?_,fun a b e h=>by cases h⟩;cases h
  exact zr _
 | succ n ih =>
  intro bs hb l c;rw [zbY];have hsl:=zc9 bs false l c
  generalize (zam bs false l c).1=bs' at *
  generalize (zam bs false l c).2.1=l' at *
  generalize (zam bs false l c).2.2=c' at *
  rcases zet bs' l' c' with ⟨_,h1⟩ | ⟨code,_,h1,hc⟩ | ⟨t,ht,_,_,h2,h3,h1⟩
  ·rw [h1];refine ⟨fun ts h=>?_,fun a b e h=>by cases h⟩;cases h;simp
  ·rw [h1];refine ⟨fun ts h=>(by cases h),fun a b e h=>?_⟩;cases h;omega
  ·rw [h1];have ht1:1≤t.text.length:=List.length_pos_iff.2 ht.text;have hl:(bs'.drop t.text.length).length=bs'.length - t.text.length:=List.length_drop;obtain ⟨k1,k2⟩:=ih (bs'.drop t.text.length) (by omega) l' (c'+t.text.length)
   cases hr:lexF (bs'.drop t.text.length) l' (c'+t.text.length) with
   | err a b e =>
    rw [hr] at k2;refine ⟨fun ts h=>(by cases h),fun a' b' e' h=>?_⟩;cases h
    exact k2 _ _ _ rfl
   | ok m =>
    rw [hr] at k1;have:=k1 m rfl;refine ⟨fun ts h=>?_,fun a b e h=>by cases h⟩;cases h;simp only [List.length_cons];omega
theorem ziK {bs:List UInt8} {ts:List Tok} (h:lexS bs=.ok ts):ts.length≤16385:=by
 rw [zcO] at h;split at h
 ·cases h
 ·have:=(zgC _ bs (zr _) 1 1).1 ts h;omega
theorem zd9 {bs:List UInt8} {a b e:Int} (h:lexS bs=.err a b e):e≠0:=by
 rw [zcO] at h;split at h
 ·cases h;decide
 ·exact (zgC _ bs (zr _) 1 1).2 a b e h
theorem Good.pos {l:List Tok} (h:Good l):0 < l.length:=by
 obtain ⟨ts,t,rfl,_,_⟩:=h;simp
end Go.Proofs.YtoaojdobjinhfaaGreatDoor
