/- The place of an error: both numbers are greater than 0, or both are 0. Plain. -/
import Derived.Test.YtdhikpkecmaplaaGreatDoorRLexMk
set_option linter.unusedSimpArgs false
set_option linter.unusedVariables false
namespace Go.Proofs.YtdhikpkecmaplaaGreatDoor
theorem skip_pos:∀ (bs:List UInt8) (cm:Bool) (l c:Int),0 < l->0 < c->0 < (zam bs cm l c).2.1/\0 < (zam bs cm l c).2.2:=by
 intro bs
 induction bs with
 | nil=>intro cm l c h1 h2;exact ⟨h1,h2⟩
 | cons b r ih =>
  intro cm l c h1 h2;rw [zam];split
  ·exact ih _ _ _ (by omega) (by omega)
  ·split
   ·exact ih _ _ _ h1 (by omega)
   ·split
    ·exact ih _ _ _ h1 (by omega)
    ·split
     ·exact ih _ _ _ h1 (by omega)
     ·exact ⟨h1,h2⟩
def PosR : LexR -> Prop
  | .ok l => ∀ t ∈ l, 0 < t.line /\ 0 < t.col
  | .err a b _ => 0 < a /\ 0 < b
theorem PosR.cons {r:LexR} {t:Tok} (h:PosR r) (h1:0 < t.line) (h2:0 < t.col):PosR (r.cons t):=by
 cases r with
 | ok l =>
  intro u hu;rcases List.mem_cons.1 hu with rfl | hu
  ·exact ⟨h1,h2⟩
  ·exact h u hu
 | err a b c=>exact h
theorem tok_pos {go:List UInt8->Int->Int->LexR} (hg:∀ bs l c,0 < l->0 < c->PosR (go bs l c)):∀ (bs:List UInt8) (l c:Int),0 < l->0 < c->PosR (zaK go bs l c):=by
 intro bs l c h1 h2
 cases bs with
 | nil =>
  intro t ht;obtain rfl:t=_:=by simpa [zaK] using ht
  exact ⟨h1,h2⟩
 | cons b r =>
  rw [zaK];split
  ·split
   ·exact ⟨h1,h2⟩
   ·exact (hg _ _ _ h1 (by omega)).cons h1 h2
  ·split
   ·split
    ·exact ⟨h1,h2⟩
    ·exact (hg _ _ _ h1 (by omega)).cons h1 h2
   ·split
    ·exact ⟨h1,h2⟩
    ·exact (hg _ _ _ h1 (by omega)).cons h1 h2
theorem go_pos:∀ (f:Nat) (bs:List UInt8) (l c:Int),0 < l->0 < c->PosR (zbr f bs l c):=by
 intro f
 induction f with
 | zero=>intro bs l c h1 h2;exact ⟨h1,h2⟩
 | succ f ih =>
  intro bs l c h1 h2;obtain ⟨h3,h4⟩:=skip_pos bs false l c h1 h2;exact tok_pos ih _ _ _ h3 h4
theorem parse_place {s:List UInt8} {a b c:Int} (h:zbg s=.err a b c):(a=0/\b=0)∨(0 < a/\0 < b):=by
 unfold zbg at h;by_cases hl:16384 < s.length
 ·have e:lexS s=.err 0 0 3:=if_pos hl;rw [e] at h;cases h;exact .inl ⟨rfl,rfl⟩
 ·have e:lexS s=zbr (s.length+1) s 1 1:=if_neg hl;have hp:=go_pos (s.length+1) s 1 1 (by decide) (by decide);rw [<- e] at hp
  cases hx:lexS s with
  | err a' b' c' =>
   rw [hx] at h hp;cases h
   exact .inr hp
  | ok l =>
   rw [hx] at h hp;simp only at h
   cases ha:allS l (l.length+1) [] 0 with
   | ok xs j=>rw [ha] at h;cases h
   | err i k =>
    rw [ha] at h;cases h;rcases Nat.lt_or_ge i l.length with hi | hi
    ·refine .inr ?_;have:zaa l i=l[i]:=by unfold zaa;rw [List.getD_eq_getElem?_getD,List.getElem?_eq_getElem hi];rfl
     rw [this];exact hp _ (List.getElem_mem hi)
    ·refine .inl ?_;unfold zaa;rw [List.getD_eq_getElem?_getD,List.getElem?_eq_none hi];exact ⟨rfl,rfl⟩
end Go.Proofs.YtdhikpkecmaplaaGreatDoor
