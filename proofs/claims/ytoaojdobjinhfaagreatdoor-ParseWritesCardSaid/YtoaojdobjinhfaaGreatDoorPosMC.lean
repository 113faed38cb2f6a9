/- Lexing by places: one step at a place of the source. Plain mathematics. -/
import Derived.Test.YtoaojdobjinhfaaGreatDoorJoinMC
import Derived.Test.YtoaojdobjinhfaaGreatDoorPPlaceC
set_option linter.unusedSimpArgs false
set_option linter.unusedVariables false
namespace Go.Proofs.YtoaojdobjinhfaaGreatDoor
open Go.RowKit

def Ends (t : Tok) (r : List UInt8) : Prop := (t.kind ≠ 3 → r.head?.all (fun b => !zaf b) = true) ∧ (t.kind = 3 → ∀ a b r', t.text = [a] → r = b :: r' → ¬ (a.toNat, b.toNat) ∈ zbB)
theorem Ends.take {t:Tok} {r:List UInt8} (h:Ends t r) (n:Nat):Ends t (r.take n):=by
 cases r with
 | nil=>rw [List.take_nil];exact h
 | cons b r =>
  cases n with
  | zero=>exact ⟨fun _=>rfl,fun _ a b r' _ e=>by cases e⟩
  | succ n =>
   rw [List.take_succ_cons];exact ⟨fun hk=>h.1 hk,fun hk a b' r' ht e=>by cases e;exact h.2 hk a b _ ht rfl⟩
theorem zlE {xs ys:List UInt8} (h0:xs≠[]) (h:zag xs=xs.length) (hy:∀ a b r',xs=[a]→ys=b :: r'→¬ (a.toNat,b.toNat) ∈ zbB):zag (xs++ys)=xs.length:=by
 match xs,h0 with
 | [a],_ =>
  cases ys with
  | nil=>exact h
  | cons b r =>
   have h1:a.toNat ∈ zbt:=by
    simp only [zag] at h;split at h
    ·assumption
    ·exact absurd h (by simp)
   show zag (a :: b :: r)=1;simp only [zag]
   rw [if_neg (hy a b r rfl rfl),if_pos h1]
 | [a,b],_=>exact h
 | a :: b :: d :: r,_ =>
  have:=zh6 (a :: b :: d :: r);rw [h] at this;simp at this
theorem zkp {t:Tok} (ht:TokOk t) {r:List UInt8} (hr:Ends t r) (l c:Int):lexT (t.text++r) l c=(lexF r l (c+t.text.length)).cons (t.moved l c):=by
 cases ht with
 | @word b s l0 c0 h1 h2 h3 =>
  have hw:(b :: (s++r)).takeWhile zaf=b :: s:=zcH (xs:=b :: s) h2 (hr.1 (by simp));show zaK lexF (b :: (s++r)) l c=_;rw [zaK,if_pos h1,hw,if_neg (by omega),show b :: (s++r)=(b :: s)++r from rfl,List.drop_left]
  rfl
 | @number b s n l0 c0 h0 h1 h2 h3 =>
  have hw:(b :: (s++r)).takeWhile zaf=b :: s:=zcH (xs:=b :: s) h2 (hr.1 (by simp));show zaK lexF (b :: (s++r)) l c=_;rw [zaK,if_neg (by rw [h0];simp),if_pos h1,hw,h3,show b :: (s++r)=(b :: s)++r from rfl,List.drop_left]
  rfl
 | @sign b s l0 c0 h0 h1 h2 =>
  have hs:zag (b :: (s++r))=(b :: s).length:=zlE (xs:=b :: s) (by simp) h2 (fun a b' r' e1 e2=>hr.2 rfl a b' r' e1 e2);show zaK lexF (b :: (s++r)) l c=_;rw [zaK,if_neg (by rw [h0];simp),if_neg (by rw [h1];simp),hs,if_neg (by simp),show b :: (s++r)=(b :: s)++r from rfl,List.drop_left,List.take_left];rfl
theorem zlF {t:Tok} (ht:TokOk t) {r:List UInt8} (hr:Ends t r) (l c:Int):lexF (t.text++r) l c=(lexF r l (c+t.text.length)).cons (t.moved l c):=by
 rw [zbY,zgY ht];exact zkp ht hr l c
end Go.Proofs.YtoaojdobjinhfaaGreatDoor
