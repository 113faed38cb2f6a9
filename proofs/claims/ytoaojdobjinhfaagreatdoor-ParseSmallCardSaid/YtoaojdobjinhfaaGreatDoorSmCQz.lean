/- ParseSmall: what is known of the values in written's region 23. -/
import Derived.Test.YtoaojdobjinhfaaGreatDoorSmEQz
set_option linter.unusedSimpArgs false
set_option linter.unusedVariables false
namespace Go.Proofs.YtoaojdobjinhfaaGreatDoor
open Go.RowKit
def Leaf2 (w W : World) : Prop := OwnV W w.heap.size 29 oneV /\ OwnV W (w.heap.size + 1) 29 nameV /\ Below w.heap.size w W
theorem Leaf2.below{w W f:World}(h:Leaf2 w W)(d:Below W.heap.size W f):Leaf2 w f:=⟨h.1.below d (zr _),h.2.1.below d (zr _),h.2.2.trans (d.mono h.2.2.size)⟩
theorem OwnV.other{w w':World}{g f:Nat}{e m:TypeId}{vs l:List Value}(h:OwnV w g e vs)(k:OwnV w f m l)(i:e≠m)(q:Only (fun j=>j=f) w w'):OwnV w' g e vs:=
 q.own h (fun eq=>by
  have d:g=f:=eq;subst d;unfold OwnV at h k;rw[h] at k;cases k
  exact i rfl)
def fiveV : List Value := [.string { data := #[] }, .string { data := #[97] }, .string { data := #[105, 102] }, .string { data := #[] }, .string { data := #[98] }]
theorem five_at{w:World}{g c:Nat}(h:OwnV w g 9 fiveV)(d:c<5):∃s:ByteArray,s.size<=10/\w.cell? ⟨g,c,none⟩=some (.string s):=by
 rcases(by omega:c=0∨c=1∨c=2∨c=3∨c=4) with rfl|rfl|rfl|rfl|rfl
 ·exact⟨_,by decide,h.cell (i:=0) rfl⟩
 ·exact⟨_,by decide,h.cell (i:=1) rfl⟩
 ·exact⟨_,by decide,h.cell (i:=2) rfl⟩
 ·exact⟨_,by decide,h.cell (i:=3) rfl⟩
 ·exact⟨_,by decide,h.cell (i:=4) rfl⟩
def threeV : List Value := oneV ++ nameV ++ oneV
def phW (B c e : Nat) (q n : Int) : Nat -> (Nat -> Value) -> World -> Prop
  | 8, X, w => ∃ g, X 8 = .slice (some ⟨g, 0, none⟩) 5 5 /\ OwnV w g 9 fiveV
  | 12, X, w => ∃ g, X 12 = .pointer (some ⟨g, c, none⟩) /\ OwnV w g 9 fiveV
  | 13, X, _ => ∃ s : ByteArray, X 13 = .string s /\ s.size <= 10
  | 17, X, w => ∃ g, X 17 = .slice (some ⟨g, 0, none⟩) 3 3 /\ OwnV w g 29 threeV
  | 21, X, w => ∃ g, X 21 = .slice (some ⟨g, 0, none⟩) e 3 /\ OwnV w g 29 threeV
  | 22, X, w => ∃ (g : Nat) (s : ByteArray), X 22 = .agg #[.int .u8 q, .int .i64 n, .string s, .slice (some ⟨g, 0, none⟩) e 3, .slice none 0 0, .slice none 0 0] /\ s.size <= 10 /\ OwnV w g 29 threeV
  | 23, X, w => ∃ b, X 23 = .pointer (some ⟨b, 0, none⟩) /\ B <= b /\ ∃ a0 a1 a2 a3 a4 a5, OwnV w b 56 [a0, a1, a2, a3, a4, a5]
  | 24, X, w => ∃ (b g : Nat) (s : ByteArray), X 23 = .pointer (some ⟨b, 0, none⟩) /\ B <= b /\ s.size <= 10 /\ OwnV w b 56 [.int .u8 q, .int .i64 n, .string s, .slice (some ⟨g, 0, none⟩) e 3, .slice none 0 0, .slice none 0 0] /\ OwnV w g 29 threeV
  | _, _, _ => True
def gW (B : Nat) : Nat -> World -> World -> Prop
  | 24, w, w' => ∃ b, B <= b /\ (∃ a0 a1 a2 a3 a4 a5, OwnV w b 56 [a0, a1, a2, a3, a4, a5]) /\ Only (fun k => k = b) w w' /\ ∃ a0 a1 a2 a3 a4 a5, OwnV w' b 56 [a0, a1, a2, a3, a4, a5]
  | _, w, w' => Below w.heap.size w w'
theorem gW_H{w0:World}:∀(i:Nat) (w w':World),Leaf2 w0 w->gW w0.heap.size i w w'->Leaf2 w0 w':=by
 intro i w w' h d;unfold gW at d;split at d
 ·obtain⟨b,z,⟨a0,a1,a2,j,l,a5,g⟩,f,m,q,b2,u,v,y,A⟩:=d;exact⟨h.1.other g (by decide) f,h.2.1.other g (by decide) f,h.2.2.trans (f.below (fun k hk=>by omega) h.2.2.size)⟩
 ·exact h.below d
theorem phW_st{B c e:Nat}{q n:Int}:∀(i j:Nat) (X:Nat->Value) (w w':World),i≠j->phW B c e q n j X w->gW B i w w'->phW B c e q n j X w':=by
 intro i j X w w' y hp l;unfold gW at l;split at l
 ·obtain⟨b,S,⟨a0,a1,a2,z,A,a5,v⟩,u,H,I,b2,J,K,L,G⟩:=l;unfold phW at hp ⊢;split at hp
  ·obtain⟨g,d,f⟩:=hp;exact⟨g,d,f.other v (by decide) u⟩
  ·obtain⟨g,d,f⟩:=hp;exact⟨g,d,f.other v (by decide) u⟩
  ·exact hp
  ·obtain⟨g,d,f⟩:=hp;exact⟨g,d,f.other v (by decide) u⟩
  ·obtain⟨g,d,f⟩:=hp;exact⟨g,d,f.other v (by decide) u⟩
  ·obtain⟨g,s,d,m,f⟩:=hp;exact⟨g,s,d,m,f.other v (by decide) u⟩
  ·obtain⟨b2,d,m,M,N,O,P,Q,R,f⟩:=hp;refine⟨b2,d,m,?_⟩;by_cases C:b2=b
   ·subst C;exact⟨_,_,_,_,_,_,G⟩
   ·exact⟨_,_,_,_,_,_,u.own f C⟩
  ·exact absurd rfl y
  ·trivial
 ·unfold phW at hp ⊢;split at hp
  ·obtain⟨g,d,f⟩:=hp;exact⟨g,d,f.below l (zr _)⟩
  ·obtain⟨g,d,f⟩:=hp;exact⟨g,d,f.below l (zr _)⟩
  ·exact hp
  ·obtain⟨g,d,f⟩:=hp;exact⟨g,d,f.below l (zr _)⟩
  ·obtain⟨g,d,f⟩:=hp;exact⟨g,d,f.below l (zr _)⟩
  ·obtain⟨g,s,d,m,f⟩:=hp;exact⟨g,s,d,m,f.below l (zr _)⟩
  ·obtain⟨b,d,m,a0,a1,a2,z,A,a5,f⟩:=hp;exact⟨b,d,m,a0,a1,a2,z,A,a5,f.below l (zr _)⟩
  ·obtain⟨b,g,s,d,m,D,E,F⟩:=hp;exact⟨b,g,s,d,m,D,E.below l (zr _),F.below l (zr _)⟩
  ·trivial
theorem phW_loc{B c e i j:Nat}{q n:Int}(f:i=23->j=24->False)(X:Nat->Value)(v:Value)(w:World)(g:i≠j)(hp:phW B c e q n j X w):phW B c e q n j (updX X i v) w:=by
 have d:updX X i v j=X j:=yN (fun e=>g e.symm);unfold phW at hp ⊢;split at hp
 ·rw[d];exact hp
 ·rw[d];exact hp
 ·rw[d];exact hp
 ·rw[d];exact hp
 ·rw[d];exact hp
 ·rw[d];exact hp
 ·rw[d];exact hp
 ·rw[show updX X i v 23=X 23 from yN (fun e=>f e.symm rfl)];exact hp
 ·trivial
end Go.Proofs.YtoaojdobjinhfaaGreatDoor
