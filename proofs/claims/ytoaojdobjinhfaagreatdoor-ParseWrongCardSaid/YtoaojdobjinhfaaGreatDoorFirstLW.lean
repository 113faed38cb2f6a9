/- The tokens up to the wrong one are those of every source that begins alike and goes on behind a newline; so the wrong token stays the first one. Plain mathematics. -/
import Derived.Test.YtoaojdobjinhfaaGreatDoorFirstMW
import Derived.Test.YtoaojdobjinhfaaGreatDoorPosMW
set_option linter.unusedSimpArgs false
set_option linter.unusedVariables false
namespace Go.Proofs.YtoaojdobjinhfaaGreatDoor
theorem pos_ge:∀ (xs:List UInt8) (l c:Int),l < (posS xs l c).1∨(l=(posS xs l c).1∧c≤(posS xs l c).2):=by
 intro xs
 induction xs with
 | nil=>intro l c;exact .inr ⟨rfl,Int.le_refl _⟩
 | cons b r ih =>
  intro l c;rw [posS];split
  ·rcases ih (l+1) 1 with h | ⟨h,-⟩
   ·exact .inl (by omega)
   ·exact .inl (by omega)
  ·rcases ih l (c+1) with h | ⟨h,h2⟩
   ·exact .inl h
   ·exact .inr ⟨h,by omega⟩
theorem pos_gt {xs:List UInt8} (hx:xs≠[]) (l c:Int):posS xs l c≠(l,c):=by
 cases xs with
 | nil=>exact absurd rfl hx
 | cons b r =>
  rw [posS];intro e;split at e
  ·have:=pos_ge r (l+1) 1;rw [e] at this;simp only [] at this;omega
  ·have:=pos_ge r l (c+1);rw [e] at this;simp only [] at this;omega
theorem plS_ne {s:List UInt8} {i j:Nat} (h:i < j) (hj:j≤s.length):plS s j≠plS s i:=by
 obtain ⟨n,rfl⟩:∃ n,j=i+n:=⟨j - i,by omega⟩;rw [plS_add];refine pos_gt (fun e=>?_) _ _;have:=congrArg List.length e;rw [List.length_take,List.length_drop,List.length_nil] at this;omega
theorem plS_inj {s:List UInt8} {i j:Nat} (hi:i≤s.length) (hj:j≤s.length) (h:plS s i=plS s j):i=j:=by
 rcases Nat.lt_trichotomy i j with h1 | h1 | h1
 ·exact absurd h.symm (plS_ne h1 hj)
 ·exact h1
 ·exact absurd h (plS_ne h1 hi)
theorem plS_zero (s:List UInt8):plS s 0=(1,1):=rfl
theorem cut_step {s:List UInt8} {a j e:Nat} {t:Tok} (hj:j=a+skN (s.drop a)) (ht:TokOk t) (hl:t.line=(plS s j).1) (hc:t.col=(plS s j).2) (hd:s.drop j=t.text++s.drop (j+t.text.length)) (hn:j+t.text.length≤s.length)
  (hE:Ends t (s.drop (j+t.text.length))) (he:j+t.text.length≤e) :
  lexF ((s.drop a).take (e - a)) (plS s a).1 (plS s a).2=(lexF ((s.drop (j+t.text.length)).take (e - (j+t.text.length))) (plS s (j+t.text.length)).1 (plS s (j+t.text.length)).2).cons t:=by
 have hle:=skN_le (s.drop a);have hsk:=skip_skN (s.drop a) (plS s a).1 (plS s a).2;rw [List.length_drop] at hle;have hln:((s.drop a).drop (skN (s.drop a))).length=s.length - a - skN (s.drop a):=by rw [List.length_drop,List.length_drop]
 have ht0:=skip_take (s.drop a) false (plS s a).1 (plS s a).2 (e - a) (by rw [hsk];simp only [];rw [hln,List.length_drop];omega);rw [zbY,ht0,hsk];simp only [];rw [hln,List.length_drop,List.drop_drop,← hj,← plS_add,← hj,hd]
 have hp:plS s (j+t.text.length)=((plS s j).1,(plS s j).2+t.text.length):=by
  rw [plS_add,posS_flatM]
  ·congr 2
   rw [List.length_take,List.length_drop];omega
  ·intro b hb;rw [hd,List.take_left] at hb;exact ht.flat b hb
 rw [show e - a - (s.length - a - (s.length - a - skN (s.drop a)))=t.text.length+(e - (j+t.text.length)) by omega,List.take_append,List.take_of_length_le (by omega),Nat.add_sub_cancel_left,zkp ht (hE.take _),hp];congr 1
 cases t
 simp only [Tok.moved] at *
 rw [hl,hc]
theorem lexF_nil' (l c:Int):lexF [] l c=.ok [endT l c]:=rfl
theorem lex_cut {s:List UInt8}:∀ (k a:Nat) (ts:List Tok),a≤s.length→lexF (s.drop a) (plS s a).1 (plS s a).2=.ok ts→k < ts.length→(zaa ts k).kind≠4 →
  ∃ j,a≤j∧j+(zaa ts k).text.length≤s.length∧0 < (zaa ts k).text.length∧(zaa ts k).line=(plS s j).1∧(zaa ts k).col=(plS s j).2 ∧
   ∃ l c,lexF ((s.drop a).take (j+(zaa ts k).text.length - a)) (plS s a).1 (plS s a).2=.ok (ts.take (k+1)++[endT l c]):=by
 intro k
 induction k with
 | zero =>
  intro a ts ha h hk hkd;obtain ⟨j,hj,hjl,hcase⟩:=lex_step ha h;rcases hcase with ⟨-,rfl⟩ | ⟨t,us,rfl,ht,hl,hc,hd,hn,hus,h1,h2⟩
  ·exact absurd rfl hkd
  ·have e0:zaa (t :: us) 0=t:=rfl;rw [e0];have hE:Ends t (s.drop (j+t.text.length)):=⟨h1,fun hk3 x y r hx hr=>h2 hk3 x y r hx (by rw [hd,hr,hx];rfl)⟩;have hpos:0 < t.text.length:=by cases ht <;> simp
   refine ⟨j,by omega,hn,hpos,hl,hc,(plS s (j+t.text.length)).1,(plS s (j+t.text.length)).2,?_⟩;rw [cut_step hj ht hl hc hd hn hE (zr _),Nat.sub_self,List.take_zero,lexF_nil']
   rfl
 | succ k ih =>
  intro a ts ha h hk hkd;obtain ⟨j,hj,hjl,hcase⟩:=lex_step ha h;rcases hcase with ⟨-,rfl⟩ | ⟨t,us,rfl,ht,hl,hc,hd,hn,hus,h1,h2⟩
  ·exact absurd hk (by simp)
  ·have e0:zaa (t :: us) (k+1)=zaa us k:=rfl;rw [e0] at hkd ⊢;have hE:Ends t (s.drop (j+t.text.length)):=⟨h1,fun hk3 x y r hx hr=>h2 hk3 x y r hx (by rw [hd,hr,hx];rfl)⟩;obtain ⟨j',hj1,hj2,hj3,hj4,hj5,l,c,hj6⟩:=ih (j+t.text.length) us hn hus (by simpa using hk) hkd;refine ⟨j',by omega,hj2,hj3,hj4,hj5,l,c,?_⟩;rw [cut_step hj ht hl hc hd hn hE (by omega),hj6];rfl
theorem tok_pos {s:List UInt8}:∀ (k a:Nat) (ts:List Tok),a≤s.length→lexF (s.drop a) (plS s a).1 (plS s a).2=.ok ts→k < ts.length →
  ∃ j,a≤j∧j≤s.length∧(zaa ts k).line=(plS s j).1∧(zaa ts k).col=(plS s j).2∧((zaa ts k).kind=4→j=s.length)∧∀ i,i < k→∃ j',j' < j∧(zaa ts i).line=(plS s j').1∧(zaa ts i).col=(plS s j').2:=by
 intro k
 induction k with
 | zero =>
  intro a ts ha h hk;obtain ⟨j,hj,hjl,hcase⟩:=lex_step ha h;rcases hcase with ⟨he,rfl⟩ | ⟨t,us,rfl,ht,hl,hc,-⟩
  ·exact ⟨j,by omega,hjl,rfl,rfl,fun _=>he,fun i hi=>absurd hi (by omega)⟩
  ·exact ⟨j,by omega,hjl,hl,hc,fun e=>absurd (show t.kind=4 from e) (by cases ht <;> simp),fun i hi=>absurd hi (by omega)⟩
 | succ k ih =>
  intro a ts ha h hk;obtain ⟨j,hj,hjl,hcase⟩:=lex_step ha h;rcases hcase with ⟨-,rfl⟩ | ⟨t,us,rfl,ht,hl,hc,hd,hn,hus,h1,h2⟩
  ·exact absurd hk (by simp)
  ·have hpos:0 < t.text.length:=by cases ht <;> simp
   obtain ⟨j',hj1,hj2,hj3,hj4,hj6,hj5⟩:=ih (j+t.text.length) us hn hus (by simpa using hk);refine ⟨j',by omega,hj2,hj3,hj4,hj6,fun i hi=>?_⟩
   cases i with
   | zero=>exact ⟨j,by omega,hl,hc⟩
   | succ i=>exact hj5 i (by omega)
theorem tok_first_at {s:List UInt8} {ts:List Tok} (h:lexF s 1 1=.ok ts) {i k:Nat} (hk:k < ts.length) (hi:i < k):¬ ((zaa ts i).line=(zaa ts k).line∧(zaa ts i).col=(zaa ts k).col):=by
 obtain ⟨j,-,hj1,hj2,hj3,-,hj4⟩:=tok_pos (s:=s) k 0 ts (by omega) (by rw [plS_zero];exact h) hk;obtain ⟨j',h1,h2,h3⟩:=hj4 i hi;rintro ⟨e1,e2⟩;rw [hj2,h2] at e1;rw [hj3,h3] at e2;exact absurd (plS_inj (by omega) hj1 (Prod.ext e1 e2)) (by omega)
theorem end_last {s:List UInt8} {ts:List Tok} (h:lexF s 1 1=.ok ts) {k:Nat} (hk:k < ts.length) (h4:(zaa ts k).kind=4) {a:Nat} (ha:a < s.length):¬ ((plS s a).1=(zaa ts k).line∧(plS s a).2=(zaa ts k).col):=by
 obtain ⟨j,-,hj1,hj2,hj3,hj4,-⟩:=tok_pos (s:=s) k 0 ts (by omega) (by rw [plS_zero];exact h) hk;rintro ⟨e1,e2⟩;rw [hj2] at e1;rw [hj3] at e2;have:=plS_inj (by omega) hj1 (Prod.ext e1 e2);have:=hj4 h4;omega
theorem wrong_stays {s rest:List UInt8} (hs:s.length≤1500) (hr:rest.length≤1500) {ts:List Tok} (h:lexS s=.ok ts) (hN:∀ i,i < ts.length→(zaa ts i).kind≠4→i+1 < ts.length) {k:Nat} {c:Int} (hp:allS ts (ts.length+1) [] 0=.err k c) (hc:c≠0) (hk:k < ts.length) (hkd:(zaa ts k).kind≠4) :
  ∃ j,j+(zaa ts k).text.length≤s.length∧0 < (zaa ts k).text.length∧(zaa ts k).line=(plS s j).1∧(zaa ts k).col=(plS s j).2 ∧
   (∀ a b d,lexS rest=.err a b d→∃ a' b',zbg (s.take (j+(zaa ts k).text.length)++10 :: rest)=.err a' b' d) ∧
   (∀ us,lexS rest=.ok us→zbg (s.take (j+(zaa ts k).text.length)++10 :: rest)=.err (zaa ts k).line (zaa ts k).col c):=by
 rw [lexS,if_neg (by omega)] at h;have h':lexF s 1 1=.ok ts:=h;obtain ⟨j,-,hj1,hj2,hj3,hj4,l,d,hj5⟩:=lex_cut (s:=s) k 0 ts (by omega) (by rw [plS_zero];exact h') hk hkd;rw [plS_zero,List.drop_zero,Nat.sub_zero] at hj5;have hL:=lexF_line rest _ (s.take (j+(zaa ts k).text.length)) (zr _) 1 1;rw [hj5] at hL
 have hlen:¬ 16384 < (s.take (j+(zaa ts k).text.length)++10 :: rest).length:=by
  rw [List.length_append,List.length_take,List.length_cons];omega
 have hW:lexS (s.take (j+(zaa ts k).text.length)++10 :: rest)=lexF (s.take (j+(zaa ts k).text.length)++10 :: rest) 1 1:=by rw [lexS,if_neg hlen];rfl
 have hR:lexS rest=lexF rest 1 1:=by rw [lexS,if_neg (by omega)];rfl
 have hD:lexF rest (1+nlN (s.take (j+(zaa ts k).text.length))+1) 1=(lexF rest 1 1).down (nlN (s.take (j+(zaa ts k).text.length))+1):=by
  rw [← lexF_down _ _ _ (zr _)];congr 1 <;> omega
 rw [hD] at hL;refine ⟨j,hj1,hj2,hj3,hj4,fun a b d' he=>?_,fun us hu=>?_⟩
 ·rw [hR] at he;rw [he] at hL;unfold zbg;rw [hW,hL];exact ⟨_,_,rfl⟩
 ·rw [hR] at hu;rw [hu] at hL
  have hM:lexF (s.take (j+(zaa ts k).text.length)++10 :: rest) 1 1=.ok (ts.take (k+1)++us.map (Tok.down (nlN (s.take (j+(zaa ts k).text.length))+1))):=by
   rw [hL];simp [glue,LexR.down,LexR.pre]
  have hT:∀ i,i≤k→zaa (ts.take (k+1)++us.map (Tok.down (nlN (s.take (j+(zaa ts k).text.length))+1))) i=zaa ts i:=by
   intro i hi;unfold zaa;rw [List.getD_eq_getElem?_getD,List.getElem?_append_left (by rw [List.length_take];omega),List.getElem?_take_of_lt (by omega),List.getD_eq_getElem?_getD]
  have hF:=first_wrong hN hp hc hT (by rw [List.length_append,List.length_take];omega);unfold zbg;rw [hW,hM];simp only [];rw [hF];simp only [];rw [hT k (zr _)]
end Go.Proofs.YtoaojdobjinhfaaGreatDoor
