/- The first wrong token decides: the parser looks at no token behind it. Plain mathematics. -/
import Derived.Test.YtoaojdobjinhfaaGreatDoorLexMW
import Derived.Test.YtoaojdobjinhfaaGreatDoorOnlyW
import Derived.Test.YtoaojdobjinhfaaGreatDoorPaSC
set_option linter.unusedSimpArgs false
set_option linter.unusedVariables false
namespace Go.Proofs.YtoaojdobjinhfaaGreatDoor
def PR.pos {α : Type} : PR α → Nat
  | .ok _ j => j
  | .err a _ => a
structure RelZ {α : Type} (l : List Tok) (k i : Nat) (R R' : PR α) : Prop where
  pos : i ≤ R.pos
  same : R.pos ≤ k → (∀ a, R ≠ .err a 0) → R' = R
  deep : ∀ a, R = .err a 121 → (zaa l a).kind ≠ 4
  inb : i < l.length → R.pos < l.length
section
variable {α β : Type} {l m : List Tok} {k i : Nat} {R R' : PR α}
theorem RelZ.ok {x y:α} {j:Nat} (h:i≤j) (hn:i < l.length→j < l.length) (e:j≤k→y=x):RelZ l k i (.ok x j) (.ok y j):=
 ⟨h,fun hk _=>by rw [e hk],fun a h=>(by cases h),hn⟩
theorem RelZ.e120:RelZ l k i (.err i 120:PR α) (.err i 120):=
 ⟨zr _,fun _ _=>rfl,fun b e=>by injection e with _ e;exact absurd e (by decide),id⟩
theorem RelZ.e121 (hk:(zaa l i).kind≠4):RelZ l k i (.err i 121:PR α) (.err i 121):=
 ⟨zr _,fun _ _=>rfl,fun b e=>by injection e with e _;rw [← e];exact hk,id⟩
theorem RelZ.e0:RelZ l k i (.err i 0:PR α) R':=
 ⟨zr _,fun _ h=>absurd rfl (h i),fun b e=>by injection e with _ e;exact absurd e (by decide),id⟩
theorem RelZ.any (h:RelZ l k i R R') (hki:k < i) (Z:PR α):RelZ l k i R Z:=
 ⟨h.pos,fun hk _=>by have:=h.pos;omega,h.deep,h.inb⟩
theorem RelZ.sw {Z:PR α} (h:RelZ l k i R R') (e:i≤k→Z=R'):RelZ l k i R Z:=by
 by_cases hik:i≤k
 ·rw [e hik];exact h
 ·exact h.any (by omega) Z
theorem RelZ.weak {j:Nat} (h:RelZ l k j R R') (hi:i≤j) (hn:i < l.length→j < l.length):RelZ l k i R R':=⟨Nat.le_trans hi h.pos,h.same,h.deep,fun h'=>h.inb (hn h')⟩
theorem RelZ.ite {c c':Prop} [Decidable c] [Decidable c'] {A A' B B':PR α} (h:i≤k→(c' ↔ c)) (hA:c→RelZ l k i A A') (hB:¬ c→RelZ l k i B B'):RelZ l k i (if c then A else B) (if c' then A' else B'):=by
 by_cases hc:c
 ·rw [if_pos hc];exact (hA hc).sw fun hik=>by rw [if_pos ((h hik).2 hc)]
 ·rw [if_neg hc];exact (hB hc).sw fun hik=>by rw [if_neg (fun h'=>hc ((h hik).1 h'))]
theorem RelZ.bind {f f':α→Nat→PR β} (h:RelZ l k i R R') (hf:∀ x j,R=.ok x j→i≤j→RelZ l k j (f x j) (f' x j)):RelZ l k i (R.andThen f) (R'.andThen f'):=by
 cases R with
 | ok x j =>
  have hp:i≤j:=h.pos;have hx:=hf x j rfl hp;refine ⟨Nat.le_trans hp hx.pos,fun hk hc=>?_,hx.deep,fun h'=>hx.inb (h.inb h')⟩;have hk':(f x j).pos≤k:=hk;have e:R'=.ok x j:=h.same (show j≤k by have:=hx.pos;omega) (fun a e=>by cases e);rw [e]
  exact hx.same hk' hc
 | err a c =>
  refine ⟨h.pos,fun hk hc=>?_,fun b e=>h.deep b (by have e':(PR.err a c:PR β)=.err b 121:=e;injection e' with e1 e2;rw [e1,e2]),h.inb⟩;have e:R'=.err a c:=h.same hk (fun b e=>by injection e with e1 e2;exact hc a (by show (PR.err a c:PR β)=.err a 0;rw [e2]));rw [e];rfl
theorem RelZ.map {f f':α→β} (h:RelZ l k i R R') (hf:i≤k→f'=f):RelZ l k i (R.map f) (R'.map f'):=by
 refine RelZ.sw (R':=R'.map f) ?_ fun hik=>by rw [hf hik]
 exact h.bind fun x j _ _=>RelZ.ok (zr _) id fun _=>rfl
end
def ERelZ (l : List Tok) (k i0 : Nat) (E E' : Nat → Nat → Nat → PR Ex) : Prop := ∀ i o q, i0 ≤ i → RelZ l k i (E i o q) (E' i o q)
section
variable {l m : List Tok} {k : Nat} (hN : ∀ i, i < l.length → (zaa l i).kind ≠ 4 → i + 1 < l.length)
include hN
theorem isS_nx {i:Nat} {s:List UInt8} (h:¬ isS l i s=false) (hi:i < l.length):i+1 < l.length:=hN i hi (fun e=>h (by unfold isS;simp [e]))
theorem kind_nx {i:Nat} {c:Int} (h:(zaa l i).kind=c) (hc:c≠4) (hi:i < l.length):i+1 < l.length:=hN i hi (by rw [h];exact hc)
theorem strong_nx {i:Nat} (h:zaj l i≠0) (hi:i < l.length):i+1 < l.length:=by
 refine hN i hi fun e=>h ?_
 unfold zaj za3;rw [if_neg (by rw [e];decide)];rfl
variable (hT : ∀ i, i ≤ k → zaa m i = zaa l i)
include hT
omit hN in
theorem isS_to {i:Nat} (h:i≤k) (s:List UInt8):isS m i s=isS l i s:=by unfold isS;rw [hT i h]
omit hN in
theorem signAt_to {i:Nat} (h:i≤k):za3 m i=za3 l i:=by unfold za3;rw [hT i h]
omit hN in
theorem strongAt_to {i:Nat} (h:i≤k):zaj m i=zaj l i:=by unfold zaj;rw [signAt_to hT h]
theorem enter_to (i:Nat) (s:List UInt8) (o:Nat):RelZ l k i (zay l i s o) (zay m i s o):=by
 unfold zay;refine RelZ.ite (fun h=>by rw [isS_to hT h]) (fun _=>RelZ.e120) fun hs=>RelZ.ite (fun _=>Iff.rfl) (fun _=>RelZ.e121 ?_) fun _=>RelZ.ok (by omega) (isS_nx hN hs) (fun _=>rfl)
 intro e;exact hs (by unfold isS;simp [e])
theorem tail_to {i0:Nat} {E E':Nat→Nat→Nat→PR Ex} (hE:ERelZ l k i0 E E'):∀ (f g:Nat) (x:Ex) (i o q:Nat),k < i+g→i0≤i+1→RelZ l k i (zaD l E f x i o q) (zaD m E' g x i o q):=by
 intro f
 induction f with
 | zero=>intro g x i o q _ _;exact RelZ.e0
 | succ f ih =>
  have step:∀ (g:Nat) (x:Ex) (i o q:Nat),k < i+(g+1)→i0≤i+1→RelZ l k i (zaD l E (f+1) x i o q) (zaD m E' (g+1) x i o q):=by
   intro g x i o q hg h0;rw [zaD,zaD];refine RelZ.ite (fun h=>by rw [strongAt_to hT h]) (fun _=>RelZ.ok (zr _) id fun _=>rfl) fun hs=>?_
   refine (RelZ.bind ((hE (i+1) o (zaj l i+1) h0).sw fun h=>by rw [strongAt_to hT (by omega)]) fun y j _ hj=>?_).weak (by omega) (strong_nx hN fun e=>hs (.inr e));refine RelZ.ite (fun h=>by rw [strongAt_to hT h,strongAt_to hT (by omega:i≤k)]) (fun _=>RelZ.e120) fun _=>?_
   exact (ih g _ j o q (by omega) (by omega)).sw fun h=>by rw [signAt_to hT (by omega)]
  intro g x i o q hg h0
  cases g with
  | zero=>exact (step (k+1) x i o q (by omega) h0).any (by omega) _
  | succ g=>exact step g x i o q hg h0
theorem more_to {i0:Nat} {E E':Nat→Nat→Nat→PR Ex} (hE:ERelZ l k i0 E E') (o:Nat) (stop:List UInt8):∀ (n:Nat) (xs:List Ex) (i:Nat),i0≤i→RelZ l k i (zav l E o stop n xs i) (zav m E' o stop n xs i):=by
 intro n
 induction n with
 | zero =>
  intro xs i h0;rw [zav,zav]
  exact RelZ.ite (fun h=>by rw [isS_to hT h]) (fun hs=>RelZ.ok (by omega) (isS_nx hN (by rw [hs];decide)) fun _=>rfl) fun _=>RelZ.e120
 | succ n ih =>
  intro xs i h0;rw [zav,zav];refine RelZ.ite (fun _=>Iff.rfl) (fun _=>?_) fun _=>RelZ.ite (fun h=>by rw [isS_to hT h]) (fun _=>RelZ.e120) fun hs=>?_
  ·exact (hE i (o+1) 1 h0).bind fun x j _ hj=>ih _ j (by omega)
  ·exact ((hE (i+1) (o+1) 1 (by omega)).bind fun x j _ hj=>ih _ j (by omega)).weak (by omega) (isS_nx hN hs)
theorem inside_to {i0:Nat} {E E':Nat→Nat→Nat→PR Ex} (hE:ERelZ l k i0 E E') {i:Nat} (o:Nat) (a b:List UInt8) (n:Nat) (h0:i0≤i+1):RelZ l k i (zad l E i o a b n) (zad m E' i o a b n):=by
 unfold zad;refine (enter_to hN hT i a o).bind fun u j e hj=>more_to hN hT hE o b n [] j ?_
 have:=(zij e).2;omega
theorem operand_to {i:Nat} {E E':Nat→Nat→Nat→PR Ex} (hE:ERelZ l k (i+1) E E') (o:Nat):RelZ l k i (zah l E i o) (zah m E' i o):=by
 unfold zah;refine RelZ.ite (fun h=>by rw [hT i h]) (fun hs=>RelZ.ok (by omega) (kind_nx hN hs (by decide)) fun h=>by rw [hT i (by omega)]) fun _=>?_
 refine RelZ.ite (fun h=>by rw [isS_to hT h]) (fun _=>(inside_to hN hT hE o _ _ 1 (zr _)).bind fun xs j _ hj=>?_) fun _=>?_
 ·cases xs with
  | nil=>exact RelZ.e0
  | cons x r=>exact RelZ.ok (zr _) id fun _=>rfl
 refine RelZ.ite (fun h=>by rw [hT i h]) (fun _=>RelZ.e120) fun hk1=>?_
 have hk2:i < l.length→i+1 < l.length:=kind_nx hN (Decidable.not_not.1 hk1) (by decide);refine RelZ.ite (fun h=>by rw [hT i h]) (fun _=>((inside_to hN hT hE (i:=i+1) o _ _ 1 (by omega)).map fun h=>by rw [hT i (by omega)]).weak (by omega) hk2) fun _=>?_
 refine RelZ.ite (fun h=>by rw [hT i h]) (fun _=>(((inside_to hN hT hE (i:=i+1) o _ _ _ (by omega)).sw fun h=>by rw [hT i (by omega)]).map fun h=>by rw [hT i (by omega)]).weak (by omega) hk2) fun _=>?_
 refine RelZ.ite (fun h=>by rw [hT i h]) (fun _=>RelZ.ok (by omega) hk2 fun _=>rfl) fun _=>?_
 refine RelZ.ite (fun h=>by rw [hT i h]) (fun _=>RelZ.ok (by omega) hk2 fun _=>rfl) fun _=>?_
 exact RelZ.ite (fun h=>by rw [hT i h]) (fun _=>RelZ.e120) fun _=>RelZ.ok (by omega) hk2 fun h=>by rw [hT i (by omega)]
theorem unary_to {i0:Nat} {E E':Nat→Nat→Nat→PR Ex} (hE:ERelZ l k i0 E E'):∀ (f g i o:Nat),k < i+g→i0≤i+1→RelZ l k i (zas l E f i o) (zas m E' g i o):=by
 intro f
 induction f with
 | zero=>intro g i o _ _;exact RelZ.e0
 | succ f ih =>
  have step:∀ (g i o:Nat),k < i+(g+1)→i0≤i+1→RelZ l k i (zas l E (f+1) i o) (zas m E' (g+1) i o):=by
   intro g i o hg h0;rw [zas,zas];refine RelZ.ite (fun h=>by rw [isS_to hT h,isS_to hT h]) (fun _=>operand_to hN hT (fun a b c h=>hE a b c (by omega)) o) fun hs=>?_
   have hk4:(zaa l i).kind≠4:=fun e=>hs ⟨by unfold isS;simp [e],by unfold isS;simp [e]⟩
   refine RelZ.ite (fun _=>Iff.rfl) (fun _=>RelZ.e121 hk4) fun _=>?_
   exact ((ih g (i+1) (o+1) (by omega) (by omega)).map fun h=>by rw [isS_to hT (by omega)]).weak (by omega) fun hi=>hN i hi hk4
  intro g i o hg h0
  cases g with
  | zero=>exact (step (k+1) i o (by omega) h0).any (by omega) _
  | succ g=>exact step g i o hg h0
end
section
variable {l m : List Tok} {k : Nat} (hN : ∀ i, i < l.length → (zaa l i).kind ≠ 4 → i + 1 < l.length) (hT : ∀ i, i ≤ k → zaa m i = zaa l i) (hk : k < m.length)
include hN hT hk
theorem expr_to:∀ (f g i o q:Nat),k < i+g→RelZ l k i (zaw l f i o q) (zaw m g i o q):=by
 intro f
 induction f with
 | zero=>intro g i o q _;exact RelZ.e0
 | succ f ih =>
  have step:∀ (g i o q:Nat),k < i+(g+1)→RelZ l k i (zaw l (f+1) i o q) (zaw m (g+1) i o q):=by
   intro g i o q hg;have hE:ERelZ l k (i+1) (zaw l f) (zaw m g):=fun a b c h=>ih g a b c (by omega)
   rw [zaw,zaw];exact (unary_to hN hT hE _ _ i o (by omega) (zr _)).bind fun x j _ hj=>tail_to hN hT hE _ _ x j o q (by omega) (by omega)
  intro g i o q hg
  cases g with
  | zero=>exact (step (k+1) i o q (by omega)).any (by omega) _
  | succ g=>exact step g i o q hg
theorem exprT_to (i0:Nat):ERelZ l k i0 (zaA l) (zaA m):=fun i o q _=>expr_to hN hT hk _ _ i o q (by omega)
theorem value_to (i o:Nat):RelZ l k i (zaz l i o) (zaz m i o):=by
 unfold zaz;refine RelZ.ite (fun h=>by rw [isS_to hT h]) (fun _=>RelZ.e120) fun hs=>?_
 refine ((exprT_to hN hT hk 0 (i+1) o 1 (by omega)).bind fun x j _ hj=>?_).weak (by omega) (isS_nx hN hs);exact RelZ.ite (fun h=>by rw [isS_to hT h]) (fun _=>RelZ.e120) fun hs=>RelZ.ok (by omega) (isS_nx hN hs) fun _=>rfl
omit hk in
theorem stmts_to {i0:Nat} {S S':Nat→Nat→PR St} (hS:∀ i o,i0≤i→RelZ l k i (S i o) (S' i o)) (hM:SMon S) (o:Nat):∀ (f g:Nat) (xs:List St) (i:Nat),k < i+g→i0≤i→RelZ l k i (zaX l S o f xs i) (zaX m S' o g xs i):=by
 intro f
 induction f with
 | zero=>intro g xs i _ _;exact RelZ.e0
 | succ f ih =>
  have step:∀ (g:Nat) (xs:List St) (i:Nat),k < i+(g+1)→i0≤i→RelZ l k i (zaX l S o (f+1) xs i) (zaX m S' o (g+1) xs i):=by
   intro g xs i hg h0;rw [zaX,zaX];refine RelZ.ite (fun h=>by rw [isS_to hT h]) (fun hs=>RelZ.ok (by omega) (isS_nx hN (by rw [hs];decide)) fun _=>rfl) fun _=>?_
   exact (hS i (o+1) h0).bind fun x j e hj=>ih g _ j (by have:=hM _ _ _ _ e;omega) (by omega)
  intro g xs i hg h0
  cases g with
  | zero=>exact (step (k+1) xs i (by omega) h0).any (by omega) _
  | succ g=>exact step g xs i hg h0
theorem block_to {i0:Nat} {S S':Nat→Nat→PR St} (hS:∀ i o,i0≤i→RelZ l k i (S i o) (S' i o)) (hM:SMon S) (i o:Nat) (h0:i0≤i+1):RelZ l k i (zaB l S i o) (zaB m S' i o):=by
 unfold zaB;refine (enter_to hN hT i _ o).bind fun u j e hj=>stmts_to hN hT hS hM o _ _ [] j (by omega) ?_
 have:=(zij e).2;omega
theorem branch_to {i0:Nat} {S S':Nat→Nat→PR St} (hS:∀ i o,i0≤i→RelZ l k i (S i o) (S' i o)) (hM:SMon S):∀ (f g i o:Nat),k < i+g→i0≤i+1→(zaa l i).kind≠4→RelZ l k i (zau l S f i o) (zau m S' g i o):=by
 intro f
 induction f with
 | zero=>intro g i o _ _ _;exact RelZ.e0
 | succ f ih =>
  have step:∀ (g i o:Nat),k < i+(g+1)→i0≤i+1→(zaa l i).kind≠4→RelZ l k i (zau l S (f+1) i o) (zau m S' (g+1) i o):=by
   intro g i o hg h0 hk4;rw [zau,zau];refine ((inside_to hN hT (exprT_to hN hT hk 0) (i:=i+1) o _ _ 1 (by omega)).bind fun x j _ hj=>?_).weak (by omega) fun hi=>hN i hi hk4
   refine (block_to hN hT hk hS hM j o (by omega)).bind fun body k' _ hk'=>?_
   refine RelZ.ite (fun h=>by rw [isS_to hT (by omega:i≤k)]) (fun _=>RelZ.ok (zr _) id fun _=>rfl) fun _=>?_
   refine RelZ.ite (fun h=>by rw [isS_to hT h]) (fun _=>RelZ.ok (zr _) id fun _=>rfl) fun hs=>?_
   refine RelZ.ite (fun _=>Iff.rfl) (fun _=>RelZ.e121 fun e=>hs (by unfold isS;simp [e])) fun _=>?_
   refine RelZ.weak (j:=k'+1) ?_ (by omega) (isS_nx hN hs);refine RelZ.ite (fun h=>by rw [isS_to hT h]) (fun hf=>(ih g (k'+1) (o+1) (by omega) (by omega) (fun e=>by unfold isS at hf;simp [e] at hf)).map fun _=>rfl) fun _=>(block_to hN hT hk hS hM (k'+1) (o+1) (by omega)).map fun _=>rfl
  intro g i o hg h0 hk4
  cases g with
  | zero=>exact (step (k+1) i o (by omega) h0 hk4).any (by omega) _
  | succ g=>exact step g i o hg h0 hk4
theorem stmt_to:∀ (f g i o:Nat),k < i+g→RelZ l k i (zan l f i o) (zan m g i o):=by
 intro f
 induction f with
 | zero=>intro g i o _;exact RelZ.e0
 | succ f ih =>
  have step:∀ (g i o:Nat),k < i+(g+1)→RelZ l k i (zan l (f+1) i o) (zan m (g+1) i o):=by
   intro g i o hg;rw [zan,zan];refine RelZ.ite (fun h=>by rw [hT i h]) (fun _=>RelZ.e120) fun hk1=>?_
   have hk2:i < l.length→i+1 < l.length:=kind_nx hN (Decidable.not_not.1 hk1) (by decide);refine RelZ.ite (fun h=>by rw [hT i h]) (fun _=>?_) fun _=>?_
   ·refine ((inside_to hN hT (exprT_to hN hT hk 0) (i:=i+1) o _ _ 1 (by omega)).bind fun xs j _ hj=>?_).weak (by omega) hk2;exact (value_to hN hT hk j o).map fun h=>by rw [hT i (by omega)]
   refine RelZ.ite (fun h=>by rw [hT i h]) (fun _=>?_) fun _=>?_
   ·refine RelZ.weak (j:=i+1) ?_ (by omega) hk2;exact RelZ.ite (fun h=>by rw [isS_to hT h]) (fun _=>RelZ.e120) fun hs=>RelZ.ok (by omega) (isS_nx hN hs) fun h=>by rw [hT i (by omega)]
   refine RelZ.ite (fun h=>by rw [hT i h]) (fun _=>?_) fun _=>?_
   ·exact branch_to hN hT hk (i0:=i+1) (fun a b h=>ih g a b (by omega)) (zdK l f) _ _ i o (by omega) (zr _) (by rw [Decidable.not_not.1 hk1];decide)
   refine RelZ.ite (fun h=>by rw [hT i h]) (fun _=>?_) fun _=>?_
   ·refine RelZ.weak (j:=i+1) ?_ (by omega) hk2;refine RelZ.ite (fun h=>by rw [hT (i+1) h]) (fun _=>RelZ.e120) fun hk3=>?_
    exact ((value_to hN hT hk (i+2) o).map fun h=>by rw [hT (i+1) (by omega)]).weak (by omega) (kind_nx hN (Decidable.not_not.1 fun e=>hk3 (.inl e)) (by decide))
   refine RelZ.ite (fun h=>by rw [hT i h]) (fun _=>RelZ.e120) fun _=>?_
   exact ((value_to hN hT hk (i+1) o).map fun h=>by rw [hT i (by omega)]).weak (by omega) hk2
  intro g i o hg
  cases g with
  | zero=>exact (step (k+1) i o (by omega)).any (by omega) _
  | succ g=>exact step g i o hg
theorem all_to:∀ (f g:Nat) (xs:List St) (i:Nat),k < i+g→RelZ l k i (allS l f xs i) (allS m g xs i):=by
 intro f
 induction f with
 | zero=>intro g xs i _;exact RelZ.e0
 | succ f ih =>
  have step:∀ (g:Nat) (xs:List St) (i:Nat),k < i+(g+1)→RelZ l k i (allS l (f+1) xs i) (allS m (g+1) xs i):=by
   intro g xs i hg;rw [allS,allS];refine RelZ.ite (fun h=>by rw [hT i h]) (fun _=>RelZ.ok (zr _) id fun _=>rfl) fun _=>?_
   refine (show RelZ l k i (zcJ l i 0) (zcJ m i 0) from stmt_to hN hT hk _ _ i 0 (by omega)).bind fun x j e hj=>ih g _ j ?_
   have:=zdK l _ _ _ _ _ e;omega
  intro g xs i hg
  cases g with
  | zero=>exact (step (k+1) xs i (by omega)).any (by omega) _
  | succ g=>exact step g xs i hg
end
theorem first_wrong {l m:List Tok} (hN:∀ i,i < l.length→(zaa l i).kind≠4→i+1 < l.length) {k:Nat} {c:Int} (h:allS l (l.length+1) [] 0=.err k c) (hc:c≠0) (hT:∀ i,i≤k→zaa m i=zaa l i) (hk:k < m.length):allS m (m.length+1) [] 0=.err k c:=by
 have:=(all_to hN hT hk (l.length+1) (m.length+1) [] 0 (by omega)).same (by rw [h];exact zr _) (fun a e=>by rw [h] at e;injection e with _ e;exact hc e);rw [this,h]
theorem wrong_in {l:List Tok} (hN:∀ i,i < l.length→(zaa l i).kind≠4→i+1 < l.length) (h0:0 < l.length) {k:Nat} {c:Int} (h:allS l (l.length+1) [] 0=.err k c):k < l.length∧(c=121→(zaa l k).kind≠4):=by
 have H:=all_to (l:=l) (m:=l) (k:=0) hN (fun _ _=>rfl) h0 (l.length+1) (l.length+1) [] 0 (by omega);rw [h] at H;exact ⟨H.inb h0,fun e=>H.deep k (by rw [e])⟩
end Go.Proofs.YtoaojdobjinhfaaGreatDoor
