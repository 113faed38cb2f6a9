/- What the reference's parser gives is small and can be read. Plain mathematics. -/
import Derived.Test.YtoaojdobjinhfaaGreatDoorRLexPz
import Derived.Lib.ItoaLen
set_option linter.unusedSimpArgs false
set_option linter.unusedVariables false
namespace Go.Proofs.YtoaojdobjinhfaaGreatDoor
theorem PR.po_bind{α β:Type}{r:PR α}{f:α->Nat->PR β}{y:β}{k:Nat}(h:r.andThen f=.ok y k):∃x j,r=.ok x j/\f x j=.ok y k:=by
 cases r with
 | ok x j=>exact⟨x,j,rfl,h⟩
 | err i c=>cases h
theorem PR.po_map{α β:Type}{r:PR α}{f:α->β}{y:β}{k:Nat}(h:r.map f=.ok y k):∃x,r=.ok x k/\f x=y:=by
 cases r with
 | ok x j=>cases h;exact⟨x,rfl,rfl⟩
 | err i c=>cases h
theorem zi4(s:List UInt8):∀(l:List (List UInt8)) (k:Nat),zai s l k<=l.length+k:=by
 intro l
 induction l with
 | nil=>intro k;rw[zai];omega
 | cons x r ih =>
  intro k;rw[zai,yB];split
  ·omega
  ·have:=ih (k+1);omega
structure TOk (l : List Tok) (K : Nat) : Prop where
  num : ∀ i, okI (zaa l i).n
  len : ∀ i, (zaa l i).text.length <= 9223372036854775807
  wide : ∀ i, (zaa l i).kind = 1 -> 1 + (zaa l i).text.length / 30 <= K
  pos : 1 <= K
theorem zkj(l:List Tok)(i:Nat):za3 l i<=13:=by
 unfold za3;split
 ·exact zi4 _ signWords 0
 ·omega
/-! what a zfe list's tokens are like -/
/-! the parser stays inside the list -/
theorem zdA{l:List Tok}{i:Nat}(h:(zaa l i).kind≠4):i<l.length:=by
 by_cases hi:i<l.length
 ·exact hi
 ·exfalso;apply h;unfold zaa;rw[List.getD_eq_getElem?_getD,List.getElem?_eq_none (by omega)];rfl
theorem zbU{l:List Tok}{i:Nat}{s:List UInt8}(h:¬isS l i s=false):i<l.length:=by
 apply zdA;intro e;apply h;unfold isS;rw[e];simp
def zcj (l : List Tok) (E : Nat -> Nat -> Nat -> PR Ex) : Prop := ∀ i o q x j, E i o q = .ok x j -> j <= l.length
def zgr (l : List Tok) (S : Nat -> Nat -> PR St) : Prop := ∀ i o x j, S i o = .ok x j -> j <= l.length
theorem zgs{l:List Tok}{E:Nat->Nat->Nat->PR Ex}(m:zcj l E):∀(f:Nat) (x:Ex) (i o q:Nat) (y:Ex) (j:Nat),zaD l E f x i o q=.ok y j->i<=l.length->j<=l.length:=by
 intro f
 induction f with
 | zero=>intro x i o q y j h;cases h
 | succ f ih =>
  intro x i o q y j h hi;rw[zaD] at h;split at h
  ·cases h;exact hi
  ·obtain⟨z,u,g,d⟩:=PR.po_bind h;split at d
   ·cases d
   ·exact ih _ _ _ _ _ _ d (m _ _ _ _ _ g)
theorem zkk{l:List Tok}{E:Nat->Nat->Nat->PR Ex}(o:Nat)(stop:List UInt8):∀(m:Nat) (xs:List Ex) (i:Nat) (ys:List Ex) (j:Nat),zav l E o stop m xs i=.ok ys j->j<=l.length:=by
 intro m
 induction m with
 | zero =>
  intro xs i ys j h;rw[zav] at h;split at h
  ·rename_i hs
   cases h;exact zbU (s:=stop) (by rw[hs];decide)
  ·cases h
 | succ m ih =>
  intro xs i ys j h;rw[zav] at h;split at h
  ·obtain⟨z,f,g,d⟩:=PR.po_bind h;exact ih _ _ _ _ d
  ·split at h
   ·cases h
   ·obtain⟨z,f,g,d⟩:=PR.po_bind h;exact ih _ _ _ _ d
theorem zdL{l:List Tok}{E:Nat->Nat->Nat->PR Ex}{i o:Nat}{a b:List UInt8}{m:Nat}{ys:List Ex}{j:Nat}(h:zad l E i o a b m=.ok ys j):j<=l.length:=by
 unfold zad at h;obtain⟨u,f,g,d⟩:=PR.po_bind h;exact zkk _ _ _ _ _ _ _ d
theorem zhx {l:List Tok} {E:Nat->Nat->Nat->PR Ex} {i o:Nat} {x:Ex} {j:Nat} (h:zah l E i o=.ok x j):j<=l.length:=by
 unfold zah at h;split at h
 ·rename_i hk
  cases h;exact zdA (by rw[hk];decide)
 ·split at h
  ·obtain⟨xs,m,f,g⟩:=PR.po_bind h;have:=zdL f
   cases xs with
   | nil=>cases g
   | cons y r=>cases g;exact this
  ·split at h
   ·cases h
   ·rename_i hk
    have d:i<l.length:=zdA (by rw[Classical.byContradiction hk];decide);split at h
    ·obtain⟨xs,f,rfl⟩:=PR.po_map h;exact zdL f
    ·split at h
     ·obtain⟨xs,f,rfl⟩:=PR.po_map h;exact zdL f
     ·split at h
      ·cases h;exact d
      ·split at h
       ·cases h;exact d
       ·split at h
        ·cases h
        ·cases h;exact d
theorem zcD{l:List Tok}{E:Nat->Nat->Nat->PR Ex}:∀(f i o:Nat) (x:Ex) (j:Nat),zas l E f i o=.ok x j->j<=l.length:=by
 intro f
 induction f with
 | zero=>intro i o x j h;cases h
 | succ f ih =>
  intro i o x j h;rw[zas] at h;split at h
  ·exact zhx h
  ·split at h
   ·cases h
   ·obtain⟨y,d,rfl⟩:=PR.po_map h;exact ih _ _ _ _ d
theorem zc3(l:List Tok):∀f,zcj l (zaw l f):=by
 intro f
 induction f with
 | zero=>intro i o q x j h;cases h
 | succ f ih =>
  intro i o q x j h;rw[zaw] at h;obtain⟨y,m,g,d⟩:=PR.po_bind h;exact zgs ih _ _ _ _ _ _ _ d (zcD _ _ _ _ _ g)
theorem zej{l:List Tok}{i o:Nat}{x:Ex}{j:Nat}(h:zaz l i o=.ok x j):j<=l.length:=by
 unfold zaz at h;split at h
 ·cases h
 ·obtain⟨y,f,g,d⟩:=PR.po_bind h;split at d
  ·cases d
  ·rename_i hs
   cases d;exact zbU hs
theorem zi5{l:List Tok}{S:Nat->Nat->PR St}(o:Nat):∀(f:Nat) (xs:List St) (i:Nat) (ys:List St) (j:Nat),zaX l S o f xs i=.ok ys j->j<=l.length:=by
 intro f
 induction f with
 | zero=>intro xs i ys j h;cases h
 | succ f ih =>
  intro xs i ys j h;rw[zaX] at h;split at h
  ·rename_i hs
   cases h;exact zbU (s:=[125]) (by rw[hs];decide)
  ·obtain⟨z,g,m,d⟩:=PR.po_bind h;exact ih _ _ _ _ d
theorem zfx{l:List Tok}{S:Nat->Nat->PR St}{i o:Nat}{ys:List St}{j:Nat}(h:zaB l S i o=.ok ys j):j<=l.length:=by
 unfold zaB at h;obtain⟨u,f,g,d⟩:=PR.po_bind h;exact zi5 _ _ _ _ _ _ d
theorem zip{l:List Tok}{S:Nat->Nat->PR St}:∀(f i o:Nat) (x:St) (j:Nat),zau l S f i o=.ok x j->j<=l.length:=by
 intro f
 induction f with
 | zero=>intro i o x j h;cases h
 | succ f ih =>
  intro i o x j h;rw[zau] at h;obtain⟨c,z,v,q⟩:=PR.po_bind h;obtain⟨b,w,u,d⟩:=PR.po_bind q;have m:=zfx u;split at d
  ·cases d;exact m
  ·split at d
   ·cases d;exact m
   ·split at d
    ·cases d
    ·split at d
     ·obtain⟨y,g,rfl⟩:=PR.po_map d;exact ih _ _ _ _ g
     ·obtain⟨y,g,rfl⟩:=PR.po_map d;exact zfx g
theorem zgt(l:List Tok):∀f,zgr l (zan l f):=by
 intro f
 induction f with
 | zero=>intro i o x j h;cases h
 | succ f ih =>
  intro i o x j h;rw[zan] at h;split at h
  ·cases h
  ·split at h
   ·obtain⟨xs,m,q,g⟩:=PR.po_bind h;obtain⟨y,d,rfl⟩:=PR.po_map g;exact zej d
   ·split at h
    ·split at h
     ·cases h
     ·rename_i hs
      cases h;exact zbU hs
    ·split at h
     ·exact zip _ _ _ _ _ h
     ·split at h
      ·split at h
       ·cases h
       ·obtain⟨y,d,rfl⟩:=PR.po_map h;exact zej d
      ·split at h
       ·cases h
       ·obtain⟨y,d,rfl⟩:=PR.po_map h;exact zej d
def zbl (l : List Tok) (D : Nat -> Nat -> PR Ex) (s : Nat) : Nat -> Ex -> Nat -> Nat -> PR Ex
  | 0, _, i, _ => .err i 0
  | f + 1, x, i, o =>
    if zaj l i ≠ s then .ok x i
    else (D (i + 1) o).andThen fun y j => if s = 3 then .ok (.mk (9 + za3 l i) 0 [] [x, y]) j else zbl l D s f (.mk (9 + za3 l i) 0 [] [x, y]) j o
def zbp (l : List Tok) (E : Nat -> Nat -> PR Ex) : Nat -> Nat -> Nat -> PR Ex
  | 0, i, o => zas l (fun i o _ => E i o) (l.length + 1 - i) i o
  | d + 1, i, o => (zbp l E d i o).andThen fun x j => zbl l (zbp l E d) (5 - d) (l.length + 1 - j) x j o
def zbI (l : List Tok) : Nat -> Nat -> Nat -> PR Ex
  | 0, i, _ => .err i 0
  | f + 1, i, o => zbp l (zbI l f) 5 i o
def zbv (l : List Tok) (i o : Nat) : PR Ex := zbI l (l.length + 1 - i) i o

def RelX (l : List Tok) (R P : PR Ex) : Prop := P = R ∨ ∃ x j, P = .ok x j /\ R = .err j 120 /\ zaj l j = 3
def EMon (E : Nat -> Nat -> Nat -> PR Ex) : Prop := ∀ i o q x j, E i o q = .ok x j -> i < j

theorem PR.bind_ok{α β:Type}{r:PR α}{f:α->Nat->PR β}{y:β}{k:Nat}(h:r.andThen f=.ok y k):∃x j,r=.ok x j/\f x j=.ok y k:=by
 cases r with
 | ok x j=>exact⟨x,j,rfl,h⟩
 | err a c=>cases h
theorem PR.map_ok{α β:Type}{r:PR α}{f:α->β}{y:β}{k:Nat}(h:r.map f=.ok y k):∃x,r=.ok x k/\f x=y:=by
 cases r with
 | ok x j=>cases h;exact⟨x,rfl,rfl⟩
 | err a c=>cases h
theorem zfO{l:List Tok}{i:Nat}{s:List UInt8}{o:Nat}{u:Unit}{j:Nat}(h:zay l i s o=.ok u j):j=i+1:=by
 unfold zay at h;split at h
 ·cases h
 ·split at h
  ·cases h
  ·cases h;rfl
theorem ziq{l:List Tok}{E:Nat->Nat->Nat->PR Ex}(g:EMon E):∀(f:Nat) (x:Ex) (i o q:Nat) (y:Ex) (j:Nat),zaD l E f x i o q=.ok y j->i<=j:=by
 intro f
 induction f with
 | zero=>intro x i o q y j h;cases h
 | succ f ih =>
  intro x i o q y j h;simp only[zaD] at h;split at h
  ·cases h;exact zr _
  ·obtain⟨z,k,d,h⟩:=PR.bind_ok h;have m:=g _ _ _ _ _ d;split at h
   ·cases h
   ·have:=ih _ _ _ _ _ _ h;omega
theorem zmz{l:List Tok}{E:Nat->Nat->Nat->PR Ex}(f:EMon E)(o:Nat)(stop:List UInt8):∀(m:Nat) (xs:List Ex) (i:Nat) (ys:List Ex) (j:Nat),zav l E o stop m xs i=.ok ys j->i<j:=by
 intro m
 induction m with
 | zero =>
  intro xs i ys j h;simp only[zav] at h;split at h
  ·cases h;omega
  ·cases h
 | succ m ih =>
  intro xs i ys j h;simp only[zav] at h;split at h
  ·obtain⟨z,k,d,h⟩:=PR.bind_ok h;have g:=f _ _ _ _ _ d;have:=ih _ _ _ _ h;omega
  ·split at h
   ·cases h
   ·obtain⟨z,k,d,h⟩:=PR.bind_ok h;have g:=f _ _ _ _ _ d;have:=ih _ _ _ _ h;omega
theorem zb2{l:List Tok}{E:Nat->Nat->Nat->PR Ex}(f:EMon E){i o:Nat}{a b:List UInt8}{m:Nat}{ys:List Ex}{j:Nat}(h:zad l E i o a b m=.ok ys j):i<j:=by
 obtain⟨u,k,d,h⟩:=PR.bind_ok h;have q:=zfO d;have g:=zmz f _ _ _ _ _ _ _ h;omega
theorem zi6 {l:List Tok} {E:Nat->Nat->Nat->PR Ex} (f:EMon E) {i o:Nat} {x:Ex} {j:Nat} (h:zah l E i o=.ok x j):i < j:=by
 unfold zah at h;split at h
 ·cases h;omega
 ·split at h
  ·obtain⟨xs,k,g,h⟩:=PR.bind_ok h;have:=zb2 f g
   cases xs with
   | nil=>cases h
   | cons z r=>cases h;exact this
  ·split at h
   ·cases h
   ·split at h
    ·obtain⟨y,d,-⟩:=PR.map_ok h;have:=zb2 f d;omega
    ·split at h
     ·obtain⟨y,d,-⟩:=PR.map_ok h;have:=zb2 f d;omega
     ·split at h
      ·cases h;omega
      ·split at h
       ·cases h;omega
       ·split at h
        ·cases h
        ·cases h;omega
theorem zd5{l:List Tok}{E:Nat->Nat->Nat->PR Ex}(g:EMon E):∀(f i o:Nat) (x:Ex) (j:Nat),zas l E f i o=.ok x j->i<j:=by
 intro f
 induction f with
 | zero=>intro i o x j h;cases h
 | succ f ih =>
  intro i o x j h;simp only[zas] at h;split at h
  ·exact zi6 g h
  ·split at h
   ·cases h
   ·obtain⟨y,d,-⟩:=PR.map_ok h;have:=ih _ _ _ _ d;omega
theorem zdc(l:List Tok):∀f,EMon (zaw l f):=by
 intro f
 induction f with
 | zero=>intro i o q x j h;cases h
 | succ f ih =>
  intro i o q x j h;simp only[zaw] at h;obtain⟨z,k,d,h⟩:=PR.bind_ok h;have m:=zd5 ih _ _ _ _ _ d;have g:=ziq ih _ _ _ _ _ _ _ h;omega
theorem zgO{l:List Tok}{j:Nat}(h:zaj l j=3){s:List UInt8}(d:s=[41]∨s=[93]∨s=[44]∨s=[59]):isS l j s=false:=by
 cases hc:isS l j s with
 | false=>rfl
 | true =>
  unfold isS at hc;simp only[yC,yQ] at hc;unfold zaj za3 at h;split at h
  ·rw[hc.2] at h;rcases d with rfl|rfl|rfl|rfl <;> exact absurd h (by decide)
  ·exact absurd h (by decide)
def zeB (s : List UInt8) : Prop := s = [41] ∨ s = [93]
def Alike3 (l : List Tok) (i : Nat) (E F : Nat -> Nat -> Nat -> PR Ex) : Prop := ∀ i' o, i < i' -> RelX l (E i' o 1) (F i' o 1)
theorem Alike3.mono{l:List Tok}{i j:Nat}{E F:Nat->Nat->Nat->PR Ex}(h:Alike3 l i E F)(d:i<=j):Alike3 l j E F:=fun i' o hi=>h i' o (by omega)
theorem zng{l:List Tok}{E F:Nat->Nat->Nat->PR Ex}(o:Nat){stop:List UInt8}(w:zeB stop)(v:EMon E):∀(m:Nat) (xs:List Ex) (i:Nat),Alike3 l i E F->(xs=[]->RelX l (E i (o+1) 1) (F i (o+1) 1))->zav l E o stop m xs i=zav l F o stop m xs i:=by
 intro m
 induction m with
 | zero=>intro xs i _ _;rfl
 | succ m ih =>
  intro xs i u hi
  have d:∀(ys:List Ex) (z:Ex) (j:Nat),zaj l j=3->zav l F o stop m (ys++[z]) j=.err j 120:=by
   intro ys z j f
   cases m with
   | zero=>simp only[zav];rw[zgO f (w.elim .inl (fun h=>.inr (.inl h)))];rfl
   | succ m=>simp only[zav];rw[yN (by simp),zgO f (.inr (.inr (.inl rfl)))];rfl
  simp only[zav];split
  ·rename_i hx
   rcases hi hx with h|⟨z,j,q,g,f⟩
   ·rw[h]
    cases hr:E i (o+1) 1 with
    | ok z j =>
     have:=v _ _ _ _ _ hr
     exact ih _ _ (u.mono (by omega)) (fun h=>by cases h)
    | err a c=>rfl
   ·rw[q,g];exact(d [] z j f).symm
  ·split
   ·rfl
   ·rcases u (i+1) (o+1) (by omega) with h|⟨z,j,q,g,f⟩
    ·rw[h]
     cases hr:E (i+1) (o+1) 1 with
     | ok z j =>
      have:=v _ _ _ _ _ hr
      exact ih _ _ (u.mono (by omega)) (fun h=>by simp at h)
     | err a c=>rfl
    ·rw[q,g];exact(d xs z j f).symm
theorem zd6{l:List Tok}{E F:Nat->Nat->Nat->PR Ex}{i:Nat}(o:Nat)(a:List UInt8){stop:List UInt8}(m:Nat)(f:zeB stop)(g:EMon E)(d:Alike3 l i E F):zad l E i o a stop m=zad l F i o a stop m:=by
 unfold zad
 cases hr:zay l i a o with
 | ok u j =>
  have:=zfO hr;subst this
  exact zng o f g m [] (i+1) (d.mono (by omega)) (fun _=>d (i+1) (o+1) (by omega))
 | err a c=>rfl
theorem zkl{l:List Tok}{E F:Nat->Nat->Nat->PR Ex}{i:Nat}(o:Nat)(d:EMon E)(f:Alike3 l i E F):zah l E i o=zah l F i o:=by
 unfold zah;rw[zd6 o [40] 1 (.inl rfl) d f,zd6 o [91] 1 (.inr rfl) d (f.mono (Nat.le_succ i)),zd6 o [40] _ (.inl rfl) d (f.mono (Nat.le_succ i))]
theorem zmA{l:List Tok}{E F:Nat->Nat->Nat->PR Ex}(g:EMon E):∀(f i o:Nat),Alike3 l i E F->zas l E f i o=zas l F f i o:=by
 intro f
 induction f with
 | zero=>intro i o _;rfl
 | succ f ih =>
  intro i o d;simp only[zas];rw[zkl o g d,ih (i+1) (o+1) (d.mono (Nat.le_succ i))]
theorem ze2{l:List Tok}{E:Nat->Nat->Nat->PR Ex}(w:EMon E)(d:zcj l E):∀(f g:Nat) (x:Ex) (i o q:Nat),l.length+1-i<=f->l.length+1-i<=g->i<=l.length->zaD l E f x i o q=zaD l E g x i o q:=by
 intro f
 induction f with
 | zero=>intro g x i o q v m u;omega
 | succ f ih =>
  intro g x i o q v m u
  cases g with
  | zero=>omega
  | succ g =>
   simp only[zaD];split
   ·rfl
   ·cases hr:E (i+1) o (zaj l i+1) with
    | err a c=>rfl
    | ok y j =>
     have a1:=w _ _ _ _ _ hr;have a2:=d _ _ _ _ _ hr;simp only[PR.andThen];split
     ·rfl
     ·exact ih g _ j o q (by omega) (by omega) a2
theorem zkm{l:List Tok}{E:Nat->Nat->Nat->PR Ex}(w:EMon E)(g:zcj l E)(o q:Nat):∀(f:Nat) (x:Ex) (i:Nat),l.length+1-i<=f->i<=l.length ->
  zaD l E f x i o q=(zaD l E f x i o (q+1)).andThen fun x' i'=>zaD l E (l.length+1-i') x' i' o q:=by
 intro f
 induction f with
 | zero=>intro x i u m;omega
 | succ f ih =>
  intro x i u m;obtain⟨n,A⟩:∃n,l.length+1-i=n+1:=⟨l.length-i,by omega⟩;by_cases v:zaj l i<q∨zaj l i=0
  ·have d:zaj l i<q+1∨zaj l i=0:=by omega
   simp only[zaD,yP v,yP d,PR.andThen,A]
  ·by_cases B:zaj l i=q
   ·have d:zaj l i<q+1∨zaj l i=0:=by omega
    have z:zaD l E (f+1) x i o (q+1)=.ok x i:=by simp only[zaD,yP d]
    rw[z];exact ze2 w g _ _ _ _ _ _ u (zr _) m
   ·have d:¬(zaj l i<q+1∨zaj l i=0):=by omega
    simp only[zaD,yN v,yN d]
    cases hr:E (i+1) o (zaj l i+1) with
    | err a c=>rfl
    | ok y j =>
     have a1:=w _ _ _ _ _ hr;have a2:=g _ _ _ _ _ hr;simp only[PR.andThen];split
     ·rfl
     ·exact ih _ j (by omega) a2
theorem ze3{l:List Tok}{i:Nat}(h:zaj l i≠0):i<l.length:=by
 refine Nat.lt_of_not_le fun hle=>h ?_
 have e:zaa l i={ kind:=4,text:=[],n:=0,line:=0,col:=0 }:=by unfold zaa;rw[List.getD_eq_getElem?_getD,List.getElem?_eq_none hle];rfl
 unfold zaj za3;rw[e];rfl
theorem zi7(l:List Tok)(i:Nat):zaj l i<=5:=by
 unfold zaj;have:=zkj l i
 generalize za3 l i=k at *
 have:k=0∨k=1∨k=2∨k=3∨k=4∨k=5∨k=6∨k=7∨k=8∨k=9∨k=10∨k=11∨k=12∨k=13:=by omega
 rcases this with rfl|rfl|rfl|rfl|rfl|rfl|rfl|rfl|rfl|rfl|rfl|rfl|rfl|rfl <;> decide
def LRel (l : List Tok) (q : Nat) (R P : PR Ex) : Prop :=
  (P = R /\ ∀ x j, P = .ok x j -> zaj l j < q ∨ zaj l j = 0) ∨ (q <= 3 /\ ∃ x j, P = .ok x j /\ R = .err j 120 /\ zaj l j = 3)
theorem LRel.relx{l:List Tok}{q:Nat}{R P:PR Ex}(h:LRel l q R P):RelX l R P:=h.elim (fun h=>.inl h.1) (fun h=>.inr h.2)
theorem zkn{l:List Tok}{E:Nat->Nat->Nat->PR Ex}{D:Nat->Nat->PR Ex}(G:EMon E)(B:zcj l E)(o s i0:Nat)(R:1<=s)(H:∀i',i0<i'->LRel l (s+1) (E i' o (s+1)) (D i' o)) :
  ∀(F:Nat) (x:Ex) (j:Nat),i0<j->j<=l.length->l.length+1-j<=F->(zaj l j<s+1∨zaj l j=0)->LRel l s (zaD l E (l.length+1-j) x j o s) (zbl l D s F x j o):=by
 intro F
 induction F with
 | zero=>intro x j N I Q;omega
 | succ F ih =>
  intro x j N I Q S;obtain⟨n,O⟩:∃n,l.length+1-j=n+1:=⟨l.length-j,by omega⟩;rw[O];by_cases i:zaj l j=s
  ·have d:¬(zaj l j<s∨zaj l j=0):=by omega
   have J:j<l.length:=ze3 (by omega);simp only[zaD,zbl,yN d];rw[yN (by simpa using i)];rw[i];rcases H (j+1) (by omega) with⟨L,ht⟩|⟨P,y,m,M,u,v⟩
   ·rw [L] at ht ⊢
    cases hr:E (j+1) o (s+1) with
    | err a c=>exact .inl ⟨rfl,fun x j h=>by cases h⟩
    | ok y m =>
     have a1:=G _ _ _ _ _ hr;have a2:=B _ _ _ _ _ hr;have K:=ht y m hr;simp only[PR.andThen];by_cases f:s=3
     ·subst f;rw[yP rfl];by_cases z:zaj l m=3
      ·rw[yP ⟨rfl,z⟩];exact .inr ⟨by omega,_,m,rfl,rfl,z⟩
      ·rw[yN (fun h=>z h.2)];have g:zaj l m<3∨zaj l m=0:=by omega
       obtain⟨C,w⟩:∃C,n=C+1:=⟨n-1,by omega⟩;rw[w];simp only[zaD,yP g];exact .inl ⟨rfl,fun x j h=>by cases h;exact g⟩
     ·rw[yN f,yN (fun h=>f h.1),ze2 G B n (l.length+1-m) _ m o s (by omega) (zr _) a2];exact ih _ m (by omega) a2 (by omega) K
   ·rw[u,M];simp only[PR.andThen];rw[yN (by omega)];obtain⟨A,q⟩:∃A,F=A+1:=⟨F-1,by omega⟩;rw[q];simp only[zbl];rw[yP (by omega)];exact .inr ⟨by omega,_,m,rfl,rfl,v⟩
  ·have d:zaj l j<s∨zaj l j=0:=by omega
   simp only[zaD,zbl,yP d];rw[yP i];exact .inl ⟨rfl,fun x j h=>by cases h;exact d⟩
theorem ze4(l:List Tok)(f i o q:Nat)(h:l.length+1-i<=f):zaw l f i o q=(zas l (zaw l (f-1)) (l.length+1-i) i o).andThen fun x j=>zaD l (zaw l (f-1)) (l.length+1-j) x j o q:=by
 cases f with
 | zero =>
  have:l.length+1-i=0:=by omega
  rw[this];rfl
 | succ f=>rfl
theorem ze5(l:List Tok)(E:Nat->Nat->PR Ex)(i o:Nat)(h:l.length+1-i=0):∀d,zbp l E d i o=.err i 0:=by
 intro d
 induction d with
 | zero=>simp only[zbp,h];rfl
 | succ d ih=>simp only[zbp,ih];rfl
theorem zeC(l:List Tok)(g i o:Nat)(h:l.length+1-i<=g):zbI l g i o=zbp l (zbI l (g-1)) 5 i o:=by
 cases g with
 | zero=>rw[ze5 l _ i o (by omega)];rfl
 | succ g=>rfl
theorem zmB(l:List Tok):∀(n i:Nat),l.length+1-i<=n->∀(f g o:Nat),l.length+1-i<=f+1->l.length+1-i<=g+1->∀d,d<=5 ->
  LRel l (6-d) ((zas l (zaw l f) (l.length+1-i) i o).andThen fun x j=>zaD l (zaw l f) (l.length+1-j) x j o (6-d)) (zbp l (zbI l g) d i o):=by
 intro n
 induction n with
 | zero =>
  intro i P f g o I F d z;have u:l.length+1-i=0:=by omega
  rw[ze5 l _ i o u,u]
  exact .inl ⟨rfl,fun x j h=>by cases h⟩
 | succ n ihn =>
  intro i P f g o I F;by_cases hi:i<=l.length
  ·have w:EMon (zaw l f):=zdc l f;have C:zcj l (zaw l f):=zc3 l f
   have J:∀i',i<i'->∀o d,d<=5->LRel l (6-d) (zaw l f i' o (6-d)) (zbp l (zbI l g) d i' o):=by
    intro i' hi' o d z;rw[ze4 l f i' o _ (by omega)];exact ihn i' (by omega) (f-1) g o (by omega) (by omega) d z
   have N:Alike3 l i (zaw l f) (fun i o _=>zbI l g i o):=by
    intro i' y hi';show RelX l _ (zbI l g i' y);rw[zeC l g i' y (by omega),ze4 l f i' y 1 (by omega)];exact(ihn i' (by omega) (f-1) (g-1) y (by omega) (by omega) 5 (zr _)).relx
   intro d
   induction d with
   | zero =>
    intro _;have O:=zmA w (l.length+1-i) i o N;simp only[zbp];rw[<-O]
    cases q:zas l (zaw l f) (l.length+1-i) i o with
    | err a c=>exact .inl ⟨rfl,fun x j h=>by cases h⟩
    | ok x j =>
     have a2:=zcD _ _ _ _ _ q;have E:zaj l j<6∨zaj l j=0:=.inl (by have:=zi7 l j;omega);obtain⟨k,A⟩:∃k,l.length+1-j=k+1:=⟨l.length-j,by omega⟩;simp only[PR.andThen,A,zaD];rw[yP E]
     exact .inl ⟨rfl,fun x j h=>by cases h;exact E⟩
   | succ d ihd =>
    intro z;have M:=ihd (by omega)
    have m:=zkn w C o (5-d) i (by omega) (D:=zbp l (zbI l g) d) (fun i' hi'=>by
     have:=J i' hi' o d (by omega);rw[show 6-d=5-d+1 by omega] at this
     exact this)
    have B:((zas l (zaw l f) (l.length+1-i) i o).andThen fun x j=>zaD l (zaw l f) (l.length+1-j) x j o (6-(d+1)))=((zas l (zaw l f) (l.length+1-i) i o).andThen fun x j=>zaD l (zaw l f) (l.length+1-j) x j o (6-d)).andThen fun x' i'=>zaD l (zaw l f) (l.length+1-i') x' i' o (5-d):=by
     cases q:zas l (zaw l f) (l.length+1-i) i o with
     | err a c=>rfl
     | ok x j =>
      have a2:=zcD _ _ _ _ _ q;simp only[PR.andThen];rw[show 6-(d+1)=5-d by omega,show 6-d=5-d+1 by omega];exact zkm w C o (5-d) _ x j (zr _) a2
    rw[B];simp only[zbp];rw[show 6-(d+1)=5-d by omega];rcases M with⟨L,ht⟩|⟨U,x,j,H,Q,R⟩
    ·rw[L] at ht ⊢
     cases hr:((zas l (zaw l f) (l.length+1-i) i o).andThen fun x j=>zaD l (zaw l f) (l.length+1-j) x j o (6-d)) with
     | err a c=>exact .inl ⟨rfl,fun x j h=>by cases h⟩
     | ok x j =>
      have V:=ht x j hr;obtain⟨x',T,q,v⟩:=PR.bind_ok hr;have W:=zd5 w _ _ _ _ _ q;have b2:=ziq w _ _ _ _ _ _ _ v;have K:=zcD _ _ _ _ _ q;have S:=zgs C _ _ _ _ _ _ _ v K;simp only[PR.andThen];exact m _ x j (by omega) S (zr _) (by omega)
    ·rw[H,Q];simp only[PR.andThen];have G:j<l.length:=ze3 (by omega);obtain⟨k,A⟩:∃k,l.length+1-j=k+1:=⟨l.length-j,by omega⟩;rw[A];simp only[zbl];rw[yP (by omega)];exact .inr ⟨by omega,x,j,rfl,rfl,R⟩
  ·intro d z;have u:l.length+1-i=0:=by omega
   rw[ze5 l _ i o u,u];exact .inl ⟨rfl,fun x j h=>by cases h⟩
theorem zfP(l:List Tok)(i o:Nat):RelX l (zaA l i o 1) (zbv l i o):=by
 unfold zaA zbv;rw[ze4 l _ i o 1 (zr _),zeC l _ i o (zr _)];exact(zmB l _ i (zr _) _ _ o (by omega) (by omega) 5 (zr _)).relx
theorem zb3(l:List Tok):EMon (zaA l):=fun _ _ _ _ _ h=>zdc l _ _ _ _ _ _ h
theorem zi8(l:List Tok)(i:Nat):Alike3 l i (zaA l) (fun i o _=>zbv l i o):=fun i' o _=>zfP l i' o
theorem znh(l:List Tok)(i o:Nat)(a stop:List UInt8)(m:Nat)(d:zeB stop):zad l (fun i o _=>zbv l i o) i o a stop m=zad l (zaA l) i o a stop m:=(zd6 o a m d (zb3 l) (zi8 l i)).symm
theorem valueP (l : List Tok) (i o : Nat) : (if isS l i ([61] /- = -/) = false then PR.err i 120
  else (zbv l (i + 1) o).andThen fun x j => if isS l j ([59] /- ; -/) = false then .err j 120 else .ok x (j + 1)) = zaz l i o := by
  unfold zaz
  split
  · rfl
  · rcases zfP l (i + 1) o with h | ⟨x, j, f, d, g⟩
    · rw[h]
    · rw [f, d]
      simp only[PR.andThen]
      rw[zgO g (.inr (.inr (.inr rfl)))]
      rfl
def zar (op : Int) : Nat := if 10 <= op /\ op <= 22 then strongs.getD (op - 9).toNat 0 else 6
def zaO (op : Int) : List UInt8 := signWords.getD (op - 10).toNat []
def zaN (p : Nat × List UInt8) (least : Nat) : List UInt8 := if p.1 < least then [40] ++ p.2 ++ [41] else p.2
def zby (n : Nat) : Nat := if n = 3 then 4 else n
def arg0 (ps : List (Nat × List UInt8)) : Nat × List UInt8 := ps.getD 0 (6, [])
def arg1 (ps : List (Nat × List UInt8)) : Nat × List UInt8 := ps.getD 1 (6, [])
def zir (op n : Int) (name : List UInt8) (ps : List (Nat × List UInt8)) : List UInt8 :=
  if zar op < 6 then zaN (arg0 ps) (zby (zar op)) ++ [32] ++ zaO op ++ [32] ++ zaN (arg1 ps) (zar op + 1)
  else if op = 1 then Lib.decDigits n.toNat
  else if op = 2 then name
  else if op = 3 then kindWords.getD (n - 1).toNat [] ++ [91] ++ (arg0 ps).2 ++ [93]
  else if op = 4 then [116, 105, 99, 107]
  else if op = 5 then [115, 101, 108, 102]
  else if op = 6 then [114, 97, 110, 100] ++ [40] ++ (arg0 ps).2 ++ [41]
  else if op = 7 then [45] ++ zaN (arg0 ps) 6
  else if op = 8 then [33] ++ zaN (arg0 ps) 6
  else if op = 9 then [97, 98, 115] ++ [40] ++ (arg0 ps).2 ++ [41]
  else if op = 23 then [109, 105, 110] ++ [40] ++ (arg0 ps).2 ++ [44, 32] ++ (arg1 ps).2 ++ [41]
  else [109, 97, 120] ++ [40] ++ (arg0 ps).2 ++ [44, 32] ++ (arg1 ps).2 ++ [41]
mutual
def zab : Ex -> List UInt8
  | .mk op n name args => zir op n name (zel args)
def zel : List Ex -> List (Nat × List UInt8)
  | [] => []
  | .mk op n name args :: r => (zar op, zir op n name (zel args)) :: zel r
end
def zak (x : Ex) (least : Nat) : List UInt8 := match x with | .mk op _ _ _ => zaN (zar op, zab x) least
def zdM (els : List St) : Bool := match els with | [.mk op _ _ _ _ _] => op == 4 | _ => false
mutual
def oneW (tabs : List UInt8) : St -> List UInt8
  | .mk op n name es body els =>
    let e0 := match es with | x :: _ => zab x | [] => []
    let e1 := match es with | _ :: x :: _ => zab x | _ => []
    if op = 1 then [108, 101, 116, 32] ++ name ++ [32, 61, 32] ++ e0 ++ [59]
    else if op = 2 then name ++ [32, 61, 32] ++ e0 ++ [59]
    else if op = 3 then kindWords.getD (n - 1).toNat [] ++ [91] ++ e0 ++ [93, 32, 61, 32] ++ e1 ++ [59]
    else if op = 6 then [115, 116, 111, 112, 59]
    else if op = 7 then [102, 97, 105, 108, 59]
    else
      let block := [40] ++ e0 ++ [41, 32, 123, 10] ++ zaM (tabs ++ [9]) body ++ tabs ++ [125]
      if op = 5 then [119, 104, 105, 108, 101, 32] ++ block
      else match els with
        | [] => [105, 102, 32] ++ block
        | x :: r => if zdM (x :: r) = true then [105, 102, 32] ++ block ++ [32, 101, 108, 115, 101, 32] ++ oneW tabs x
          else [105, 102, 32] ++ block ++ [32, 101, 108, 115, 101, 32, 123, 10] ++ zaM (tabs ++ [9]) (x :: r) ++ tabs ++ [125]
def zaM (tabs : List UInt8) : List St -> List UInt8
  | [] => []
  | x :: r => tabs ++ oneW tabs x ++ [10] ++ zaM tabs r
end
def zdN (s : List UInt8) : List UInt8 × Int := if 16384 < s.length then ([], 3) else (s, 0)
end Go.Proofs.YtoaojdobjinhfaaGreatDoor
