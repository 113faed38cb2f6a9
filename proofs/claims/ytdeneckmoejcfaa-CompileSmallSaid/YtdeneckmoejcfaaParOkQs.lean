/- What the reference's parser gives is small and can be read. Plain mathematics. -/
import Derived.Test.YtdeneckmoejcfaaRLexZs
import Derived.Test.YtdeneckmoejcfaaRegionQs
import Derived.Lib.ItoaLen
set_option linter.unusedSimpArgs false
set_option linter.unusedVariables false
namespace Go.Proofs.Ytdeneckmoejcfaa
theorem PR.po_bind {α β:Type} {r:PR α} {f:α->Nat->PR β} {y:β} {k:Nat} (h:r.andThen f=.ok y k):∃ x j,r=.ok x j/\f x j=.ok y k:=by
 cases r with
 | ok x j=>exact ⟨x,j,rfl,h⟩
 | err i c=>cases h
theorem PR.po_map {α β:Type} {r:PR α} {f:α->β} {y:β} {k:Nat} (h:r.map f=.ok y k):∃ x,r=.ok x k/\f x=y:=by
 cases r with
 | ok x j=>cases h;exact ⟨x,rfl,rfl⟩
 | err i c=>cases h
theorem zi4 (s:List UInt8):∀ (l:List (List UInt8)) (k:Nat),zai s l k<=l.length+k:=by
 intro l
 induction l with
 | nil=>intro k;rw [zai];omega
 | cons x r ih =>
  intro k;rw [zai,yB];split
  ·omega
  ·have:=ih (k+1);omega
theorem zpD {n:Int} (h0:0<=n) (h1:n<=1000):okI n:=⟨by omega,by omega⟩
structure TOk (l : List Tok) (K : Nat) : Prop where
  num : ∀ i, okI (zaa l i).n
  len : ∀ i, (zaa l i).text.length <= 9223372036854775807
  wide : ∀ i, (zaa l i).kind = 1 -> 1 + (zaa l i).text.length / 30 <= K
  pos : 1 <= K
def zo6 (K : Nat) (E : Nat -> Nat -> Nat -> PR Ex) : Prop := ∀ i o q x j, E i o q = .ok x j -> i < j /\ okE x /\ szE x + K * i <= K * j
theorem zpE {xs ys:List Ex} (h:okEs xs) (g:okEs ys):okEs (xs++ys):=by
 induction xs with
 | nil=>exact g
 | cons x r ih=>exact ⟨h.1,ih h.2⟩
theorem zpF {xs ys:List St} (h:okSs xs) (g:okSs ys):okSs (xs++ys):=by
 induction xs with
 | nil=>exact g
 | cons x r ih=>exact ⟨h.1,ih h.2⟩
theorem zkj (l:List Tok) (i:Nat):za3 l i<=13:=by
 unfold za3;split
 ·exact zi4 _ signWords 0
 ·omega
theorem zrr {l:List Tok} {K:Nat} {E:Nat->Nat->Nat->PR Ex} (hK:1<=K) (hE:zo6 K E):∀ (f:Nat) (x:Ex) (i o q:Nat) (y:Ex) (j:Nat),zaD l E f x i o q=.ok y j->okE x->i<=j/\okE y/\szE y+K * i<=szE x+K * j:=by
 intro f
 induction f with
 | zero=>intro x i o q y j h;cases h
 | succ f ih =>
  intro x i o q y j h hx;rw [zaD] at h;split at h
  ·cases h;exact ⟨zr _,hx,zr _⟩
  ·obtain ⟨z,j1,h1,h2⟩:=PR.po_bind h;obtain ⟨a1,a2,a3⟩:=hE _ _ _ _ _ h1;split at h2
   ·cases h2
   ·have hs:=zkj l i;obtain ⟨b1,b2,b3⟩:=ih _ _ _ _ _ _ h2 ⟨⟨by omega,by omega⟩,⟨by decide,by decide⟩,by decide,hx,a2,trivial⟩;have e1:K * (i+1)=K * i+K:=Nat.mul_succ K i;simp only [szE,szEs,yL] at b3;refine ⟨by omega,b2,by omega⟩
theorem zrs {l:List Tok} {K:Nat} {E:Nat->Nat->Nat->PR Ex} (hK:1<=K) (hE:zo6 K E) (o:Nat) (stop:List UInt8):∀ (m:Nat) (xs:List Ex) (i:Nat) (ys:List Ex) (j:Nat),zav l E o stop m xs i=.ok ys j->okEs xs->i < j/\okEs ys/\szEs ys+K * i<=szEs xs+K * j:=by
 intro m
 induction m with
 | zero =>
  intro xs i ys j h hx;rw [zav] at h;split at h
  ·cases h;have e1:K * (i+1)=K * i+K:=Nat.mul_succ K i;exact ⟨by omega,hx,by omega⟩
  ·cases h
 | succ m ih =>
  intro xs i ys j h hx;rw [zav] at h;split at h
  ·obtain ⟨z,j1,h1,h2⟩:=PR.po_bind h;obtain ⟨a1,a2,a3⟩:=hE _ _ _ _ _ h1;obtain ⟨b1,b2,b3⟩:=ih _ _ _ _ h2 ⟨a2,trivial⟩;simp only [szEs] at b3;exact ⟨by omega,b2,by omega⟩
  ·split at h
   ·cases h
   ·obtain ⟨z,j1,h1,h2⟩:=PR.po_bind h;obtain ⟨a1,a2,a3⟩:=hE _ _ _ _ _ h1;obtain ⟨b1,b2,b3⟩:=ih _ _ _ _ h2 (zpE hx ⟨a2,trivial⟩);have e1:K * (i+1)=K * i+K:=Nat.mul_succ K i;rw [ziA] at b3;simp only [szEs] at b3;exact ⟨by omega,b2,by omega⟩
theorem zoq {l:List Tok} {K:Nat} {E:Nat->Nat->Nat->PR Ex} (hK:1<=K) (hE:zo6 K E) {i o:Nat} {a b:List UInt8} {m:Nat} {ys:List Ex} {j:Nat} (h:zad l E i o a b m=.ok ys j):i < j/\okEs ys/\szEs ys+K * i+K<=K * j:=by
 unfold zad at h;obtain ⟨u,j1,h1,h2⟩:=PR.po_bind h;obtain ⟨b1,b2,b3⟩:=zrs hK hE _ _ _ _ _ _ _ h2 trivial;unfold zay at h1;split at h1
 ·cases h1
 ·split at h1
  ·cases h1
  ·cases h1;have e1:K * (i+1)=K * i+K:=Nat.mul_succ K i;simp only [szEs] at b3;exact ⟨by omega,b2,by omega⟩
theorem zqs (k:Nat):0<=callOps.getD k 0/\callOps.getD k 0<=255:=by
 match k with
 | 0=>decide
 | 1=>decide
 | 2=>decide
 | 3=>decide
 | 4=>decide
 | k+5=>exact ⟨by show (0:Int)<=0;decide,by show (0:Int)<=255;decide⟩
theorem zp6 (s:List UInt8):zap s<=10:=zi4 s kindWords 0
theorem zqt {l:List Tok} {K:Nat} {E:Nat->Nat->Nat->PR Ex} (hT:TOk l K) (hE:zo6 K E) {i o:Nat} {x:Ex} {j:Nat} (h:zah l E i o=.ok x j):i < j/\okE x/\szE x+K * i<=K * j:=by
 have hK:=hT.pos;have e1:K * (i+1)=K * i+K:=Nat.mul_succ K i;have hk:=zp6 (zaa l i).text;have leaf:∀ (op:Int),0<=op->op<=255->i < i+1/\okE (.mk op 0 [] [])/\szE (.mk op 0 [] [])+K * i<=K * (i+1):=fun op h0 h1=>⟨by omega,⟨⟨h0,h1⟩,⟨by decide,by decide⟩,by decide,trivial⟩,by simp only [szE,szEs,yL];omega⟩
 unfold zah at h;split at h
 ·cases h;exact ⟨by omega,⟨⟨by decide,by decide⟩,hT.num i,by decide,trivial⟩,by simp only [szE,szEs,yL];omega⟩
 ·split at h
  ·obtain ⟨xs,j1,h1,h2⟩:=PR.po_bind h;obtain ⟨a1,a2,a3⟩:=zoq hK hE h1
   cases xs with
   | nil=>cases h2
   | cons y r =>
    cases h2;simp only [szEs] at a3;exact ⟨a1,a2.1,by omega⟩
  ·split at h
   ·cases h
   ·split at h
    ·obtain ⟨xs,h1,rfl⟩:=PR.po_map h;obtain ⟨a1,a2,a3⟩:=zoq hK hE h1;have e2:K * (i+1)=K * i+K:=Nat.mul_succ K i;exact ⟨by omega,⟨⟨by decide,by decide⟩,zpD (by omega) (by omega),by decide,a2⟩,by simp only [szE,yL];omega⟩
    ·split at h
     ·obtain ⟨xs,h1,rfl⟩:=PR.po_map h;obtain ⟨a1,a2,a3⟩:=zoq hK hE h1;exact ⟨by omega,⟨zqs _,⟨by decide,by decide⟩,by decide,a2⟩,by simp only [szE,yL];omega⟩
     ·split at h
      ·cases h;exact leaf 4 (by decide) (by decide)
      ·split at h
       ·cases h;exact leaf 5 (by decide) (by decide)
       ·split at h
        ·cases h
        ·rename_i hk1 _ _ _ _ _
         have hw:=hT.wide i (Classical.byContradiction hk1);cases h;exact ⟨by omega,⟨⟨by decide,by decide⟩,⟨by decide,by decide⟩,hT.len i,trivial⟩,by simp only [szE,szEs];omega⟩
theorem zq1 {l:List Tok} {K:Nat} {E:Nat->Nat->Nat->PR Ex} (hT:TOk l K) (hE:zo6 K E):∀ (f i o:Nat) (x:Ex) (j:Nat),zas l E f i o=.ok x j->i < j/\okE x/\szE x+K * i<=K * j:=by
 intro f
 induction f with
 | zero=>intro i o x j h;cases h
 | succ f ih =>
  intro i o x j h;rw [zas] at h;split at h
  ·exact zqt hT hE h
  ·split at h
   ·cases h
   ·obtain ⟨y,h1,rfl⟩:=PR.po_map h;obtain ⟨a1,a2,a3⟩:=ih _ _ _ _ h1;have hK:=hT.pos;have e1:K * (i+1)=K * i+K:=Nat.mul_succ K i;refine ⟨by omega,⟨by split <;> decide,⟨by decide,by decide⟩,by decide,a2,trivial⟩,by simp only [szE,szEs,yL];omega⟩
theorem zrt {l:List Tok} {K:Nat} (hT:TOk l K):∀ f,zo6 K (zaw l f):=by
 intro f
 induction f with
 | zero=>intro i o q x j h;cases h
 | succ f ih =>
  intro i o q x j h;rw [zaw] at h;obtain ⟨y,j1,h1,h2⟩:=PR.po_bind h;obtain ⟨a1,a2,a3⟩:=zq1 hT ih _ _ _ _ _ h1;obtain ⟨b1,b2,b3⟩:=zrr hT.pos ih _ _ _ _ _ _ _ h2 a2;exact ⟨by omega,b2,by omega⟩
theorem zpf {l:List Tok} {K:Nat} (hT:TOk l K):zo6 K (zaA l):=fun i o q x j h=>zrt hT _ i o q x j h
theorem zpg {l:List Tok} {K:Nat} (hT:TOk l K) {i o:Nat} {x:Ex} {j:Nat} (h:zaz l i o=.ok x j):i < j/\okE x/\szE x+K * i+K<=K * j:=by
 unfold zaz at h;split at h
 ·cases h
 ·obtain ⟨y,j1,h1,h2⟩:=PR.po_bind h;obtain ⟨a1,a2,a3⟩:=zpf hT _ _ _ _ _ h1;split at h2
  ·cases h2
  ·cases h2;have e1:K * (i+1)=K * i+K:=Nat.mul_succ K i;have e2:K * (j1+1)=K * j1+K:=Nat.mul_succ K j1;exact ⟨by omega,a2,by omega⟩
def zp7 (K : Nat) (S : Nat -> Nat -> PR St) : Prop := ∀ i o x j, S i o = .ok x j -> i < j /\ okS x /\ szS x + K * i <= K * j
theorem zq2 {l:List Tok} {K:Nat} {S:Nat->Nat->PR St} (hK:1<=K) (hS:zp7 K S) (o:Nat):∀ (f:Nat) (xs:List St) (i:Nat) (ys:List St) (j:Nat),zaX l S o f xs i=.ok ys j->okSs xs->i < j/\okSs ys/\szSs ys+K * i<=szSs xs+K * j:=by
 intro f
 induction f with
 | zero=>intro xs i ys j h;cases h
 | succ f ih =>
  intro xs i ys j h hx;rw [zaX] at h;split at h
  ·cases h;have e1:K * (i+1)=K * i+K:=Nat.mul_succ K i;exact ⟨by omega,hx,by omega⟩
  ·obtain ⟨z,j1,h1,h2⟩:=PR.po_bind h;obtain ⟨a1,a2,a3⟩:=hS _ _ _ _ h1;obtain ⟨b1,b2,b3⟩:=ih _ _ _ _ h2 (zpF hx ⟨a2,trivial⟩);rw [ziC] at b3;simp only [szSs] at b3;exact ⟨by omega,b2,by omega⟩
theorem zpQ {l:List Tok} {K:Nat} {S:Nat->Nat->PR St} (hK:1<=K) (hS:zp7 K S) {i o:Nat} {ys:List St} {j:Nat} (h:zaB l S i o=.ok ys j):i < j/\okSs ys/\szSs ys+K * i+K<=K * j:=by
 unfold zaB at h;obtain ⟨u,j1,h1,h2⟩:=PR.po_bind h;obtain ⟨b1,b2,b3⟩:=zq2 hK hS _ _ _ _ _ _ h2 trivial;unfold zay at h1;split at h1
 ·cases h1
 ·split at h1
  ·cases h1
  ·cases h1;have e1:K * (i+1)=K * i+K:=Nat.mul_succ K i;simp only [szSs] at b3;exact ⟨by omega,b2,by omega⟩
theorem zqI {l:List Tok} {K:Nat} {S:Nat->Nat->PR St} (hT:TOk l K) (hS:zp7 K S):∀ (f i o:Nat) (x:St) (j:Nat),zau l S f i o=.ok x j->i < j/\okS x/\szS x+K * i<=K * j:=by
 have hK:=hT.pos;have z0:okI 0:=⟨by decide,by decide⟩;intro f
 induction f with
 | zero=>intro i o x j h;cases h
 | succ f ih =>
  intro i o x j h;rw [zau] at h;obtain ⟨c,j1,h1,h2⟩:=PR.po_bind h;obtain ⟨a1,a2,a3⟩:=zoq hK (zpf hT) h1;obtain ⟨b,j2,h3,h4⟩:=PR.po_bind h2;obtain ⟨b1,b2,b3⟩:=zpQ hK hS h3;have e1:K * (i+1)=K * i+K:=Nat.mul_succ K i;have e2:K * (j2+1)=K * j2+K:=Nat.mul_succ K j2;split at h4
  ·cases h4;exact ⟨by omega,⟨⟨by decide,by decide⟩,z0,by decide,a2,b2,trivial⟩,by simp only [szS,szSs,yL];omega⟩
  ·split at h4
   ·cases h4;exact ⟨by omega,⟨⟨by decide,by decide⟩,z0,by decide,a2,b2,trivial⟩,by simp only [szS,szSs,yL];omega⟩
   ·split at h4
    ·cases h4
    ·split at h4
     ·obtain ⟨y,h5,rfl⟩:=PR.po_map h4;obtain ⟨d1,d2,d3⟩:=ih _ _ _ _ h5;exact ⟨by omega,⟨⟨by decide,by decide⟩,z0,by decide,a2,b2,d2,trivial⟩,by simp only [szS,szSs,yL];omega⟩
     ·obtain ⟨y,h5,rfl⟩:=PR.po_map h4;obtain ⟨d1,d2,d3⟩:=zpQ hK hS h5;exact ⟨by omega,⟨⟨by decide,by decide⟩,z0,by decide,a2,b2,d2⟩,by simp only [szS,yL];omega⟩
theorem zru {l:List Tok} {K:Nat} (hT:TOk l K):∀ f,zp7 K (zan l f):=by
 have hK:=hT.pos;have z0:okI 0:=⟨by decide,by decide⟩;intro f
 induction f with
 | zero=>intro i o x j h;cases h
 | succ f ih =>
  intro i o x j h;have e1:K * (i+1)=K * i+K:=Nat.mul_succ K i;have e2:K * (i+2)=K * i+K+K:=by rw [show i+2=(i+1)+1 by omega,Nat.mul_succ,e1]
  have hk:=zp6 (zaa l i).text;rw [zan] at h;split at h
  ·cases h
  ·rename_i hk1
   have hw:=hT.wide i (Classical.byContradiction hk1);split at h
   ·obtain ⟨xs,j1,h1,h2⟩:=PR.po_bind h;obtain ⟨a1,a2,a3⟩:=zoq hK (zpf hT) h1;obtain ⟨y,h3,rfl⟩:=PR.po_map h2;obtain ⟨b1,b2,b3⟩:=zpg hT h3;exact ⟨by omega,⟨⟨by decide,by decide⟩,zpD (by omega) (by omega),by decide,zpE a2 ⟨b2,trivial⟩,trivial,trivial⟩,by simp only [szS,szSs,ziA,szEs,yL];omega⟩
   ·split at h
    ·split at h
     ·cases h
     ·cases h;exact ⟨by omega,⟨by split <;> exact ⟨by decide,by decide⟩,z0,by decide,trivial,trivial,trivial⟩,by simp only [szS,szSs,szEs,yL];omega⟩
    ·split at h
     ·exact zqI hT ih _ _ _ _ _ h
     ·split at h
      ·split at h
       ·cases h
       ·rename_i hk2
        have hw2:=hT.wide (i+1) (Classical.byContradiction fun e=>hk2 (.inl e));obtain ⟨y,h3,rfl⟩:=PR.po_map h;obtain ⟨b1,b2,b3⟩:=zpg hT h3;exact ⟨by omega,⟨⟨by decide,by decide⟩,z0,hT.len _,⟨b2,trivial⟩,trivial,trivial⟩,by simp only [szS,szSs,szEs];omega⟩
      ·split at h
       ·cases h
       ·obtain ⟨y,h3,rfl⟩:=PR.po_map h;obtain ⟨b1,b2,b3⟩:=zpg hT h3;exact ⟨by omega,⟨⟨by decide,by decide⟩,z0,hT.len _,⟨b2,trivial⟩,trivial,trivial⟩,by simp only [szS,szSs,szEs];omega⟩
theorem zrZ {l:List Tok} {K:Nat} (hT:TOk l K):∀ (f:Nat) (xs:List St) (i:Nat) (ys:List St) (j:Nat),allS l f xs i=.ok ys j->okSs xs->i<=j/\okSs ys/\szSs ys+K * i<=szSs xs+K * j:=by
 intro f
 induction f with
 | zero=>intro xs i ys j h;cases h
 | succ f ih =>
  intro xs i ys j h hx;rw [allS] at h;split at h
  ·cases h;exact ⟨zr _,hx,zr _⟩
  ·obtain ⟨z,j1,h1,h2⟩:=PR.po_bind h;obtain ⟨a1,a2,a3⟩:=zru hT _ _ _ _ _ h1;obtain ⟨b1,b2,b3⟩:=ih _ _ _ _ h2 (zpF hx ⟨a2,trivial⟩);rw [ziC] at b3;simp only [szSs] at b3;exact ⟨by omega,b2,by omega⟩
/-! what a zfe list's tokens are like -/
theorem zqu:∀ (l:List UInt8) (n m:Int),zaI l n=some m->0<=n->n<=9223372036854775807->0<=m/\m<=9223372036854775807:=by
 intro l
 induction l with
 | nil=>intro n m h h0 h1;rw [zaI] at h;cases h;exact ⟨h0,h1⟩
 | cons b r ih =>
  intro n m h h0 h1;rw [zaI] at h;split at h
  ·cases h
  ·rename_i hb
   split at h
   ·cases h
   ·have hd:48<=(b.toNat:Int)/\(b.toNat:Int)<=57:=by
     have:zaG b=true:=by cases hh:zaG b with | true=>rfl | false=>exact absurd hh hb
     unfold zaG za9 at this;simpa using this
    obtain ⟨d0,d1⟩:=hd
    generalize (b.toNat:Int)=d at *
    refine ih _ _ h (by omega) ?_;rename_i hn
    have hn2:n<=(9223372036854775807 - (d - 48)) / 10:=by omega
    omega
def zoo (B : Nat) (t : Tok) : Prop := okI t.n /\ t.text.length <= B /\ (t.kind = 1 -> t.text.length <= 24)
theorem zrv (bs:List UInt8):∀ (cm:Bool) (l c:Int),(zam bs cm l c).1.length<=bs.length:=by
 induction bs with
 | nil=>intro cm l c;exact zr _
 | cons b r ih =>
  intro cm l c;rw [zam];split
  ·exact Nat.le_succ_of_le (ih _ _ _)
  ·split
   ·exact Nat.le_succ_of_le (ih _ _ _)
   ·split
    ·exact Nat.le_succ_of_le (ih _ _ _)
    ·split
     ·exact Nat.le_succ_of_le (ih _ _ _)
     ·exact zr _
theorem zq3 {t:Tok} {r:LexR} {l:List Tok} (h:r.cons t=.ok l):∃ m,r=.ok m/\l=t :: m:=by
 cases r with
 | ok m=>exact ⟨m,rfl,by simpa [LexR.cons] using h.symm⟩
 | err a b c=>cases h
theorem zp8 {α:Type} (p:α->Bool) (l:List α):(l.takeWhile p).length<=l.length:=(List.takeWhile_sublist p).length_le
theorem zqv:∀ (f:Nat) (bs:List UInt8) (l c:Int) (ts:List Tok),zbr f bs l c=.ok ts->∀ t ∈ ts,zoo bs.length t:=by
 intro f
 induction f with
 | zero=>intro bs l c ts h;cases h
 | succ f ih =>
  intro bs l c ts h;rw [zbr] at h;have hs:=zrv bs false l c
  generalize (zam bs false l c).1=bs' at *
  generalize (zam bs false l c).2.1=l' at *
  generalize (zam bs false l c).2.2=c' at *
  have z0:okI 0:=⟨by decide,by decide⟩;have up:∀ (k:Nat) (t:Tok),zoo (bs'.drop k).length t->zoo bs.length t:=fun k t ht=>⟨ht.1,by have h1:=ht.2.1;rw [List.length_drop] at h1;omega,ht.2.2⟩
  have one:∀ (t:Tok) (r:LexR) (k:Nat),r.cons t=.ok ts->zoo bs.length t->(∀ m,r=.ok m->∀ u ∈ m,zoo (bs'.drop k).length u)->∀ u ∈ ts,zoo bs.length u:=by
   intro t r k hr ht hm u hu;obtain ⟨m,h1,rfl⟩:=zq3 hr;rcases List.mem_cons.1 hu with rfl | hu
   ·exact ht
   ·exact up k u (hm m h1 u hu)
  cases bs' with
  | nil =>
   rw [zaK] at h;cases h;intro t ht;rw [List.mem_singleton] at ht;subst ht
   exact ⟨z0,Nat.zero_le _,fun _=>Nat.zero_le _⟩
  | cons b r =>
   rw [zaK] at h;have hw:=zp8 zaf (b :: r);split at h
   ·split at h
    ·cases h
    ·exact one _ _ _ h ⟨z0,by show (List.takeWhile zaf (b :: r)).length<=_;omega,fun _=>by show (List.takeWhile zaf (b :: r)).length<=24;omega⟩ (fun m hm=>ih _ _ _ _ hm)
   ·split at h
    ·split at h
     ·cases h
     ·rename_i n hn
      have hv:okI n:=by
       unfold zaS at hn;split at hn
       ·cases hn
       ·have:=zqu _ _ _ hn (Int.le_refl _) (by decide);exact ⟨by omega,this.2⟩
      exact one _ _ _ h ⟨hv,by show (List.takeWhile zaf (b :: r)).length<=_;omega,fun e=>by cases e⟩ (fun m hm=>ih _ _ _ _ hm)
    ·split at h
     ·cases h
     ·exact one _ _ _ h ⟨z0,by show (List.take _ (b :: r)).length<=_;rw [List.length_take];omega,fun e=>by cases e⟩ (fun m hm=>ih _ _ _ _ hm)
theorem zqJ {bs:List UInt8} {ts:List Tok} (h:lexS bs=.ok ts):TOk ts 1:=by
 unfold lexS at h;split at h
 ·cases h
 ·rename_i hb
  have hf:=zqv _ _ _ _ _ h
  have hd:∀ i,zoo bs.length (zaa ts i):=by
   intro i;unfold zaa;rw [List.getD_eq_getElem?_getD];by_cases hi:i < ts.length
   ·rw [yD hi];exact hf _ (List.getElem_mem hi)
   ·rw [List.getElem?_eq_none (by omega)];exact ⟨⟨by decide,by decide⟩,Nat.zero_le _,fun _=>Nat.zero_le _⟩
  exact ⟨fun i=>(hd i).1,fun i=>by have:=(hd i).2.1;omega,fun i hk=>by have:=(hd i).2.2 hk;omega,zr _⟩
/-! the parser stays inside the list -/
theorem zdA {l:List Tok} {i:Nat} (h:(zaa l i).kind≠4):i < l.length:=by
 by_cases hi:i < l.length
 ·exact hi
 ·exfalso;apply h;unfold zaa;rw [List.getD_eq_getElem?_getD,List.getElem?_eq_none (by omega)];rfl
theorem zbU {l:List Tok} {i:Nat} {s:List UInt8} (h:¬ isS l i s=false):i < l.length:=by
 apply zdA;intro e;apply h;unfold isS;rw [e];simp
def zcj (l : List Tok) (E : Nat -> Nat -> Nat -> PR Ex) : Prop := ∀ i o q x j, E i o q = .ok x j -> j <= l.length
def zgr (l : List Tok) (S : Nat -> Nat -> PR St) : Prop := ∀ i o x j, S i o = .ok x j -> j <= l.length
theorem zgs {l:List Tok} {E:Nat->Nat->Nat->PR Ex} (hE:zcj l E):∀ (f:Nat) (x:Ex) (i o q:Nat) (y:Ex) (j:Nat),zaD l E f x i o q=.ok y j->i<=l.length->j<=l.length:=by
 intro f
 induction f with
 | zero=>intro x i o q y j h;cases h
 | succ f ih =>
  intro x i o q y j h hi;rw [zaD] at h;split at h
  ·cases h;exact hi
  ·obtain ⟨z,j1,h1,h2⟩:=PR.po_bind h;split at h2
   ·cases h2
   ·exact ih _ _ _ _ _ _ h2 (hE _ _ _ _ _ h1)
theorem zkk {l:List Tok} {E:Nat->Nat->Nat->PR Ex} (o:Nat) (stop:List UInt8):∀ (m:Nat) (xs:List Ex) (i:Nat) (ys:List Ex) (j:Nat),zav l E o stop m xs i=.ok ys j->j<=l.length:=by
 intro m
 induction m with
 | zero =>
  intro xs i ys j h;rw [zav] at h;split at h
  ·rename_i hs
   cases h;exact zbU (s:=stop) (by rw [hs];decide)
  ·cases h
 | succ m ih =>
  intro xs i ys j h;rw [zav] at h;split at h
  ·obtain ⟨z,j1,h1,h2⟩:=PR.po_bind h;exact ih _ _ _ _ h2
  ·split at h
   ·cases h
   ·obtain ⟨z,j1,h1,h2⟩:=PR.po_bind h;exact ih _ _ _ _ h2
theorem zdL {l:List Tok} {E:Nat->Nat->Nat->PR Ex} {i o:Nat} {a b:List UInt8} {m:Nat} {ys:List Ex} {j:Nat} (h:zad l E i o a b m=.ok ys j):j<=l.length:=by
 unfold zad at h;obtain ⟨u,j1,h1,h2⟩:=PR.po_bind h;exact zkk _ _ _ _ _ _ _ h2
theorem zhx {l:List Tok} {E:Nat->Nat->Nat->PR Ex} {i o:Nat} {x:Ex} {j:Nat} (h:zah l E i o=.ok x j):j<=l.length:=by
 unfold zah at h;split at h
 ·rename_i hk
  cases h;exact zdA (by rw [hk];decide)
 ·split at h
  ·obtain ⟨xs,j1,h1,h2⟩:=PR.po_bind h;have:=zdL h1
   cases xs with
   | nil=>cases h2
   | cons y r=>cases h2;exact this
  ·split at h
   ·cases h
   ·rename_i hk
    have hin:i < l.length:=zdA (by rw [Classical.byContradiction hk];decide);split at h
    ·obtain ⟨xs,h1,rfl⟩:=PR.po_map h;exact zdL h1
    ·split at h
     ·obtain ⟨xs,h1,rfl⟩:=PR.po_map h;exact zdL h1
     ·split at h
      ·cases h;exact hin
      ·split at h
       ·cases h;exact hin
       ·split at h
        ·cases h
        ·cases h;exact hin
theorem zcD {l:List Tok} {E:Nat->Nat->Nat->PR Ex}:∀ (f i o:Nat) (x:Ex) (j:Nat),zas l E f i o=.ok x j->j<=l.length:=by
 intro f
 induction f with
 | zero=>intro i o x j h;cases h
 | succ f ih =>
  intro i o x j h;rw [zas] at h;split at h
  ·exact zhx h
  ·split at h
   ·cases h
   ·obtain ⟨y,h1,rfl⟩:=PR.po_map h;exact ih _ _ _ _ h1
theorem zc3 (l:List Tok):∀ f,zcj l (zaw l f):=by
 intro f
 induction f with
 | zero=>intro i o q x j h;cases h
 | succ f ih =>
  intro i o q x j h;rw [zaw] at h;obtain ⟨y,j1,h1,h2⟩:=PR.po_bind h;exact zgs ih _ _ _ _ _ _ _ h2 (zcD _ _ _ _ _ h1)
theorem zej {l:List Tok} {i o:Nat} {x:Ex} {j:Nat} (h:zaz l i o=.ok x j):j<=l.length:=by
 unfold zaz at h;split at h
 ·cases h
 ·obtain ⟨y,j1,h1,h2⟩:=PR.po_bind h;split at h2
  ·cases h2
  ·rename_i hs
   cases h2;exact zbU hs
theorem zi5 {l:List Tok} {S:Nat->Nat->PR St} (o:Nat):∀ (f:Nat) (xs:List St) (i:Nat) (ys:List St) (j:Nat),zaX l S o f xs i=.ok ys j->j<=l.length:=by
 intro f
 induction f with
 | zero=>intro xs i ys j h;cases h
 | succ f ih =>
  intro xs i ys j h;rw [zaX] at h;split at h
  ·rename_i hs
   cases h;exact zbU (s:=[125]) (by rw [hs];decide)
  ·obtain ⟨z,j1,h1,h2⟩:=PR.po_bind h;exact ih _ _ _ _ h2
theorem zfx {l:List Tok} {S:Nat->Nat->PR St} {i o:Nat} {ys:List St} {j:Nat} (h:zaB l S i o=.ok ys j):j<=l.length:=by
 unfold zaB at h;obtain ⟨u,j1,h1,h2⟩:=PR.po_bind h;exact zi5 _ _ _ _ _ _ h2
theorem zip {l:List Tok} {S:Nat->Nat->PR St}:∀ (f i o:Nat) (x:St) (j:Nat),zau l S f i o=.ok x j->j<=l.length:=by
 intro f
 induction f with
 | zero=>intro i o x j h;cases h
 | succ f ih =>
  intro i o x j h;rw [zau] at h;obtain ⟨c,j1,h1,h2⟩:=PR.po_bind h;obtain ⟨b,j2,h3,h4⟩:=PR.po_bind h2;have hb:=zfx h3;split at h4
  ·cases h4;exact hb
  ·split at h4
   ·cases h4;exact hb
   ·split at h4
    ·cases h4
    ·split at h4
     ·obtain ⟨y,h5,rfl⟩:=PR.po_map h4;exact ih _ _ _ _ h5
     ·obtain ⟨y,h5,rfl⟩:=PR.po_map h4;exact zfx h5
theorem zgt (l:List Tok):∀ f,zgr l (zan l f):=by
 intro f
 induction f with
 | zero=>intro i o x j h;cases h
 | succ f ih =>
  intro i o x j h;rw [zan] at h;split at h
  ·cases h
  ·split at h
   ·obtain ⟨xs,j1,h1,h2⟩:=PR.po_bind h;obtain ⟨y,h3,rfl⟩:=PR.po_map h2;exact zej h3
   ·split at h
    ·split at h
     ·cases h
     ·rename_i hs
      cases h;exact zbU hs
    ·split at h
     ·exact zip _ _ _ _ _ h
     ·split at h
      ·split at h
       ·cases h
       ·obtain ⟨y,h3,rfl⟩:=PR.po_map h;exact zej h3
      ·split at h
       ·cases h
       ·obtain ⟨y,h3,rfl⟩:=PR.po_map h;exact zej h3
theorem zr0 (l:List Tok):∀ (f:Nat) (xs:List St) (i:Nat) (ys:List St) (j:Nat),allS l f xs i=.ok ys j->i<=l.length->j<=l.length:=by
 intro f
 induction f with
 | zero=>intro xs i ys j h;cases h
 | succ f ih =>
  intro xs i ys j h hi;rw [allS] at h;split at h
  ·cases h;exact hi
  ·obtain ⟨z,j1,h1,h2⟩:=PR.po_bind h;exact ih _ _ _ _ h2 (zgt l _ _ _ _ _ h1)
theorem zsI {src:List UInt8} {xs:List St} (h:zbg src=.ok xs):okSs xs/\∃ ts,lexS src=.ok ts/\szSs xs<=ts.length:=by
 unfold zbg at h;split at h
 ·cases h
 ·rename_i l hl
  split at h
  ·rename_i ys j ha
   cases h;obtain ⟨h1,h2,h3⟩:=zrZ (zqJ hl) _ _ _ _ _ ha trivial;have h4:=zr0 l _ _ _ _ _ ha (Nat.zero_le _);simp only [szSs] at h3;exact ⟨h2,l,hl,by omega⟩
  ·cases h
def zbl (l : List Tok) (D : Nat -> Nat -> PR Ex) (s : Nat) : Nat -> Ex -> Nat -> Nat -> PR Ex
  | 0, _, i, _ => .err i 0
  | f + 1, x, i, o =>
    if zaj l i ≠ s then .ok x i
    else (D (i + 1) o).andThen fun y j => if s = 3 then .ok (.mk (9 + za3 l i) 0 [] [x, y]) j else zbl l D s f (.mk (9 + za3 l i) 0 [] [x, y]) j o
def zbp (l : List Tok) (E : Nat -> Nat -> PR Ex) : Nat -> Nat -> Nat -> PR Ex
  | 0, i, o => zas l (fun i o _ => E i o) (l.length + 1 - i) i o
  | d + 1, i, o => (zbp l E d i o).andThen fun x j => zbl l (zbp l E d) (5 - d) (l.length + 1 - j) x j o
def zbI (l : List Tok) : Nat -> Nat -> Nat -> PR Ex
  | 0, i, _ => .err i 0
  | f + 1, i, o => zbp l (zbI l f) 5 i o
def zbv (l : List Tok) (i o : Nat) : PR Ex := zbI l (l.length + 1 - i) i o

def RelX (l : List Tok) (R P : PR Ex) : Prop := P = R ∨ ∃ x j, P = .ok x j /\ R = .err j 120 /\ zaj l j = 3
def EMon (E : Nat -> Nat -> Nat -> PR Ex) : Prop := ∀ i o q x j, E i o q = .ok x j -> i < j

theorem PR.bind_ok {α β:Type} {r:PR α} {f:α->Nat->PR β} {y:β} {k:Nat} (h:r.andThen f=.ok y k):∃ x j,r=.ok x j/\f x j=.ok y k:=by
 cases r with
 | ok x j=>exact ⟨x,j,rfl,h⟩
 | err a c=>cases h
theorem PR.map_ok {α β:Type} {r:PR α} {f:α->β} {y:β} {k:Nat} (h:r.map f=.ok y k):∃ x,r=.ok x k/\f x=y:=by
 cases r with
 | ok x j=>cases h;exact ⟨x,rfl,rfl⟩
 | err a c=>cases h
theorem zfO {l:List Tok} {i:Nat} {s:List UInt8} {o:Nat} {u:Unit} {j:Nat} (h:zay l i s o=.ok u j):j=i+1:=by
 unfold zay at h;split at h
 ·cases h
 ·split at h
  ·cases h
  ·cases h;rfl
theorem ziq {l:List Tok} {E:Nat->Nat->Nat->PR Ex} (hE:EMon E):∀ (f:Nat) (x:Ex) (i o q:Nat) (y:Ex) (j:Nat),zaD l E f x i o q=.ok y j->i<=j:=by
 intro f
 induction f with
 | zero=>intro x i o q y j h;cases h
 | succ f ih =>
  intro x i o q y j h;simp only [zaD] at h;split at h
  ·cases h;exact zr _
  ·obtain ⟨z,k,hz,h⟩:=PR.bind_ok h;have h1:=hE _ _ _ _ _ hz;split at h
   ·cases h
   ·have:=ih _ _ _ _ _ _ h;omega
theorem zmz {l:List Tok} {E:Nat->Nat->Nat->PR Ex} (hE:EMon E) (o:Nat) (stop:List UInt8):∀ (m:Nat) (xs:List Ex) (i:Nat) (ys:List Ex) (j:Nat),zav l E o stop m xs i=.ok ys j->i < j:=by
 intro m
 induction m with
 | zero =>
  intro xs i ys j h;simp only [zav] at h;split at h
  ·cases h;omega
  ·cases h
 | succ m ih =>
  intro xs i ys j h;simp only [zav] at h;split at h
  ·obtain ⟨z,k,hz,h⟩:=PR.bind_ok h;have h1:=hE _ _ _ _ _ hz;have:=ih _ _ _ _ h;omega
  ·split at h
   ·cases h
   ·obtain ⟨z,k,hz,h⟩:=PR.bind_ok h;have h1:=hE _ _ _ _ _ hz;have:=ih _ _ _ _ h;omega
theorem zb2 {l:List Tok} {E:Nat->Nat->Nat->PR Ex} (hE:EMon E) {i o:Nat} {a b:List UInt8} {m:Nat} {ys:List Ex} {j:Nat} (h:zad l E i o a b m=.ok ys j):i < j:=by
 obtain ⟨u,k,hk,h⟩:=PR.bind_ok h;have h1:=zfO hk;have h2:=zmz hE _ _ _ _ _ _ _ h;omega
theorem zi6 {l:List Tok} {E:Nat->Nat->Nat->PR Ex} (hE:EMon E) {i o:Nat} {x:Ex} {j:Nat} (h:zah l E i o=.ok x j):i < j:=by
 unfold zah at h;split at h
 ·cases h;omega
 ·split at h
  ·obtain ⟨xs,k,hk,h⟩:=PR.bind_ok h;have:=zb2 hE hk
   cases xs with
   | nil=>cases h
   | cons z r=>cases h;exact this
  ·split at h
   ·cases h
   ·split at h
    ·obtain ⟨y,hy,-⟩:=PR.map_ok h;have:=zb2 hE hy;omega
    ·split at h
     ·obtain ⟨y,hy,-⟩:=PR.map_ok h;have:=zb2 hE hy;omega
     ·split at h
      ·cases h;omega
      ·split at h
       ·cases h;omega
       ·split at h
        ·cases h
        ·cases h;omega
theorem zd5 {l:List Tok} {E:Nat->Nat->Nat->PR Ex} (hE:EMon E):∀ (f i o:Nat) (x:Ex) (j:Nat),zas l E f i o=.ok x j->i < j:=by
 intro f
 induction f with
 | zero=>intro i o x j h;cases h
 | succ f ih =>
  intro i o x j h;simp only [zas] at h;split at h
  ·exact zi6 hE h
  ·split at h
   ·cases h
   ·obtain ⟨y,hy,-⟩:=PR.map_ok h;have:=ih _ _ _ _ hy;omega
theorem zdc (l:List Tok):∀ f,EMon (zaw l f):=by
 intro f
 induction f with
 | zero=>intro i o q x j h;cases h
 | succ f ih =>
  intro i o q x j h;simp only [zaw] at h;obtain ⟨z,k,hz,h⟩:=PR.bind_ok h;have h1:=zd5 ih _ _ _ _ _ hz;have h2:=ziq ih _ _ _ _ _ _ _ h;omega
theorem zgO {l:List Tok} {j:Nat} (h:zaj l j=3) {s:List UInt8} (hs:s=[41]∨s=[93]∨s=[44]∨s=[59]):isS l j s=false:=by
 cases hc:isS l j s with
 | false=>rfl
 | true =>
  unfold isS at hc;simp only [yC,yQ] at hc;unfold zaj za3 at h;split at h
  ·rw [hc.2] at h;rcases hs with rfl | rfl | rfl | rfl <;> exact absurd h (by decide)
  ·exact absurd h (by decide)
def zeB (s : List UInt8) : Prop := s = [41] ∨ s = [93]
def Alike3 (l : List Tok) (i : Nat) (E F : Nat -> Nat -> Nat -> PR Ex) : Prop := ∀ i' o, i < i' -> RelX l (E i' o 1) (F i' o 1)
theorem Alike3.mono {l:List Tok} {i j:Nat} {E F:Nat->Nat->Nat->PR Ex} (h:Alike3 l i E F) (hij:i<=j):Alike3 l j E F:=fun i' o hi=>h i' o (by omega)
theorem zng {l:List Tok} {E F:Nat->Nat->Nat->PR Ex} (o:Nat) {stop:List UInt8} (hs:zeB stop) (hE:EMon E):∀ (m:Nat) (xs:List Ex) (i:Nat),Alike3 l i E F->(xs=[]->RelX l (E i (o+1) 1) (F i (o+1) 1))->zav l E o stop m xs i=zav l F o stop m xs i:=by
 intro m
 induction m with
 | zero=>intro xs i _ _;rfl
 | succ m ih =>
  intro xs i ha hi
  have stopped:∀ (ys:List Ex) (z:Ex) (j:Nat),zaj l j=3->zav l F o stop m (ys++[z]) j=.err j 120:=by
   intro ys z j h3
   cases m with
   | zero=>simp only [zav];rw [zgO h3 (hs.elim .inl (fun h=>.inr (.inl h)))];rfl
   | succ m=>simp only [zav];rw [yN (by simp),zgO h3 (.inr (.inr (.inl rfl)))];rfl
  simp only [zav];split
  ·rename_i hx
   rcases hi hx with h | ⟨z,j,h1,h2,h3⟩
   ·rw [h]
    cases hr:E i (o+1) 1 with
    | ok z j =>
     have:=hE _ _ _ _ _ hr
     exact ih _ _ (ha.mono (by omega)) (fun h=>by cases h)
    | err a c=>rfl
   ·rw [h1,h2];exact (stopped [] z j h3).symm
  ·split
   ·rfl
   ·rcases ha (i+1) (o+1) (by omega) with h | ⟨z,j,h1,h2,h3⟩
    ·rw [h]
     cases hr:E (i+1) (o+1) 1 with
     | ok z j =>
      have:=hE _ _ _ _ _ hr
      exact ih _ _ (ha.mono (by omega)) (fun h=>by simp at h)
     | err a c=>rfl
    ·rw [h1,h2];exact (stopped xs z j h3).symm
theorem zd6 {l:List Tok} {E F:Nat->Nat->Nat->PR Ex} {i:Nat} (o:Nat) (a:List UInt8) {stop:List UInt8} (m:Nat) (hs:zeB stop) (hE:EMon E) (ha:Alike3 l i E F):zad l E i o a stop m=zad l F i o a stop m:=by
 unfold zad
 cases hr:zay l i a o with
 | ok u j =>
  have:=zfO hr;subst this
  exact zng o hs hE m [] (i+1) (ha.mono (by omega)) (fun _=>ha (i+1) (o+1) (by omega))
 | err a c=>rfl
theorem zkl {l:List Tok} {E F:Nat->Nat->Nat->PR Ex} {i:Nat} (o:Nat) (hE:EMon E) (ha:Alike3 l i E F):zah l E i o=zah l F i o:=by
 unfold zah;rw [zd6 o [40] 1 (.inl rfl) hE ha,zd6 o [91] 1 (.inr rfl) hE (ha.mono (Nat.le_succ i)),zd6 o [40] _ (.inl rfl) hE (ha.mono (Nat.le_succ i))]
theorem zmA {l:List Tok} {E F:Nat->Nat->Nat->PR Ex} (hE:EMon E):∀ (f i o:Nat),Alike3 l i E F->zas l E f i o=zas l F f i o:=by
 intro f
 induction f with
 | zero=>intro i o _;rfl
 | succ f ih =>
  intro i o ha;simp only [zas];rw [zkl o hE ha,ih (i+1) (o+1) (ha.mono (Nat.le_succ i))]
theorem ze2 {l:List Tok} {E:Nat->Nat->Nat->PR Ex} (hE:EMon E) (hI:zcj l E):∀ (f g:Nat) (x:Ex) (i o q:Nat),l.length+1 - i<=f->l.length+1 - i<=g->i<=l.length->zaD l E f x i o q=zaD l E g x i o q:=by
 intro f
 induction f with
 | zero=>intro g x i o q h1 h2 h3;omega
 | succ f ih =>
  intro g x i o q h1 h2 h3
  cases g with
  | zero=>omega
  | succ g =>
   simp only [zaD];split
   ·rfl
   ·cases hr:E (i+1) o (zaj l i+1) with
    | err a c=>rfl
    | ok y j =>
     have a1:=hE _ _ _ _ _ hr;have a2:=hI _ _ _ _ _ hr;simp only [PR.andThen];split
     ·rfl
     ·exact ih g _ j o q (by omega) (by omega) a2
theorem zkm {l:List Tok} {E:Nat->Nat->Nat->PR Ex} (hE:EMon E) (hI:zcj l E) (o q:Nat):∀ (f:Nat) (x:Ex) (i:Nat),l.length+1 - i<=f->i<=l.length ->
  zaD l E f x i o q=(zaD l E f x i o (q+1)).andThen fun x' i'=>zaD l E (l.length+1 - i') x' i' o q:=by
 intro f
 induction f with
 | zero=>intro x i h1 h2;omega
 | succ f ih =>
  intro x i h1 h2;obtain ⟨n,hn⟩:∃ n,l.length+1 - i=n+1:=⟨l.length - i,by omega⟩;by_cases h0:zaj l i < q∨zaj l i=0
  ·have h0':zaj l i < q+1∨zaj l i=0:=by omega
   simp only [zaD,yP h0,yP h0',PR.andThen,hn]
  ·by_cases hq:zaj l i=q
   ·have h0':zaj l i < q+1∨zaj l i=0:=by omega
    have e1:zaD l E (f+1) x i o (q+1)=.ok x i:=by simp only [zaD,yP h0']
    rw [e1];exact ze2 hE hI _ _ _ _ _ _ h1 (zr _) h2
   ·have h0':¬ (zaj l i < q+1∨zaj l i=0):=by omega
    simp only [zaD,yN h0,yN h0']
    cases hr:E (i+1) o (zaj l i+1) with
    | err a c=>rfl
    | ok y j =>
     have a1:=hE _ _ _ _ _ hr;have a2:=hI _ _ _ _ _ hr;simp only [PR.andThen];split
     ·rfl
     ·exact ih _ j (by omega) a2
theorem ze3 {l:List Tok} {i:Nat} (h:zaj l i≠0):i < l.length:=by
 refine Nat.lt_of_not_le fun hle=>h ?_
 have e:zaa l i={ kind:=4,text:=[],n:=0,line:=0,col:=0 }:=by unfold zaa;rw [List.getD_eq_getElem?_getD,List.getElem?_eq_none hle];rfl
 unfold zaj za3;rw [e];rfl
theorem zi7 (l:List Tok) (i:Nat):zaj l i<=5:=by
 unfold zaj;have:=zkj l i
 generalize za3 l i=k at *
 have:k=0∨k=1∨k=2∨k=3∨k=4∨k=5∨k=6∨k=7∨k=8∨k=9∨k=10∨k=11∨k=12∨k=13:=by omega
 rcases this with rfl | rfl | rfl | rfl | rfl | rfl | rfl | rfl | rfl | rfl | rfl | rfl | rfl | rfl <;> decide
def LRel (l : List Tok) (q : Nat) (R P : PR Ex) : Prop :=
  (P = R /\ ∀ x j, P = .ok x j -> zaj l j < q ∨ zaj l j = 0) ∨ (q <= 3 /\ ∃ x j, P = .ok x j /\ R = .err j 120 /\ zaj l j = 3)
theorem LRel.relx {l:List Tok} {q:Nat} {R P:PR Ex} (h:LRel l q R P):RelX l R P:=h.elim (fun h=>.inl h.1) (fun h=>.inr h.2)
theorem zkn {l:List Tok} {E:Nat->Nat->Nat->PR Ex} {D:Nat->Nat->PR Ex} (hE:EMon E) (hI:zcj l E) (o s i0:Nat) (hs:1<=s) (H:∀ i',i0 < i'->LRel l (s+1) (E i' o (s+1)) (D i' o)) :
  ∀ (F:Nat) (x:Ex) (j:Nat),i0 < j->j<=l.length->l.length+1 - j<=F->(zaj l j < s+1∨zaj l j=0)->LRel l s (zaD l E (l.length+1 - j) x j o s) (zbl l D s F x j o):=by
 intro F
 induction F with
 | zero=>intro x j h1 h2 h3;omega
 | succ F ih =>
  intro x j h1 h2 h3 h4;obtain ⟨n,hn⟩:∃ n,l.length+1 - j=n+1:=⟨l.length - j,by omega⟩;rw [hn];by_cases hj:zaj l j=s
  ·have hj0:¬ (zaj l j < s∨zaj l j=0):=by omega
   have hjl:j < l.length:=ze3 (by omega);simp only [zaD,zbl,yN hj0];rw [yN (by simpa using hj)];rw [hj];rcases H (j+1) (by omega) with ⟨he,ht⟩ | ⟨h3',y,m,hD,hEe,h3m⟩
   ·rw [he] at ht ⊢
    cases hr:E (j+1) o (s+1) with
    | err a c=>exact .inl ⟨rfl,fun x j h=>by cases h⟩
    | ok y m =>
     have a1:=hE _ _ _ _ _ hr;have a2:=hI _ _ _ _ _ hr;have a3:=ht y m hr;simp only [PR.andThen];by_cases hs3:s=3
     ·subst hs3;rw [yP rfl];by_cases hm:zaj l m=3
      ·rw [yP ⟨rfl,hm⟩];exact .inr ⟨by omega,_,m,rfl,rfl,hm⟩
      ·rw [yN (fun h=>hm h.2)];have hm0:zaj l m < 3∨zaj l m=0:=by omega
       obtain ⟨n',hn'⟩:∃ n',n=n'+1:=⟨n - 1,by omega⟩;rw [hn'];simp only [zaD,yP hm0];exact .inl ⟨rfl,fun x j h=>by cases h;exact hm0⟩
     ·rw [yN hs3,yN (fun h=>hs3 h.1),ze2 hE hI n (l.length+1 - m) _ m o s (by omega) (zr _) a2];exact ih _ m (by omega) a2 (by omega) a3
   ·rw [hEe,hD];simp only [PR.andThen];rw [yN (by omega)];obtain ⟨F',hF'⟩:∃ F',F=F'+1:=⟨F - 1,by omega⟩;rw [hF'];simp only [zbl];rw [yP (by omega)];exact .inr ⟨by omega,_,m,rfl,rfl,h3m⟩
  ·have hj0:zaj l j < s∨zaj l j=0:=by omega
   simp only [zaD,zbl,yP hj0];rw [yP hj];exact .inl ⟨rfl,fun x j h=>by cases h;exact hj0⟩
theorem ze4 (l:List Tok) (f i o q:Nat) (h:l.length+1 - i<=f):zaw l f i o q=(zas l (zaw l (f - 1)) (l.length+1 - i) i o).andThen fun x j=>zaD l (zaw l (f - 1)) (l.length+1 - j) x j o q:=by
 cases f with
 | zero =>
  have:l.length+1 - i=0:=by omega
  rw [this];rfl
 | succ f=>rfl
theorem ze5 (l:List Tok) (E:Nat->Nat->PR Ex) (i o:Nat) (h:l.length+1 - i=0):∀ d,zbp l E d i o=.err i 0:=by
 intro d
 induction d with
 | zero=>simp only [zbp,h];rfl
 | succ d ih=>simp only [zbp,ih];rfl
theorem zeC (l:List Tok) (g i o:Nat) (h:l.length+1 - i<=g):zbI l g i o=zbp l (zbI l (g - 1)) 5 i o:=by
 cases g with
 | zero=>rw [ze5 l _ i o (by omega)];rfl
 | succ g=>rfl
theorem zmB (l:List Tok):∀ (n i:Nat),l.length+1 - i<=n->∀ (f g o:Nat),l.length+1 - i<=f+1->l.length+1 - i<=g+1->∀ d,d<=5 ->
  LRel l (6 - d) ((zas l (zaw l f) (l.length+1 - i) i o).andThen fun x j=>zaD l (zaw l f) (l.length+1 - j) x j o (6 - d)) (zbp l (zbI l g) d i o):=by
 intro n
 induction n with
 | zero =>
  intro i hn f g o hf hg d hd;have h0:l.length+1 - i=0:=by omega
  rw [ze5 l _ i o h0,h0]
  exact .inl ⟨rfl,fun x j h=>by cases h⟩
 | succ n ihn =>
  intro i hn f g o hf hg;by_cases hi:i<=l.length
  ·have hE:EMon (zaw l f):=zdc l f;have hI:zcj l (zaw l f):=zc3 l f
   have hL:∀ i',i < i'->∀ o d,d<=5->LRel l (6 - d) (zaw l f i' o (6 - d)) (zbp l (zbI l g) d i' o):=by
    intro i' hi' o d hd;rw [ze4 l f i' o _ (by omega)];exact ihn i' (by omega) (f - 1) g o (by omega) (by omega) d hd
   have hA:Alike3 l i (zaw l f) (fun i o _=>zbI l g i o):=by
    intro i' o' hi';show RelX l _ (zbI l g i' o');rw [zeC l g i' o' (by omega),ze4 l f i' o' 1 (by omega)];exact (ihn i' (by omega) (f - 1) (g - 1) o' (by omega) (by omega) 5 (zr _)).relx
   intro d
   induction d with
   | zero =>
    intro _;have e1:=zmA hE (l.length+1 - i) i o hA;simp only [zbp];rw [<- e1]
    cases hu:zas l (zaw l f) (l.length+1 - i) i o with
    | err a c=>exact .inl ⟨rfl,fun x j h=>by cases h⟩
    | ok x j =>
     have a2:=zcD _ _ _ _ _ hu;have h6:zaj l j < 6∨zaj l j=0:=.inl (by have:=zi7 l j;omega);obtain ⟨k,hk⟩:∃ k,l.length+1 - j=k+1:=⟨l.length - j,by omega⟩;simp only [PR.andThen,hk,zaD];rw [yP h6]
     exact .inl ⟨rfl,fun x j h=>by cases h;exact h6⟩
   | succ d ihd =>
    intro hd;have h1:=ihd (by omega)
    have hchain:=zkn hE hI o (5 - d) i (by omega) (D:=zbp l (zbI l g) d) (fun i' hi'=>by
     have:=hL i' hi' o d (by omega);rw [show 6 - d=5 - d+1 by omega] at this
     exact this)
    have hsp:((zas l (zaw l f) (l.length+1 - i) i o).andThen fun x j=>zaD l (zaw l f) (l.length+1 - j) x j o (6 - (d+1)))=((zas l (zaw l f) (l.length+1 - i) i o).andThen fun x j=>zaD l (zaw l f) (l.length+1 - j) x j o (6 - d)).andThen fun x' i'=>zaD l (zaw l f) (l.length+1 - i') x' i' o (5 - d):=by
     cases hu:zas l (zaw l f) (l.length+1 - i) i o with
     | err a c=>rfl
     | ok x j =>
      have a2:=zcD _ _ _ _ _ hu;simp only [PR.andThen];rw [show 6 - (d+1)=5 - d by omega,show 6 - d=5 - d+1 by omega];exact zkm hE hI o (5 - d) _ x j (zr _) a2
    rw [hsp];simp only [zbp];rw [show 6 - (d+1)=5 - d by omega];rcases h1 with ⟨he,ht⟩ | ⟨hq,x,j,hP,hR,h3⟩
    ·rw [he] at ht ⊢
     cases hr:((zas l (zaw l f) (l.length+1 - i) i o).andThen fun x j=>zaD l (zaw l f) (l.length+1 - j) x j o (6 - d)) with
     | err a c=>exact .inl ⟨rfl,fun x j h=>by cases h⟩
     | ok x j =>
      have a4:=ht x j hr;obtain ⟨x',j',hu,htl⟩:=PR.bind_ok hr;have b1:=zd5 hE _ _ _ _ _ hu;have b2:=ziq hE _ _ _ _ _ _ _ htl;have b3:=zcD _ _ _ _ _ hu;have b4:=zgs hI _ _ _ _ _ _ _ htl b3;simp only [PR.andThen];exact hchain _ x j (by omega) b4 (zr _) (by omega)
    ·rw [hP,hR];simp only [PR.andThen];have hjl:j < l.length:=ze3 (by omega);obtain ⟨k,hk⟩:∃ k,l.length+1 - j=k+1:=⟨l.length - j,by omega⟩;rw [hk];simp only [zbl];rw [yP (by omega)];exact .inr ⟨by omega,x,j,rfl,rfl,h3⟩
  ·intro d hd;have h0:l.length+1 - i=0:=by omega
   rw [ze5 l _ i o h0,h0];exact .inl ⟨rfl,fun x j h=>by cases h⟩
theorem zfP (l:List Tok) (i o:Nat):RelX l (zaA l i o 1) (zbv l i o):=by
 unfold zaA zbv;rw [ze4 l _ i o 1 (zr _),zeC l _ i o (zr _)];exact (zmB l _ i (zr _) _ _ o (by omega) (by omega) 5 (zr _)).relx
theorem valueP (l : List Tok) (i o : Nat) : (if isS l i ([61] /- = -/) = false then PR.err i 120
  else (zbv l (i + 1) o).andThen fun x j => if isS l j ([59] /- ; -/) = false then .err j 120 else .ok x (j + 1)) = zaz l i o := by
  unfold zaz
  split
  · rfl
  · rcases zfP l (i + 1) o with h | ⟨x, j, h1, h2, h3⟩
    · rw [h]
    · rw [h1, h2]
      simp only [PR.andThen]
      rw [zgO h3 (.inr (.inr (.inr rfl)))]
      rfl
end Go.Proofs.Ytdeneckmoejcfaa
