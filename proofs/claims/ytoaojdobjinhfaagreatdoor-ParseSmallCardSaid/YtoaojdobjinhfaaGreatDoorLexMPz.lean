/- The lexer's answer without fuel; what its tokens are like; joining. Plain mathematics. -/
import Derived.Test.YtoaojdobjinhfaaGreatDoorRLexPz
set_option linter.unusedSimpArgs false
set_option linter.unusedVariables false
set_option maxHeartbeats 1000000
namespace Go.Proofs.YtoaojdobjinhfaaGreatDoor
theorem zcC{b:UInt8}(h:zaH b=true):zaf b=true:=by simp[zaf,h]
theorem zcZ{b:UInt8}(h:zaG b=true):zaf b=true:=by simp[zaf,h]
theorem zfh{b:UInt8}{r:List UInt8}(h:zaf b=true):1<=((b::r).takeWhile zaf).length:=by
 simp[h]
theorem zeU{f d:List UInt8->Int->Int->LexR}{xs:List UInt8}{l c:Int}(h:∀ys a b,ys.length<xs.length->f ys a b=d ys a b):zaK f xs l c=zaK d xs l c:=by
 cases xs with
 | nil=>rfl
 | cons b r =>
  simp only[zaK];split
  ·rename_i hl
   have:=zfh (r:=r) (zcC hl);rw[h _ _ _ (by simp only[List.length_drop,yB];omega)]
  ·split
   ·rename_i hd
    have:=zfh (r:=r) (zcZ hd);rw[h _ _ _ (by simp only[List.length_drop,yB];omega)]
   ·split
    ·rfl
    ·rw[h _ _ _ (by simp only[List.length_drop,yB];omega)]
theorem zc9:∀(d:List UInt8) (f:Bool) (l c:Int),(zam d f l c).1.length<=d.length:=by
 intro d
 induction d with
 | nil=>intro f l c;simp[zam]
 | cons b r ih =>
  intro f l c;rw[zam];split
  ·have:=ih false (l+1) 1;simp only[yB];omega
  ·split
   ·have:=ih true l (c+1);simp only[yB];omega
   ·split
    ·have:=ih false l (c+1);simp only[yB];omega
    ·split
     ·have:=ih true l (c+1);simp only[yB];omega
     ·exact zr _
theorem zjY:∀(f g:Nat) (d:List UInt8) (l c:Int),d.length<f->d.length<g->zbr f d l c=zbr g d l c:=by
 intro f
 induction f with
 | zero=>intro g d l c h;omega
 | succ f ih =>
  intro g d l c i j
  cases g with
  | zero=>omega
  | succ g =>
   rw[zbr,zbr];refine zeU fun ys a b hy=>ih g ys a b ?_ ?_
   ·have:=zc9 d false l c;omega
   ·have:=zc9 d false l c;omega
def lexF (bs : List UInt8) (l c : Int) : LexR := zbr (bs.length + 1) bs l c
def lexT (bs : List UInt8) (l c : Int) : LexR := zaK lexF bs l c
theorem zbY(d:List UInt8)(l c:Int):lexF d l c=lexT (zam d false l c).1 (zam d false l c).2.1 (zam d false l c).2.2:=by
 show zbr (d.length+1) d l c=_;rw[zbr];refine zeU fun ys a b hy=>zjY _ _ ys a b ?_ (Nat.lt_succ_self _)
 have:=zc9 d false l c;omega
theorem zcO(d:List UInt8):lexS d=if 16384<d.length then .err 0 0 3 else lexF d 1 1:=rfl
theorem zda(l c:Int):lexF [] l c=.ok [⟨4,[],0,l,c⟩]:=rfl

def zct : List UInt8 -> Bool
  | [] => true
  | b :: _ => !zaf b && !(b == 61) && !(b == 38) && !(b == 124)
theorem zcH{xs ys:List UInt8}(h:xs.all zaf=true)(d:ys.head?.all (fun b=>!zaf b)=true):(xs++ys).takeWhile zaf=xs:=by
 induction xs with
 | nil =>
  cases ys with
  | nil=>rfl
  | cons b r=>simp at d;simp[d]
 | cons b r ih =>
  simp only[List.all_cons,yC] at h;simp[h.1,ih h.2]
theorem zgb{ys:List UInt8}(h:zct ys=true):ys.head?.all (fun b=>!zaf b)=true:=by
 cases ys with
 | nil=>rfl
 | cons b r =>
  simp only[zct,yC] at h;simpa using h.1.1.1
inductive TokOk : Tok -> Prop
  | word {b : UInt8} {r : List UInt8} {l c : Int} (h1 : zaH b = true) (h2 : (b :: r).all zaf = true) (h3 : (b :: r).length <= 24) : TokOk ⟨1, b :: r, 0, l, c⟩
  | number {b : UInt8} {r : List UInt8} {n l c : Int} (h0 : zaH b = false) (h1 : zaG b = true) (h2 : (b :: r).all zaf = true) (h3 : zaS (b :: r) = some n) : TokOk ⟨2, b :: r, n, l, c⟩
  | sign {b : UInt8} {r : List UInt8} {l c : Int} (h0 : zaH b = false) (h1 : zaG b = false) (h2 : zag (b :: r) = (b :: r).length) : TokOk ⟨3, b :: r, 0, l, c⟩
def Tok.bare (t : Tok) : Int × List UInt8 × Int := (t.kind, t.text, t.n)
def Tok.moved (t : Tok) (l c : Int) : Tok := ⟨t.kind, t.text, t.n, l, c⟩
theorem TokOk.moved{t:Tok}(h:TokOk t)(l c:Int):TokOk (t.moved l c):=by
 cases h with
 | word h1 h2 h3=>exact .word h1 h2 h3
 | number h0 h1 h2 h3=>exact .number h0 h1 h2 h3
 | sign h0 h1 h2=>exact .sign h0 h1 h2
theorem TokOk.kind{t:Tok}(h:TokOk t):t.kind≠4:=by cases h <;> simp
theorem TokOk.text{t:Tok}(h:TokOk t):t.text≠[]:=by cases h <;> simp
theorem zfE(xs:List UInt8):xs.take (xs.takeWhile zaf).length=xs.takeWhile zaf:=by
 induction xs with
 | nil=>rfl
 | cons b r ih =>
  by_cases h:zaf b=true
  ·simp[h,ih]
  ·simp[h]
theorem zgH(xs:List UInt8):(xs.takeWhile zaf).all zaf=true:=by
 induction xs with
 | nil=>rfl
 | cons b r ih =>
  by_cases h:zaf b=true
  ·simp only[List.takeWhile_cons,h,if_true,List.all_cons,Bool.true_and];exact ih
  ·simp[h]
theorem zfF{b:UInt8}{r:List UInt8}(h:zaf b=true):(b::r).takeWhile zaf=b::r.takeWhile zaf:=by simp[h]
theorem zgI(xs:List UInt8):zag xs<=xs.length:=by
 match xs with
 | []=>exact zr _
 | [a]=>simp only[zag];split <;> simp
 | a::b::r=>simp only[zag];split <;>(try split) <;> simp
theorem zh6(xs:List UInt8):zag xs<=2:=by
 match xs with
 | []=>simp[zag]
 | [a]=>simp only[zag];split <;> simp
 | a::b::r=>simp only[zag];split <;>(try split) <;> simp
theorem zlc(xs:List UInt8)(h:zag xs≠0):zag (xs.take (zag xs))=zag xs:=by
 match xs,h with
 | [],h=>exact absurd rfl h
 | [a],h =>
  have d:zag [a]=1:=by
   simp only[zag] at h ⊢;split at h
   ·rename_i h';rw[yP h']
   ·exact absurd rfl h
  rw[d];exact d
 | a :: b :: r,h =>
  have e:zag (a::b::r)=if(a.toNat,b.toNat)∈zbB then 2 else if a.toNat∈zbt then 1 else 0:=rfl
  rw[e] at h ⊢;split
  ·rename_i h2
   show zag [a,b]=2;simp only[zag];rw[yP h2]
  ·rename_i h2
   rw[yN h2] at h;split
   ·rename_i d
    show zag [a]=1;simp only[zag];rw[yP d]
   ·rename_i d
    rw[yN d] at h;exact absurd rfl h
theorem zet(f:List UInt8)(l c:Int) :
  (f=[]/\lexT f l c=.ok [⟨4,[],0,l,c⟩]) ∨
  (∃code:Int,f≠[]/\lexT f l c=.err l c code/\(code=110∨code=111∨code=112)) ∨
  (∃t:Tok,TokOk t/\t.line=l/\t.col=c/\f=t.text++f.drop t.text.length/\t.text.length<=f.length/\lexT f l c=(lexF (f.drop t.text.length) l (c+t.text.length)).cons t):=by
 cases f with
 | nil=>exact .inl ⟨rfl,rfl⟩
 | cons b r =>
  refine .inr ?_;show _∨_;have u:lexT (b::r) l c=zaK lexF (b::r) l c:=rfl;rw[u,zaK];have d:∀n,n<=(b::r).length->((b::r).take n).length=n:=fun n h=>by rw[List.length_take];omega
  have q:((b::r).takeWhile zaf).length<=(b::r).length:=(List.takeWhile_prefix _).length_le;split
  ·rename_i hl
   split
   ·exact .inl ⟨111,by simp,rfl,by simp⟩
   ·rename_i h24
    refine .inr ⟨⟨1,(b::r).takeWhile zaf,0,l,c⟩,?_,rfl,rfl,?_,q,rfl⟩
    ·have j:=zgH (b::r);have m:=zfF (r:=r) (zcC hl);rw[m] at j h24 ⊢;exact .word hl j (by omega)
    ·show b::r=(b::r).takeWhile zaf++(b::r).drop ((b::r).takeWhile zaf).length;have:=List.take_append_drop ((b::r).takeWhile zaf).length (b::r);rw[zfE] at this;exact this.symm
  ·rename_i hl
   split
   ·rename_i hd
    split
    ·exact .inl ⟨112,by simp,rfl,by simp⟩
    ·rename_i n hn
     refine .inr ⟨⟨2,(b::r).takeWhile zaf,n,l,c⟩,?_,rfl,rfl,?_,q,rfl⟩
     ·have j:=zgH (b::r);have m:=zfF (r:=r) (zcZ hd);rw[m] at j hn ⊢;exact .number (by simpa using hl) hd j hn
     ·show b::r=(b::r).takeWhile zaf++(b::r).drop ((b::r).takeWhile zaf).length;have:=List.take_append_drop ((b::r).takeWhile zaf).length (b::r);rw[zfE] at this;exact this.symm
   ·rename_i hd
    split
    ·exact .inl ⟨110,by simp,rfl,by simp⟩
    ·rename_i hs
     have g:=zgI (b::r);have i:=zlc (b::r) hs;refine .inr ⟨⟨3,(b::r).take (zag (b::r)),0,l,c⟩,?_,rfl,rfl,?_,?_,?_⟩
     ·obtain⟨k,v⟩:∃k,zag (b::r)=k+1:=⟨zag (b::r)-1,by omega⟩;rw[v] at i ⊢;rw[List.take_succ_cons] at i ⊢;refine .sign (by simpa using hl) (by simpa using hd) ?_;rw[i,<-List.take_succ_cons,d _ (by omega)]
     ·show b::r=(b::r).take (zag (b::r))++(b::r).drop ((b::r).take (zag (b::r))).length;rw[d _ g,List.take_append_drop]
     ·show((b::r).take (zag (b::r))).length<=_;rw[d _ g];exact g
     ·show _=(lexF ((b::r).drop ((b::r).take (zag (b::r))).length) l (c+((b::r).take (zag (b::r))).length)).cons _;rw[d _ g]
theorem zld{xs ys:List UInt8}(q:xs≠[])(h:zag xs=xs.length)(l:zct ys=true):zag (xs++ys)=xs.length:=by
 match xs,q with
 | [a],_ =>
  cases ys with
  | nil=>exact h
  | cons b r =>
   have m:a.toNat∈zbt:=by
    simp only[zag] at h;split at h
    ·assumption
    ·exact absurd h (by simp)
   have f:¬(a.toNat,b.toNat)∈zbB:=by
    intro f;simp only[zct,yC,Bool.not_eq_true',beq_eq_false_iff_ne,ne_eq] at l;obtain⟨⟨⟨_,g⟩,j⟩,i⟩:=l;have e:∀k:UInt8,b.toNat=k.toNat->b=k:=fun k hk=>UInt8.toNat_inj.1 hk
    simp only[zbB,List.mem_cons,Prod.mk.injEq,List.not_mem_nil,or_false] at f;rcases f with f|f|f|f|f|f
    ·exact g (e 61 f.2)
    ·exact g (e 61 f.2)
    ·exact g (e 61 f.2)
    ·exact g (e 61 f.2)
    ·exact j (e 38 f.2)
    ·exact i (e 124 f.2)
   show zag (a::b::r)=1;simp only[zag]
   rw[yN f,yP m]
 | [a,b],_=>exact h
 | a::b::d::r,_ =>
  have:=zh6 (a::b::d::r);rw[h] at this;simp at this
theorem zmg{t:Tok}(ht:TokOk t){r:List UInt8}(f:zct r=true)(l c:Int):lexT (t.text++r) l c=(lexF r l (c+t.text.length)).cons (t.moved l c):=by
 have hp:=zgb f
 cases ht with
 | @word b s l0 c0 h1 h2 h3 =>
  have d:(b::(s++r)).takeWhile zaf=b::s:=zcH (xs:=b::s) h2 hp;show zaK lexF (b::(s++r)) l c=_;rw[zaK,yP h1,d,yN (by omega),show b::(s++r)=(b::s)++r from rfl,List.drop_left]
  rfl
 | @number b s n l0 c0 h0 h1 h2 h3 =>
  have d:(b::(s++r)).takeWhile zaf=b::s:=zcH (xs:=b::s) h2 hp;show zaK lexF (b::(s++r)) l c=_;rw[zaK,yN (by rw[h0];simp),yP h1,d,h3,show b::(s++r)=(b::s)++r from rfl,List.drop_left]
  rfl
 | @sign b s l0 c0 h0 h1 h2 =>
  have g:zag (b::(s++r))=(b::s).length:=zld (xs:=b::s) (by simp) h2 f;show zaK lexF (b::(s++r)) l c=_;rw[zaK,yN (by rw[h0];simp),yN (by rw[h1];simp),g,yN (by simp),show b::(s++r)=(b::s)++r from rfl,List.drop_left,List.take_left];rfl
theorem zgY{t:Tok}(ht:TokOk t)(r:List UInt8)(l c:Int):zam (t.text++r) false l c=(t.text++r,l,c):=by
 cases ht with
 | @word b s l0 c0 h1 h2 h3 =>
  have g:zaV (b.toNat:Int)=true:=h1;simp only[zaV,Bool.or_eq_true,yC,yQ,beq_iff_eq] at g
  exact zcu (by omega) (by omega) (by omega) (by omega)
 | @number b s n l0 c0 h0 h1 h2 h3 =>
  have g:za9 (b.toNat:Int)=true:=h1;simp only[za9,yC,yQ] at g
  exact zcu (by omega) (by omega) (by omega) (by omega)
 | @sign b s l0 c0 h0 h1 h2 =>
  have f:zag (b::s)≠0:=by rw[h2];simp
  have g:b.toNat∈zbt∨b.toNat=38∨b.toNat=124:=by
   cases s with
   | nil =>
    simp only[zag] at f;split at f
    ·exact .inl ‹_›
    ·exact absurd rfl f
   | cons d s =>
    simp only[zag] at f;split at f
    ·rename_i h
     simp only[zbB,List.mem_cons,Prod.mk.injEq,List.not_mem_nil,or_false] at h;simp only[zbt,List.mem_cons,List.not_mem_nil,or_false];omega
    ·split at f
     ·exact .inl ‹_›
     ·exact absurd rfl f
  simp only[zbt,List.mem_cons,List.not_mem_nil,or_false] at g;exact zcu (by omega) (by omega) (by omega) (by omega)
theorem zfG{t:Tok}(ht:TokOk t){r:List UInt8}(d:zct r=true)(l c:Int):lexF (t.text++r) l c=(lexF r l (c+t.text.length)).cons (t.moved l c):=by
 rw[zbY,zgY ht];exact zmg ht d l c
theorem zgc(r:List UInt8)(l c:Int):lexF (32::r) l c=lexF r l (c+1):=by
 rw[zbY,zbY r,zdG (.inl rfl)]
def posS : List UInt8 -> Int -> Int -> Int × Int
  | [], l, c => (l, c)
  | b :: r, l, c => if b.toNat = 10 then posS r (l + 1) 1 else posS r l (c + 1)
theorem ziU:∀(xs ys:List UInt8) (l c:Int),posS (xs++ys) l c=posS ys (posS xs l c).1 (posS xs l c).2:=by
 intro xs
 induction xs with
 | nil=>intro ys l c;rfl
 | cons b r ih =>
  intro ys l c;simp only[List.cons_append,posS];split
  ·exact ih _ _ _
  ·exact ih _ _ _
def runK (p : Nat -> UInt8 -> Bool) : Nat -> List UInt8 -> Nat
  | _, [] => 0
  | k, b :: r => if p k b = true then runK p (k + 1) r + 1 else 0
theorem zfi(p:Nat->UInt8->Bool):∀(d:List UInt8) (k:Nat),runK p k d<=d.length:=by
 intro d
 induction d with
 | nil=>intro k;exact zr _
 | cons b r ih=>intro k;rw[runK];split;have:=ih (k+1);simp only[yB];omega;simp
theorem zeu(p:UInt8->Bool):∀(d:List UInt8) (k:Nat),runK (fun _=>p) k d=(d.takeWhile p).length:=by
 intro d
 induction d with
 | nil=>intro k;rfl
 | cons b r ih =>
  intro k;rw[runK,ih (k+1)];by_cases h:p b=true
  ·simp[h]
  ·simp[h]
theorem zjZ(m:Nat):∀(d:List UInt8) (k:Nat),k<=m->m<=k+d.length->runK (fun j _=>decide (j<m)) k d=m-k:=by
 intro d
 induction d with
 | nil=>intro k g f;simp at f;rw[runK];omega
 | cons b r ih =>
  intro k g f;rw[runK];simp only[yB] at f;by_cases h:k<m
  ·rw[yP (by simpa using h),ih (k+1) (by omega) (by omega)];omega
  ·rw[yN (by simpa using h)];omega
def zeV (b : Int) : Bool := (b == 32) || ((b == 9) || (b == 10))
def zbi (b : UInt8) : Bool := zeV (b.toNat : Int)
def zgJ (b : Int) : Bool := b != 10
def zaU (b : UInt8) : Bool := zgJ (b.toNat : Int)
theorem zgZ(b:UInt8):zbi b=true ↔ b.toNat=32∨b.toNat=9∨b.toNat=10:=by
 unfold zbi zeV;simp only[Bool.or_eq_true,beq_iff_eq];omega
theorem zdx(b:UInt8):zaU b=true ↔ b.toNat≠10:=by
 unfold zaU zgJ;simp only[bne_iff_ne,ne_eq];omega
theorem zfu:∀(d:List UInt8) (l c:Int),zam d false l c=zam (d.drop (d.takeWhile zbi).length) false (posS (d.take (d.takeWhile zbi).length) l c).1 (posS (d.take (d.takeWhile zbi).length) l c).2:=by
 intro d
 induction d with
 | nil=>intro l c;rfl
 | cons b r ih =>
  intro l c;by_cases h:zbi b=true
  ·simp only[List.takeWhile_cons,h,if_true,yB,List.drop_succ_cons,List.take_succ_cons,posS];rcases(zgZ b).1 h with e|e|e
   ·rw[yN (by omega),zdG (.inl e)];exact ih _ _
   ·rw[yN (by omega),zdG (.inr e)];exact ih _ _
   ·rw[yP e,zdF e];exact ih _ _
  ·simp only[List.takeWhile_cons,h];rfl
theorem zgd:∀(d:List UInt8) (l c:Int),zam d true l c=zam (d.drop (d.takeWhile zaU).length) false (posS (d.take (d.takeWhile zaU).length) l c).1 (posS (d.take (d.takeWhile zaU).length) l c).2:=by
 intro d
 induction d with
 | nil=>intro l c;rfl
 | cons b r ih =>
  intro l c;by_cases h:zaU b=true
  ·simp only[List.takeWhile_cons,h,if_true,yB,List.drop_succ_cons,List.take_succ_cons,posS];have e:=(zdx b).1 h;rw[yN e,zfj e];exact ih _ _
  ·simp only[List.takeWhile_cons,h];have e:b.toNat=10:=Classical.byContradiction fun e=>h ((zdx b).2 e)
   exact zfI (.inr ⟨b,r,rfl,e⟩)
theorem zh7{b:UInt8}{r:List UInt8}(h:b.toNat=35)(l c:Int):zam (b::r) false l c=zam ((b::r).drop ((b::r).takeWhile zaU).length) false (posS ((b::r).take ((b::r).takeWhile zaU).length) l c).1 (posS ((b::r).take ((b::r).takeWhile zaU).length) l c).2:=by
 have hi:zaU b=true:=(zdx b).2 (by omega);simp only[List.takeWhile_cons,hi,if_true,yB,List.drop_succ_cons,List.take_succ_cons,posS];rw[yN (by omega),zgK h];exact zgd _ _ _
theorem zg0{p:UInt8->Bool}(d:List UInt8):(d.drop (d.takeWhile p).length).head?.all (fun b=>!p b)=true:=by
 induction d with
 | nil=>rfl
 | cons b r ih =>
  by_cases h:p b=true
  ·simp only[List.takeWhile_cons,h,if_true,yB,List.drop_succ_cons];exact ih
  ·simp[h]
theorem zm4:∀(d:List UInt8) (l c:Int),0<=l->0<=c->(l<=(posS d l c).1/\(posS d l c).1<=l+d.length)/\(0<=(posS d l c).2/\((posS d l c).2<=c+d.length∨(posS d l c).2<=1+d.length)):=by
 intro d
 induction d with
 | nil=>intro l c _ f;simp only[posS];exact⟨⟨by omega,by simp⟩,f,.inl (by simp)⟩
 | cons b r ih =>
  intro l c g f;simp only[posS,yB];split
  ·have:=ih (l+1) 1 (by omega) (by omega);omega
  ·have:=ih l (c+1) g (by omega);omega
theorem zle:∀(i:List UInt8) (g:Bool) (l c:Int),∃n,n<=i.length/\(zam i g l c).1=i.drop n/\(zam i g l c).2=posS (i.take n) l c:=by
 intro i
 induction i with
 | nil=>intro g l c;exact⟨0,zr _,rfl,rfl⟩
 | cons b r ih =>
  intro g l c
  have f:∀j u q,posS [b] l c=(u,q)->zam (b::r) g l c=zam r j u q->∃n,n<=(b::r).length/\(zam (b::r) g l c).1=(b::r).drop n/\(zam (b::r) g l c).2=posS ((b::r).take n) l c:=by
   intro j u q hp v;obtain⟨n,z,w,A⟩:=ih j u q;refine⟨n+1,by simpa using z,by rw[v,w,List.drop_succ_cons],?_⟩;rw[v,A,List.take_succ_cons,show b::r.take n=[b]++r.take n from rfl,ziU,hp]
  by_cases d:b.toNat=10
  ·exact f false (l+1) 1 (by simp[posS,d]) (zdF d)
  ·have hp:posS [b] l c=(l,c+1):=by simp[posS,d]
   cases g with
   | true=>exact f true _ _ hp (zfj d)
   | false =>
    by_cases y:b.toNat=32∨b.toNat=9
    ·exact f false _ _ hp (zdG y)
    ·by_cases m:b.toNat=35
     ·exact f true _ _ hp (zgK m)
     ·exact⟨0,Nat.zero_le _,by rw[zcu d (by omega) (by omega) m];rfl,by rw[zcu d (by omega) (by omega) m];rfl⟩
open Go.RowKit

theorem zbR(b:Int)(w:World):Calls Tryz.prog 78 #[.int .u8 b] w fun e w'=>e=.returned (.bool (zaV b))/\w=w':=by
 obtain⟨i,g,d,f,j,q,u,m,y,v,l⟩:∃i g d f j:Bool,decide (b >= 97)=i/\decide (b<=122)=g/\decide (b >= 65)=d/\decide (b<=90)=f/\(b==95)=j/\zaV b=((i&&g)||((d&&f)||j)):=⟨_,_,_,_,_,rfl,rfl,rfl,rfl,rfl,rfl⟩;rw[l];clear l;cases i <;> cases g <;> cases d <;> cases f <;> cases j
 all_goals
  go_enter Tryz.func78,Tryz.ntmps78
  go_wp2;go_ret;exact⟨rfl,rfl⟩
theorem zc0(b:Int)(w:World):Calls Tryz.prog 79 #[.int .u8 b] w fun e w'=>e=.returned (.bool (za9 b))/\w=w':=by
 obtain⟨f,d,i,j,g⟩:∃f d:Bool,decide (b >= 48)=f/\decide (b<=57)=d/\za9 b=(f&&d):=⟨_,_,rfl,rfl,rfl⟩;rw[g];clear g;cases f <;> cases d
 all_goals
  go_enter Tryz.func79,Tryz.ntmps79
  go_wp2;go_ret;exact⟨rfl,rfl⟩
theorem zg1(b:Int)(w:World):Calls Tryz.prog 137 #[.int .u8 b] w fun e w'=>e=.returned (.bool (zeV b))/\w=w':=by
 obtain⟨g,f,d,l,m,j,i⟩:∃g f d:Bool,(b==32)=g/\(b==9)=f/\(b==10)=d/\zeV b=(g||(f||d)):=⟨_,_,_,rfl,rfl,rfl,rfl⟩;rw[i];clear i;cases g <;> cases f <;> cases d
 all_goals
  go_enter Tryz.func137,Tryz.ntmps137
  go_wp2;go_ret;exact⟨rfl,rfl⟩
theorem zfv(b:Int)(w:World):Calls Tryz.prog 138 #[.int .u8 b] w fun e w'=>e=.returned (.bool (b != 10))/\w=w':=by
 go_enter Tryz.func138,Tryz.ntmps138
 go_wp2;go_ret;exact⟨rfl,rfl⟩
theorem zh8(b:Int)(w:World):Calls Tryz.prog 102 #[.int .u8 b] w fun e w'=>e=.returned (.bool (zaV b||za9 b))/\w=w':=by
 have d:=zh (zbR b w);have f:=zh (zc0 b w);generalize zaV b=p at d ⊢;generalize za9 b=q at f ⊢;cases p
 ·go_enter Tryz.func102,Tryz.ntmps102
  go_wp2_with fail
  go_at_call 78;refine d.out.mono ?_;rintro g w2⟨rfl,rfl⟩;go_wp2_with fail
  go_at_call 79;refine f.out.mono ?_;rintro g w2⟨rfl,rfl⟩;go_wp2_with fail
  go_ret;exact⟨rfl,rfl⟩
 ·go_enter Tryz.func102,Tryz.ntmps102
  go_wp2_with fail
  go_at_call 78;refine d.out.mono ?_;rintro g w2⟨rfl,rfl⟩;go_wp2_with fail
  go_ret;exact⟨rfl,rfl⟩
theorem zlf(b z:Int)(lb:Nat)(q:Bool)(w:World)(j:w.cell? ⟨lb,0,none⟩=some (.int .i64 z))(i:w.frozen? ⟨lb,0,none⟩=false)(g : -20000<=z)(f:z<=100)(d:decide (z-1 >= 0)=q) :
  Calls Tryz.prog 107 #[.int .u8 b,.pointer (some ⟨lb,0,none⟩)] w fun e w'=>e=.returned (.bool q)/\w.setCell ⟨lb,0,none⟩ (.int .i64 (z-1))=w':=by
 go_enter Tryz.func107,Tryz.ntmps107
 go_wp2;go_ret;exact⟨by first|rfl|(rw[<-d];rfl)|(rw[<-d];simp),rfl⟩
theorem zmh(s:ByteArray)(h:0<s.size):za4 s.data.toList=(decide (s.size<=24)&&(zaH s[0]&&(s.data.toList.drop 0).all zaf)):=by
 have e:=za2 s h;rw[List.drop_zero] at e ⊢;have d:=zaq s;rw[e] at d ⊢;show(decide ((s[0]::s.data.toList.drop (0+1)).length<=24)&&zaH s[0]&&(s.data.toList.drop (0+1)).all zaf)=_;rw[d]
 cases hl:zaH s[0] with
 | false=>simp
 | true=>simp[List.all_cons,zcC hl]
theorem zlg (s:ByteArray) (w:World):Calls Tryz.prog 46 #[.string s] w fun e w'=>e=.returned (.bool (za4 s.data.toList))/\w=w':=by
 rcases Nat.eq_zero_or_pos s.size with A|A
 ·have m:Hid (za4 s.data.toList=false):=zh (by
   have:s.data.toList=[]:=List.eq_nil_of_length_eq_zero (by rw[zaq];exact A)
   rw[this];rfl)
  generalize za4 s.data.toList=d at m ⊢;have K:(s.size:Int)<1:=by omega
  clear A;go_enter Tryz.func46,Tryz.ntmps46
  go_wp2_with fail
  go_ret;exact⟨by rw[m.out];rfl,rfl⟩
 ·have K:¬ (s.size:Int) < 1:=by omega
  have u:=zh (zmh s A);generalize za4 s.data.toList=d at u ⊢;by_cases j:s.size<=24
  ·have z:¬ (s.size:Int) > 24:=by omega
   have I:(0:Int)<s.size:=by omega
   have C:=zh (zbR (s[0].toNat:Int) w);obtain⟨p,hp,y⟩:∃p:Bool,zaV (s[0].toNat:Int)=p/\zaH s[0]=p:=⟨_,rfl,rfl⟩;rw[hp] at C;have v:Hid (d=(p&&(s.data.toList.drop 0).all zaf)):=zh (by rw[u.out,y,decide_eq_true j,Bool.true_and]);have H:s[0].toNat<=255:=by have:=s[0].toNat_lt;omega
   clear hp y u;cases p
   ·go_enter Tryz.func46,Tryz.ntmps46
    go_wp2_with fail
    go_at_call 78;refine C.out.mono ?_;rintro l w2⟨rfl,rfl⟩;go_wp2_with fail
    go_ret;exact⟨by rw[v.out];rfl,rfl⟩
   ·go_enter Tryz.func46,Tryz.ntmps46
    go_wp2_with fail
    go_at_call 78;refine C.out.mono ?_;rintro l w2⟨rfl,rfl⟩;go_wp2_with fail
    obtain⟨D,rfl⟩:∃D:World,D=w:=⟨_,rfl⟩;go_loopw [2,3,20,21,22,23,24,25,26,27,28,29,30,31,32,33,34,35] (fun _ _ t20 _ _ _ _ _ _ _ _ _ _ _ _ _ _ _ wr=>∃k:Nat,k<=s.size/\t20=.int .i64 k/\Hid (d=(s.data.toList.drop k).all zaf)/\wr=D) (fun _ _ t20 _ _ _ _ _ _ _ _ _ _ _ _ _ _ _ _=>s.size-(intOf t20).toNat)
    case atStart=>exact⟨0,by omega,rfl,zh (by rw[v.out];rfl),rfl⟩
    case round =>
     obtain⟨k,L,rfl,F,rfl⟩:=hrel;by_cases B:k<s.size
     ·have J:s[k].toNat<=255:=by have:=s[k].toNat_lt;omega
      have f:=zh (zbR (s[k].toNat:Int) wr);have i:=zh (zc0 (s[k].toNat:Int) wr);obtain⟨p,q,hp,G,E⟩:∃p q:Bool,zaV (s[k].toNat:Int)=p/\za9 (s[k].toNat:Int)=q/\Hid (zaf s[k]=(p||q)):=⟨_,_,rfl,rfl,zh rfl⟩;rw[hp] at f;rw[G] at i;have g:Hid (d=((p||q)&&(s.data.toList.drop (k+1)).all zaf)):=zh (by rw[F.out,za2 s B,List.all_cons,E.out]);clear hp G;cases p
      ·cases q
       ·go_wp2_with fail
        go_at_call 78;refine f.out.mono ?_;rintro l w2⟨rfl,rfl⟩;go_wp2_with fail
        go_at_call 79;refine i.out.mono ?_;rintro l w2⟨rfl,rfl⟩;go_wp2_with fail
        go_ret;exact⟨by rw[g.out];rfl,rfl⟩
       ·go_wp2_with fail
        go_at_call 78;refine f.out.mono ?_;rintro l w2⟨rfl,rfl⟩;go_wp2_with fail
        go_at_call 79;refine i.out.mono ?_;rintro l w2⟨rfl,rfl⟩;go_wp2_with fail
        go_roundw
        case rel=>exact⟨k+1,by omega,by go_num,zh (by rw[g.out];rfl),by first|rfl|trivial⟩
        case measure=>simp[intOf];omega
      ·go_wp2_with fail
       go_at_call 78;refine f.out.mono ?_;rintro l w2⟨rfl,rfl⟩;go_wp2_with fail
       go_roundw
       case rel=>exact⟨k+1,by omega,by go_num,zh (by rw[g.out];rfl),by first|rfl|trivial⟩
       case measure=>simp[intOf];omega
     ·have m:Hid (d=true):=zh (by rw[F.out,zdf s (by omega)];rfl);go_wp2_with fail
      go_ret;exact⟨by rw[m.out];rfl,rfl⟩
  ·have z:(s.size:Int)>24:=by omega
   have m:Hid (d=false):=zh (by rw[u.out,decide_eq_false j];rfl);clear u j;go_enter Tryz.func46,Tryz.ntmps46
   go_wp2_with fail
   go_ret;exact⟨by rw[m.out];rfl,rfl⟩
theorem zdn(l:List UInt8):(bstr l).data.toList=l:=by unfold bstr;simp
theorem zm5(s:ByteArray)(h:0<s.size):za4 s.data.toList=(decide (s.size<=24)&&zaH s[0]&&(s.data.toList.drop 1).all zaf):=by
 have e:=za2 s h;rw[List.drop_zero] at e;have d:=zaq s;rw[e] at d ⊢;unfold za4;rw[yB] at d;simp only[yB,d,Nat.zero_add,List.drop_succ_cons,List.drop_zero]
theorem zjC(s:ByteArray):(s.data.toList.drop 1).all zaf=true ↔ ∀(j:Nat) (h:j<s.size),1<=j->zaf s[j]=true:=by
 rw[List.all_eq_true];constructor
 ·intro h j d g;refine h _ (List.mem_iff_getElem.2 ⟨j-1,by rw[List.length_drop,zaq];omega,?_⟩);rw[List.getElem_drop];have:1+(j-1)=j:=by omega
  simp only[this];rfl
 ·intro h x f;obtain⟨j,d,rfl⟩:=List.mem_iff_getElem.1 f;rw[List.length_drop,zaq] at d;rw[List.getElem_drop];exact h (1+j) (by omega) (by omega)
theorem zmi (s:ByteArray) (w:World):Calls Tryz.prog 48 #[.string s] w fun e w'=>e=.returned (.bool (za4 s.data.toList))/\w=w':=by
 rcases Nat.eq_zero_or_pos s.size with D|D
 ·have g:Hid (za4 s.data.toList=false):=zh (by
   have:s.data.toList=[]:=List.eq_nil_of_length_eq_zero (by rw[zaq];exact D)
   rw[this];rfl)
  generalize za4 s.data.toList=d at g ⊢;have Q:((s.size:Int)==0)=true:=by simp[D]
  clear D;go_enter Tryz.func48,Tryz.ntmps48
  go_wp2_with fail
  go_ret;exact⟨by rw[g.out];rfl,rfl⟩
 ·have Q:((s.size:Int) == 0)=false:=by rw [beq_eq_false_iff_ne];omega
  have F:=zh (zm5 s D);generalize za4 s.data.toList=d at F ⊢;by_cases C:s.size<=24
  ·have A:¬ (s.size:Int) > 24:=by omega
   have P:(0:Int)<s.size:=by omega
   have f:=zh (zc1 (s[0].toNat:Int) w);obtain⟨p,hp,z⟩:∃p:Bool,zaV (s[0].toNat:Int)=p/\zaH s[0]=p:=⟨_,rfl,rfl⟩;rw[hp] at f;have i:Hid (d=(p&&(s.data.toList.drop 1).all zaf)):=zh (by rw[F.out,z,decide_eq_true C,Bool.true_and]);have O:s[0].toNat<=255:=by have:=s[0].toNat_lt;omega
   clear hp z F;cases p
   ·go_enter Tryz.func48,Tryz.ntmps48
    go_wp2_with fail
    go_at_call 80;refine f.out.mono ?_;rintro m w2⟨rfl,rfl⟩;go_wp2_with fail
    go_ret;exact⟨by rw[i.out];rfl,rfl⟩
   ·go_enter Tryz.func48,Tryz.ntmps48
    go_wp2_with fail
    go_at_call 80;refine f.out.mono ?_;rintro m w2⟨rfl,rfl⟩;go_wp2_with fail
    go_loopw [2,3,18,19,20,21,22,23,24,25,26,27,28,29,30,31,32,33,34,35] (fun _ t3 _ _ _ _ _ _ _ _ _ _ _ _ _ _ _ _ _ _ wr=>∃k:Nat,1<=k/\k<=s.size/\t3=.int .i64 k/\Hid (∀(j:Nat) (h:j<s.size),1<=j->j<k->zaf s[j]=true)/\wr=w) (fun _ t3 _ _ _ _ _ _ _ _ _ _ _ _ _ _ _ _ _ _ _=>s.size-(intOf t3).toNat)
    case atStart=>exact⟨1,by omega,by omega,rfl,zh (by intro j _ h1 N;omega),rfl⟩
    case round =>
     obtain⟨k,G,R,rfl,K,rfl⟩:=hrel;by_cases I:k<s.size
     ·have v:(k:Int)<s.size:=by omega
      have f:=zh (zc1 (s[k].toNat:Int) wr);have J:=zh (zcP (s[k].toNat:Int) wr);obtain⟨l,y,B,u,E⟩:∃l y:Bool,zaV (s[k].toNat:Int)=l/\za9 (s[k].toNat:Int)=y/\zaf s[k]=(l||y):=⟨_,_,rfl,rfl,rfl⟩;rw[B] at f;rw[u] at J;have q:=zh E;have M:s[k].toNat<=255:=by have:=s[k].toNat_lt;omega
      clear B u E
      have L:Hid (l=true∨y=true->∀(j:Nat) (h:j<s.size),1<=j->j<k+1->zaf s[j]=true):=zh (by
       intro H j hj h1 N;rcases Nat.lt_or_ge j k with h|h
       ·exact K.out j hj h1 h
       ·obtain rfl:j=k:=by omega
        rw[q.out];rcases H with rfl|rfl
        ·rfl
        ·cases l <;> rfl)
      cases l
      ·cases y
       ·have g:Hid (d=false):=zh (by
         rw[i.out,Bool.true_and,Bool.eq_false_iff];intro h;have:=(zjC s).1 h k I G;rw[q.out] at this
         cases this)
        go_wp2_with fail
        go_at_call 80;refine f.out.mono ?_;rintro m w2⟨rfl,rfl⟩;go_wp2_with fail
        go_at_call 81;refine J.out.mono ?_;rintro m w2⟨rfl,rfl⟩;go_wp2_with fail
        go_ret;exact⟨by rw[g.out];rfl,by first|rfl|trivial⟩
       ·go_wp2_with fail
        go_at_call 80;refine f.out.mono ?_;rintro m w2⟨rfl,rfl⟩;go_wp2_with fail
        go_at_call 81;refine J.out.mono ?_;rintro m w2⟨rfl,rfl⟩;go_wp2_with fail
        go_roundw
        case rel=>exact⟨k+1,by omega,by omega,by go_num,zh (L.out (.inr (by first|rfl|trivial))),by first|rfl|trivial⟩
        case measure=>simp[intOf];omega
      ·go_wp2_with fail
       go_at_call 80;refine f.out.mono ?_;rintro m w2⟨rfl,rfl⟩;go_wp2_with fail
       go_roundw
       case rel=>exact⟨k+1,by omega,by omega,by go_num,zh (L.out (.inl (by first|rfl|trivial))),by first|rfl|trivial⟩
       case measure=>simp[intOf];omega
     ·have v:¬(k:Int)<s.size:=by omega
      have g:Hid (d=true):=zh (by
       rw[i.out,Bool.true_and,zjC]
       exact fun j hj h1=>K.out j hj h1 (by omega))
      go_wp2_with fail
      go_ret;exact⟨by rw[g.out];rfl,by first|rfl|trivial⟩
  ·have A:(s.size:Int)>24:=by omega
   have g:Hid (d=false):=zh (by rw[F.out,decide_eq_false C];rfl);go_enter Tryz.func48,Tryz.ntmps48
   go_wp2_with fail
   go_ret;exact⟨by rw[g.out];rfl,rfl⟩
theorem zmj(s:List UInt8)(w:World):Calls Tryz.prog 48 #[.string (bstr s)] w fun e w'=>e=.returned (.bool (za4 s))/\w=w':=by
 have h:=zmi (bstr s) w;rw[zdn] at h;exact h
theorem zmk{l:List Tok}{i:Nat}(hi:i<l.length):zaa l i=l[i]:=by
 unfold zaa;rw[List.getD_eq_getElem?_getD,yD hi];rfl
theorem zaF{w:World}{l:List Tok}{a:Option Addr}{m cap:Nat}(h:Toks w l (.slice a m cap)){i:Nat}(hi:i<l.length) :
  ∃b d,a=some ⟨b,d,none⟩/\w.cell? ⟨b,d+i*5,none⟩=some (.int .u8 (zaa l i).kind)/\w.cell? ⟨b,d+i*5+1,none⟩=some (.string (bstr (zaa l i).text))/\w.cell? ⟨b,d+i*5+2,none⟩=some (.int .i64 (zaa l i).n)/\w.cell? ⟨b,d+i*5+3,none⟩=some (.int .i64 (zaa l i).line)/\w.cell? ⟨b,d+i*5+4,none⟩=some (.int .i64 (zaa l i).col):=by
 obtain⟨b,d,rfl,g,q⟩:=Sl.at (by omega) h (by omega)
 have f:∀j,j<5->w.cell? ⟨b,d+(i*5+j),none⟩=(Tok.cells (zaa l i))[j]?:=by
  intro j u;rw[q (i*5+j) (by omega),zeW Tok.cells 5 (fun _=>rfl) l i hi j u];rw[zmk hi]
 exact⟨b,d,rfl,f 0 (by omega),f 1 (by omega),f 2 (by omega),f 3 (by omega),f 4 (by omega)⟩
end Go.Proofs.YtoaojdobjinhfaaGreatDoor
