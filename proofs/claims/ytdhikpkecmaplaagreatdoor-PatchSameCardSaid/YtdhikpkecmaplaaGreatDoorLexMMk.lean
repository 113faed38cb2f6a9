/- The lexer's answer without fuel; what its tokens are like; joining. Plain mathematics. -/
import Derived.Test.YtdhikpkecmaplaaGreatDoorRLexMk
set_option linter.unusedSimpArgs false
set_option linter.unusedVariables false
set_option maxHeartbeats 1000000
namespace Go.Proofs.YtdhikpkecmaplaaGreatDoor
theorem zcC {b:UInt8} (h:zaH b=true):zaf b=true:=by simp [zaf,h]
theorem zcZ {b:UInt8} (h:zaG b=true):zaf b=true:=by simp [zaf,h]
theorem zfh {b:UInt8} {r:List UInt8} (h:zaf b=true):1<=((b :: r).takeWhile zaf).length:=by
 simp [h]
theorem zeU {go go':List UInt8->Int->Int->LexR} {xs:List UInt8} {l c:Int} (h:∀ ys a b,ys.length < xs.length->go ys a b=go' ys a b):zaK go xs l c=zaK go' xs l c:=by
 cases xs with
 | nil=>rfl
 | cons b r =>
  simp only [zaK];split
  ·rename_i hl
   have:=zfh (r:=r) (zcC hl);rw [h _ _ _ (by simp only [List.length_drop,yB];omega)]
  ·split
   ·rename_i hd
    have:=zfh (r:=r) (zcZ hd);rw [h _ _ _ (by simp only [List.length_drop,yB];omega)]
   ·split
    ·rfl
    ·rw [h _ _ _ (by simp only [List.length_drop,yB];omega)]
theorem zc9:∀ (bs:List UInt8) (cm:Bool) (l c:Int),(zam bs cm l c).1.length<=bs.length:=by
 intro bs
 induction bs with
 | nil=>intro cm l c;simp [zam]
 | cons b r ih =>
  intro cm l c;rw [zam];split
  ·have:=ih false (l+1) 1;simp only [yB];omega
  ·split
   ·have:=ih true l (c+1);simp only [yB];omega
   ·split
    ·have:=ih false l (c+1);simp only [yB];omega
    ·split
     ·have:=ih true l (c+1);simp only [yB];omega
     ·exact zr _
theorem zjY:∀ (f g:Nat) (bs:List UInt8) (l c:Int),bs.length < f->bs.length < g->zbr f bs l c=zbr g bs l c:=by
 intro f
 induction f with
 | zero=>intro g bs l c h;omega
 | succ f ih =>
  intro g bs l c hf hg
  cases g with
  | zero=>omega
  | succ g =>
   rw [zbr,zbr];refine zeU fun ys a b hy=>ih g ys a b ?_ ?_
   ·have:=zc9 bs false l c;omega
   ·have:=zc9 bs false l c;omega
def lexF (bs : List UInt8) (l c : Int) : LexR := zbr (bs.length + 1) bs l c
def lexT (bs : List UInt8) (l c : Int) : LexR := zaK lexF bs l c
theorem zbY (bs:List UInt8) (l c:Int):lexF bs l c=lexT (zam bs false l c).1 (zam bs false l c).2.1 (zam bs false l c).2.2:=by
 show zbr (bs.length+1) bs l c=_;rw [zbr];refine zeU fun ys a b hy=>zjY _ _ ys a b ?_ (Nat.lt_succ_self _)
 have:=zc9 bs false l c;omega
theorem zcO (bs:List UInt8):lexS bs=if 16384 < bs.length then .err 0 0 3 else lexF bs 1 1:=rfl
theorem zda (l c:Int):lexF [] l c=.ok [⟨4,[],0,l,c⟩]:=rfl

def zct : List UInt8 -> Bool
  | [] => true
  | b :: _ => !zaf b && !(b == 61) && !(b == 38) && !(b == 124)
theorem zcH {xs ys:List UInt8} (h:xs.all zaf=true) (hy:ys.head?.all (fun b=>!zaf b)=true):(xs++ys).takeWhile zaf=xs:=by
 induction xs with
 | nil =>
  cases ys with
  | nil=>rfl
  | cons b r=>simp at hy;simp [hy]
 | cons b r ih =>
  simp only [List.all_cons,yC] at h;simp [h.1,ih h.2]
theorem zgb {ys:List UInt8} (h:zct ys=true):ys.head?.all (fun b=>!zaf b)=true:=by
 cases ys with
 | nil=>rfl
 | cons b r =>
  simp only [zct,yC] at h;simpa using h.1.1.1
inductive TokOk : Tok -> Prop
  | word {b : UInt8} {r : List UInt8} {l c : Int} (h1 : zaH b = true) (h2 : (b :: r).all zaf = true) (h3 : (b :: r).length <= 24) : TokOk ⟨1, b :: r, 0, l, c⟩
  | number {b : UInt8} {r : List UInt8} {n l c : Int} (h0 : zaH b = false) (h1 : zaG b = true) (h2 : (b :: r).all zaf = true) (h3 : zaS (b :: r) = some n) : TokOk ⟨2, b :: r, n, l, c⟩
  | sign {b : UInt8} {r : List UInt8} {l c : Int} (h0 : zaH b = false) (h1 : zaG b = false) (h2 : zag (b :: r) = (b :: r).length) : TokOk ⟨3, b :: r, 0, l, c⟩
def Tok.bare (t : Tok) : Int × List UInt8 × Int := (t.kind, t.text, t.n)
def Tok.moved (t : Tok) (l c : Int) : Tok := ⟨t.kind, t.text, t.n, l, c⟩
theorem TokOk.moved {t:Tok} (h:TokOk t) (l c:Int):TokOk (t.moved l c):=by
 cases h with
 | word h1 h2 h3=>exact .word h1 h2 h3
 | number h0 h1 h2 h3=>exact .number h0 h1 h2 h3
 | sign h0 h1 h2=>exact .sign h0 h1 h2
theorem TokOk.kind {t:Tok} (h:TokOk t):t.kind≠4:=by cases h <;> simp
theorem TokOk.text {t:Tok} (h:TokOk t):t.text≠[]:=by cases h <;> simp
theorem zfE (xs:List UInt8):xs.take (xs.takeWhile zaf).length=xs.takeWhile zaf:=by
 induction xs with
 | nil=>rfl
 | cons b r ih =>
  by_cases h:zaf b=true
  ·simp [h,ih]
  ·simp [h]
theorem zgH (xs:List UInt8):(xs.takeWhile zaf).all zaf=true:=by
 induction xs with
 | nil=>rfl
 | cons b r ih =>
  by_cases h:zaf b=true
  ·simp only [List.takeWhile_cons,h,if_true,List.all_cons,Bool.true_and];exact ih
  ·simp [h]
theorem zfF {b:UInt8} {r:List UInt8} (h:zaf b=true):(b :: r).takeWhile zaf=b :: r.takeWhile zaf:=by simp [h]
theorem zgI (xs:List UInt8):zag xs<=xs.length:=by
 match xs with
 | []=>exact zr _
 | [a]=>simp only [zag];split <;> simp
 | a :: b :: r=>simp only [zag];split <;> (try split) <;> simp
theorem zh6 (xs:List UInt8):zag xs<=2:=by
 match xs with
 | []=>simp [zag]
 | [a]=>simp only [zag];split <;> simp
 | a :: b :: r=>simp only [zag];split <;> (try split) <;> simp
theorem zlc (xs:List UInt8) (h:zag xs≠0):zag (xs.take (zag xs))=zag xs:=by
 match xs,h with
 | [],h=>exact absurd rfl h
 | [a],h =>
  have h1:zag [a]=1:=by
   simp only [zag] at h ⊢;split at h
   ·rename_i h';rw [yP h']
   ·exact absurd rfl h
  rw [h1];exact h1
 | a :: b :: r,h =>
  have e:zag (a :: b :: r)=if (a.toNat,b.toNat) ∈ zbB then 2 else if a.toNat ∈ zbt then 1 else 0:=rfl
  rw [e] at h ⊢;split
  ·rename_i h2
   show zag [a,b]=2;simp only [zag];rw [yP h2]
  ·rename_i h2
   rw [yN h2] at h;split
   ·rename_i h1
    show zag [a]=1;simp only [zag];rw [yP h1]
   ·rename_i h1
    rw [yN h1] at h;exact absurd rfl h
theorem zet (bs:List UInt8) (l c:Int) :
  (bs=[]/\lexT bs l c=.ok [⟨4,[],0,l,c⟩]) ∨
  (∃ code:Int,bs≠[]/\lexT bs l c=.err l c code/\(code=110∨code=111∨code=112)) ∨
  (∃ t:Tok,TokOk t/\t.line=l/\t.col=c/\bs=t.text++bs.drop t.text.length/\t.text.length<=bs.length/\lexT bs l c=(lexF (bs.drop t.text.length) l (c+t.text.length)).cons t):=by
 cases bs with
 | nil=>exact .inl ⟨rfl,rfl⟩
 | cons b r =>
  refine .inr ?_;show _∨_;have hT:lexT (b :: r) l c=zaK lexF (b :: r) l c:=rfl;rw [hT,zaK];have hlen:∀ n,n<=(b :: r).length->((b :: r).take n).length=n:=fun n h=>by rw [List.length_take];omega
  have hw:((b :: r).takeWhile zaf).length<=(b :: r).length:=(List.takeWhile_prefix _).length_le;split
  ·rename_i hl
   split
   ·exact .inl ⟨111,by simp,rfl,by simp⟩
   ·rename_i h24
    refine .inr ⟨⟨1,(b :: r).takeWhile zaf,0,l,c⟩,?_,rfl,rfl,?_,hw,rfl⟩
    ·have ha:=zgH (b :: r);have hc:=zfF (r:=r) (zcC hl);rw [hc] at ha h24 ⊢;exact .word hl ha (by omega)
    ·show b :: r=(b :: r).takeWhile zaf++(b :: r).drop ((b :: r).takeWhile zaf).length;have:=List.take_append_drop ((b :: r).takeWhile zaf).length (b :: r);rw [zfE] at this;exact this.symm
  ·rename_i hl
   split
   ·rename_i hd
    split
    ·exact .inl ⟨112,by simp,rfl,by simp⟩
    ·rename_i n hn
     refine .inr ⟨⟨2,(b :: r).takeWhile zaf,n,l,c⟩,?_,rfl,rfl,?_,hw,rfl⟩
     ·have ha:=zgH (b :: r);have hc:=zfF (r:=r) (zcZ hd);rw [hc] at ha hn ⊢;exact .number (by simpa using hl) hd ha hn
     ·show b :: r=(b :: r).takeWhile zaf++(b :: r).drop ((b :: r).takeWhile zaf).length;have:=List.take_append_drop ((b :: r).takeWhile zaf).length (b :: r);rw [zfE] at this;exact this.symm
   ·rename_i hd
    split
    ·exact .inl ⟨110,by simp,rfl,by simp⟩
    ·rename_i hs
     have hs1:=zgI (b :: r);have hs2:=zlc (b :: r) hs;refine .inr ⟨⟨3,(b :: r).take (zag (b :: r)),0,l,c⟩,?_,rfl,rfl,?_,?_,?_⟩
     ·obtain ⟨k,hk⟩:∃ k,zag (b :: r)=k+1:=⟨zag (b :: r) - 1,by omega⟩;rw [hk] at hs2 ⊢;rw [List.take_succ_cons] at hs2 ⊢;refine .sign (by simpa using hl) (by simpa using hd) ?_;rw [hs2,<- List.take_succ_cons,hlen _ (by omega)]
     ·show b :: r=(b :: r).take (zag (b :: r))++(b :: r).drop ((b :: r).take (zag (b :: r))).length;rw [hlen _ hs1,List.take_append_drop]
     ·show ((b :: r).take (zag (b :: r))).length<=_;rw [hlen _ hs1];exact hs1
     ·show _=(lexF ((b :: r).drop ((b :: r).take (zag (b :: r))).length) l (c+((b :: r).take (zag (b :: r))).length)).cons _;rw [hlen _ hs1]
theorem zld {xs ys:List UInt8} (h0:xs≠[]) (h:zag xs=xs.length) (hy:zct ys=true):zag (xs++ys)=xs.length:=by
 match xs,h0 with
 | [a],_ =>
  cases ys with
  | nil=>exact h
  | cons b r =>
   have h1:a.toNat ∈ zbt:=by
    simp only [zag] at h;split at h
    ·assumption
    ·exact absurd h (by simp)
   have h2:¬ (a.toNat,b.toNat) ∈ zbB:=by
    intro h2;simp only [zct,yC,Bool.not_eq_true',beq_eq_false_iff_ne,ne_eq] at hy;obtain ⟨⟨⟨_,h61⟩,h38⟩,h124⟩:=hy;have e:∀ k:UInt8,b.toNat=k.toNat->b=k:=fun k hk=>UInt8.toNat_inj.1 hk
    simp only [zbB,List.mem_cons,Prod.mk.injEq,List.not_mem_nil,or_false] at h2;rcases h2 with h2 | h2 | h2 | h2 | h2 | h2
    ·exact h61 (e 61 h2.2)
    ·exact h61 (e 61 h2.2)
    ·exact h61 (e 61 h2.2)
    ·exact h61 (e 61 h2.2)
    ·exact h38 (e 38 h2.2)
    ·exact h124 (e 124 h2.2)
   show zag (a :: b :: r)=1;simp only [zag]
   rw [yN h2,yP h1]
 | [a,b],_=>exact h
 | a :: b :: d :: r,_ =>
  have:=zh6 (a :: b :: d :: r);rw [h] at this;simp at this
theorem zmg {t:Tok} (ht:TokOk t) {r:List UInt8} (hr:zct r=true) (l c:Int):lexT (t.text++r) l c=(lexF r l (c+t.text.length)).cons (t.moved l c):=by
 have hp:=zgb hr
 cases ht with
 | @word b s l0 c0 h1 h2 h3 =>
  have hw:(b :: (s++r)).takeWhile zaf=b :: s:=zcH (xs:=b :: s) h2 hp;show zaK lexF (b :: (s++r)) l c=_;rw [zaK,yP h1,hw,yN (by omega),show b :: (s++r)=(b :: s)++r from rfl,List.drop_left]
  rfl
 | @number b s n l0 c0 h0 h1 h2 h3 =>
  have hw:(b :: (s++r)).takeWhile zaf=b :: s:=zcH (xs:=b :: s) h2 hp;show zaK lexF (b :: (s++r)) l c=_;rw [zaK,yN (by rw [h0];simp),yP h1,hw,h3,show b :: (s++r)=(b :: s)++r from rfl,List.drop_left]
  rfl
 | @sign b s l0 c0 h0 h1 h2 =>
  have hs:zag (b :: (s++r))=(b :: s).length:=zld (xs:=b :: s) (by simp) h2 hr;show zaK lexF (b :: (s++r)) l c=_;rw [zaK,yN (by rw [h0];simp),yN (by rw [h1];simp),hs,yN (by simp),show b :: (s++r)=(b :: s)++r from rfl,List.drop_left,List.take_left];rfl
theorem zgY {t:Tok} (ht:TokOk t) (r:List UInt8) (l c:Int):zam (t.text++r) false l c=(t.text++r,l,c):=by
 cases ht with
 | @word b s l0 c0 h1 h2 h3 =>
  have hb:zaV (b.toNat:Int)=true:=h1;simp only [zaV,Bool.or_eq_true,yC,yQ,beq_iff_eq] at hb
  exact zcu (by omega) (by omega) (by omega) (by omega)
 | @number b s n l0 c0 h0 h1 h2 h3 =>
  have hb:za9 (b.toNat:Int)=true:=h1;simp only [za9,yC,yQ] at hb
  exact zcu (by omega) (by omega) (by omega) (by omega)
 | @sign b s l0 c0 h0 h1 h2 =>
  have hn:zag (b :: s)≠0:=by rw [h2];simp
  have hb:b.toNat ∈ zbt∨b.toNat=38∨b.toNat=124:=by
   cases s with
   | nil =>
    simp only [zag] at hn;split at hn
    ·exact .inl ‹_›
    ·exact absurd rfl hn
   | cons d s =>
    simp only [zag] at hn;split at hn
    ·rename_i h
     simp only [zbB,List.mem_cons,Prod.mk.injEq,List.not_mem_nil,or_false] at h;simp only [zbt,List.mem_cons,List.not_mem_nil,or_false];omega
    ·split at hn
     ·exact .inl ‹_›
     ·exact absurd rfl hn
  simp only [zbt,List.mem_cons,List.not_mem_nil,or_false] at hb;exact zcu (by omega) (by omega) (by omega) (by omega)
theorem zfG {t:Tok} (ht:TokOk t) {r:List UInt8} (hr:zct r=true) (l c:Int):lexF (t.text++r) l c=(lexF r l (c+t.text.length)).cons (t.moved l c):=by
 rw [zbY,zgY ht];exact zmg ht hr l c
theorem zgc (r:List UInt8) (l c:Int):lexF (32 :: r) l c=lexF r l (c+1):=by
 rw [zbY,zbY r,zdG (.inl rfl)]
def posS : List UInt8 -> Int -> Int -> Int × Int
  | [], l, c => (l, c)
  | b :: r, l, c => if b.toNat = 10 then posS r (l + 1) 1 else posS r l (c + 1)
theorem ziU:∀ (xs ys:List UInt8) (l c:Int),posS (xs++ys) l c=posS ys (posS xs l c).1 (posS xs l c).2:=by
 intro xs
 induction xs with
 | nil=>intro ys l c;rfl
 | cons b r ih =>
  intro ys l c;simp only [List.cons_append,posS];split
  ·exact ih _ _ _
  ·exact ih _ _ _
def runK (p : Nat -> UInt8 -> Bool) : Nat -> List UInt8 -> Nat
  | _, [] => 0
  | k, b :: r => if p k b = true then runK p (k + 1) r + 1 else 0
theorem zfi (p:Nat->UInt8->Bool):∀ (bs:List UInt8) (k:Nat),runK p k bs<=bs.length:=by
 intro bs
 induction bs with
 | nil=>intro k;exact zr _
 | cons b r ih=>intro k;rw [runK];split;have:=ih (k+1);simp only [yB];omega;simp
theorem zeu (p:UInt8->Bool):∀ (bs:List UInt8) (k:Nat),runK (fun _=>p) k bs=(bs.takeWhile p).length:=by
 intro bs
 induction bs with
 | nil=>intro k;rfl
 | cons b r ih =>
  intro k;rw [runK,ih (k+1)];by_cases h:p b=true
  ·simp [h]
  ·simp [h]
theorem zjZ (m:Nat):∀ (bs:List UInt8) (k:Nat),k<=m->m<=k+bs.length->runK (fun j _=>decide (j < m)) k bs=m - k:=by
 intro bs
 induction bs with
 | nil=>intro k h1 h2;simp at h2;rw [runK];omega
 | cons b r ih =>
  intro k h1 h2;rw [runK];simp only [yB] at h2;by_cases h:k < m
  ·rw [yP (by simpa using h),ih (k+1) (by omega) (by omega)];omega
  ·rw [yN (by simpa using h)];omega
def zeV (b : Int) : Bool := (b == 32) || ((b == 9) || (b == 10))
def zbi (b : UInt8) : Bool := zeV (b.toNat : Int)
def zgJ (b : Int) : Bool := b != 10
def zaU (b : UInt8) : Bool := zgJ (b.toNat : Int)
theorem zgZ (b:UInt8):zbi b=true ↔ b.toNat=32∨b.toNat=9∨b.toNat=10:=by
 unfold zbi zeV;simp only [Bool.or_eq_true,beq_iff_eq];omega
theorem zdx (b:UInt8):zaU b=true ↔ b.toNat≠10:=by
 unfold zaU zgJ;simp only [bne_iff_ne,ne_eq];omega
theorem zfu:∀ (bs:List UInt8) (l c:Int),zam bs false l c=zam (bs.drop (bs.takeWhile zbi).length) false (posS (bs.take (bs.takeWhile zbi).length) l c).1 (posS (bs.take (bs.takeWhile zbi).length) l c).2:=by
 intro bs
 induction bs with
 | nil=>intro l c;rfl
 | cons b r ih =>
  intro l c;by_cases h:zbi b=true
  ·simp only [List.takeWhile_cons,h,if_true,yB,List.drop_succ_cons,List.take_succ_cons,posS];rcases (zgZ b).1 h with e | e | e
   ·rw [yN (by omega),zdG (.inl e)];exact ih _ _
   ·rw [yN (by omega),zdG (.inr e)];exact ih _ _
   ·rw [yP e,zdF e];exact ih _ _
  ·simp only [List.takeWhile_cons,h];rfl
theorem zgd:∀ (bs:List UInt8) (l c:Int),zam bs true l c=zam (bs.drop (bs.takeWhile zaU).length) false (posS (bs.take (bs.takeWhile zaU).length) l c).1 (posS (bs.take (bs.takeWhile zaU).length) l c).2:=by
 intro bs
 induction bs with
 | nil=>intro l c;rfl
 | cons b r ih =>
  intro l c;by_cases h:zaU b=true
  ·simp only [List.takeWhile_cons,h,if_true,yB,List.drop_succ_cons,List.take_succ_cons,posS];have e:=(zdx b).1 h;rw [yN e,zfj e];exact ih _ _
  ·simp only [List.takeWhile_cons,h];have e:b.toNat=10:=Classical.byContradiction fun e=>h ((zdx b).2 e)
   exact zfI (.inr ⟨b,r,rfl,e⟩)
theorem zh7 {b:UInt8} {r:List UInt8} (h:b.toNat=35) (l c:Int):zam (b :: r) false l c=zam ((b :: r).drop ((b :: r).takeWhile zaU).length) false (posS ((b :: r).take ((b :: r).takeWhile zaU).length) l c).1 (posS ((b :: r).take ((b :: r).takeWhile zaU).length) l c).2:=by
 have hi:zaU b=true:=(zdx b).2 (by omega);simp only [List.takeWhile_cons,hi,if_true,yB,List.drop_succ_cons,List.take_succ_cons,posS];rw [yN (by omega),zgK h];exact zgd _ _ _
theorem zg0 {p:UInt8->Bool} (bs:List UInt8):(bs.drop (bs.takeWhile p).length).head?.all (fun b=>!p b)=true:=by
 induction bs with
 | nil=>rfl
 | cons b r ih =>
  by_cases h:p b=true
  ·simp only [List.takeWhile_cons,h,if_true,yB,List.drop_succ_cons];exact ih
  ·simp [h]
theorem zm4:∀ (bs:List UInt8) (l c:Int),0<=l->0<=c->(l<=(posS bs l c).1/\(posS bs l c).1<=l+bs.length)/\(0<=(posS bs l c).2/\((posS bs l c).2<=c+bs.length∨(posS bs l c).2<=1+bs.length)):=by
 intro bs
 induction bs with
 | nil=>intro l c _ hc;simp only [posS];exact ⟨⟨by omega,by simp⟩,hc,.inl (by simp)⟩
 | cons b r ih =>
  intro l c hl hc;simp only [posS,yB];split
  ·have:=ih (l+1) 1 (by omega) (by omega);omega
  ·have:=ih l (c+1) hl (by omega);omega
theorem zle:∀ (bs:List UInt8) (cm:Bool) (l c:Int),∃ n,n<=bs.length/\(zam bs cm l c).1=bs.drop n/\(zam bs cm l c).2=posS (bs.take n) l c:=by
 intro bs
 induction bs with
 | nil=>intro cm l c;exact ⟨0,zr _,rfl,rfl⟩
 | cons b r ih =>
  intro cm l c
  have key:∀ cm' l' c',posS [b] l c=(l',c')->zam (b :: r) cm l c=zam r cm' l' c'->∃ n,n<=(b :: r).length/\(zam (b :: r) cm l c).1=(b :: r).drop n/\(zam (b :: r) cm l c).2=posS ((b :: r).take n) l c:=by
   intro cm' l' c' hp he;obtain ⟨n,h1,h2,h3⟩:=ih cm' l' c';refine ⟨n+1,by simpa using h1,by rw [he,h2,List.drop_succ_cons],?_⟩;rw [he,h3,List.take_succ_cons,show b :: r.take n=[b]++r.take n from rfl,ziU,hp]
  by_cases h10:b.toNat=10
  ·exact key false (l+1) 1 (by simp [posS,h10]) (zdF h10)
  ·have hp:posS [b] l c=(l,c+1):=by simp [posS,h10]
   cases cm with
   | true=>exact key true _ _ hp (zfj h10)
   | false =>
    by_cases hs:b.toNat=32∨b.toNat=9
    ·exact key false _ _ hp (zdG hs)
    ·by_cases h35:b.toNat=35
     ·exact key true _ _ hp (zgK h35)
     ·exact ⟨0,Nat.zero_le _,by rw [zcu h10 (by omega) (by omega) h35];rfl,by rw [zcu h10 (by omega) (by omega) h35];rfl⟩
open Go.RowKit

theorem zbR (b:Int) (w:World):Calls Tryz.prog 160 #[.int .u8 b] w fun e w'=>e=.returned (.bool (zaV b))/\w=w':=by
 obtain ⟨p1,p2,p3,p4,p5,q1,q2,q3,q4,q5,hq⟩:∃ p1 p2 p3 p4 p5:Bool,decide (b >= 97)=p1/\decide (b<=122)=p2/\decide (b >= 65)=p3/\decide (b<=90)=p4/\(b == 95)=p5/\zaV b=((p1 && p2) || ((p3 && p4) || p5)):=⟨_,_,_,_,_,rfl,rfl,rfl,rfl,rfl,rfl⟩;rw [hq];clear hq;cases p1 <;> cases p2 <;> cases p3 <;> cases p4 <;> cases p5
 all_goals
  go_enter Tryz.func160,Tryz.ntmps160
  go_wp2;go_ret;exact ⟨rfl,rfl⟩
theorem zc0 (b:Int) (w:World):Calls Tryz.prog 161 #[.int .u8 b] w fun e w'=>e=.returned (.bool (za9 b))/\w=w':=by
 obtain ⟨p1,p2,q1,q2,hq⟩:∃ p1 p2:Bool,decide (b >= 48)=p1/\decide (b<=57)=p2/\za9 b=(p1 && p2):=⟨_,_,rfl,rfl,rfl⟩;rw [hq];clear hq;cases p1 <;> cases p2
 all_goals
  go_enter Tryz.func161,Tryz.ntmps161
  go_wp2;go_ret;exact ⟨rfl,rfl⟩
theorem zg1 (b:Int) (w:World):Calls Tryz.prog 200 #[.int .u8 b] w fun e w'=>e=.returned (.bool (zeV b))/\w=w':=by
 obtain ⟨p1,p2,p3,q1,q2,q3,hq⟩:∃ p1 p2 p3:Bool,(b == 32)=p1/\(b == 9)=p2/\(b == 10)=p3/\zeV b=(p1 || (p2 || p3)):=⟨_,_,_,rfl,rfl,rfl,rfl⟩;rw [hq];clear hq;cases p1 <;> cases p2 <;> cases p3
 all_goals
  go_enter Tryz.func200,Tryz.ntmps200
  go_wp2;go_ret;exact ⟨rfl,rfl⟩
theorem zfv (b:Int) (w:World):Calls Tryz.prog 201 #[.int .u8 b] w fun e w'=>e=.returned (.bool (b != 10))/\w=w':=by
 go_enter Tryz.func201,Tryz.ntmps201
 go_wp2;go_ret;exact ⟨rfl,rfl⟩
theorem zh8 (b:Int) (w:World):Calls Tryz.prog 159 #[.int .u8 b] w fun e w'=>e=.returned (.bool (zaV b || za9 b))/\w=w':=by
 have HL:=zh (zbR b w);have HD:=zh (zc0 b w);generalize zaV b=p at HL ⊢;generalize za9 b=q at HD ⊢;cases p
 ·go_enter Tryz.func159,Tryz.ntmps159
  go_wp2_with fail
  go_at_call 160;refine HL.out.mono ?_;rintro e1 w2 ⟨rfl,rfl⟩;go_wp2_with fail
  go_at_call 161;refine HD.out.mono ?_;rintro e1 w2 ⟨rfl,rfl⟩;go_wp2_with fail
  go_ret;exact ⟨rfl,rfl⟩
 ·go_enter Tryz.func159,Tryz.ntmps159
  go_wp2_with fail
  go_at_call 160;refine HL.out.mono ?_;rintro e1 w2 ⟨rfl,rfl⟩;go_wp2_with fail
  go_ret;exact ⟨rfl,rfl⟩
theorem zlf (b z:Int) (lb:Nat) (q:Bool) (w:World) (hc:w.cell? ⟨lb,0,none⟩=some (.int .i64 z)) (hf:w.frozen? ⟨lb,0,none⟩=false) (h1 : -20000<=z) (h2:z<=100) (hq:decide (z - 1 >= 0)=q) :
  Calls Tryz.prog 166 #[.int .u8 b,.pointer (some ⟨lb,0,none⟩)] w fun e w'=>e=.returned (.bool q)/\w.setCell ⟨lb,0,none⟩ (.int .i64 (z - 1))=w':=by
 go_enter Tryz.func166,Tryz.ntmps166
 go_wp2;go_ret;exact ⟨by first | rfl | (rw [<- hq];rfl) | (rw [<- hq];simp),rfl⟩
theorem zmh (s:ByteArray) (h:0 < s.size):za4 s.data.toList=(decide (s.size<=24) && (zaH s[0] && (s.data.toList.drop 0).all zaf)):=by
 have e:=za2 s h;rw [List.drop_zero] at e ⊢;have e2:=zaq s;rw [e] at e2 ⊢;show (decide ((s[0] :: s.data.toList.drop (0+1)).length<=24) && zaH s[0] && (s.data.toList.drop (0+1)).all zaf)=_;rw [e2]
 cases hl:zaH s[0] with
 | false=>simp
 | true=>simp [List.all_cons,zcC hl]
theorem zlg (s:ByteArray) (w:World):Calls Tryz.prog 211 #[.string s] w fun e w'=>e=.returned (.bool (za4 s.data.toList))/\w=w':=by
 rcases Nat.eq_zero_or_pos s.size with h0 | h0
 ·have Hf:Hid (za4 s.data.toList=false):=zh (by
   have:s.data.toList=[]:=List.eq_nil_of_length_eq_zero (by rw [zaq];exact h0)
   rw [this];rfl)
  generalize za4 s.data.toList=final at Hf ⊢;have hz:(s.size:Int) < 1:=by omega
  clear h0;go_enter Tryz.func211,Tryz.ntmps211
  go_wp2_with fail
  go_ret;exact ⟨by rw [Hf.out];rfl,rfl⟩
 ·have hz:¬ (s.size:Int) < 1:=by omega
  have Hw:=zh (zmh s h0);generalize za4 s.data.toList=final at Hw ⊢;by_cases h24:s.size<=24
  ·have h24':¬ (s.size:Int) > 24:=by omega
   have h00:(0:Int) < s.size:=by omega
   have HL:=zh (zbR (s[0].toNat:Int) w);obtain ⟨p,hp,hp2⟩:∃ p:Bool,zaV (s[0].toNat:Int)=p/\zaH s[0]=p:=⟨_,rfl,rfl⟩;rw [hp] at HL;have Hw2:Hid (final=(p && (s.data.toList.drop 0).all zaf)):=zh (by rw [Hw.out,hp2,decide_eq_true h24,Bool.true_and]);have hb0:s[0].toNat<=255:=by have:=s[0].toNat_lt;omega
   clear hp hp2 Hw;cases p
   ·go_enter Tryz.func211,Tryz.ntmps211
    go_wp2_with fail
    go_at_call 160;refine HL.out.mono ?_;rintro e1 w2 ⟨rfl,rfl⟩;go_wp2_with fail
    go_ret;exact ⟨by rw [Hw2.out];rfl,rfl⟩
   ·go_enter Tryz.func211,Tryz.ntmps211
    go_wp2_with fail
    go_at_call 160;refine HL.out.mono ?_;rintro e1 w2 ⟨rfl,rfl⟩;go_wp2_with fail
    obtain ⟨wq,rfl⟩:∃ wq:World,wq=w:=⟨_,rfl⟩;go_loopw [2,3,20,21,22,23,24,25,26,27,28,29,30,31,32,33,34,35] (fun _ _ t20 _ _ _ _ _ _ _ _ _ _ _ _ _ _ _ wr=>∃ k:Nat,k<=s.size/\t20=.int .i64 k/\Hid (final=(s.data.toList.drop k).all zaf)/\wr=wq) (fun _ _ t20 _ _ _ _ _ _ _ _ _ _ _ _ _ _ _ _=>s.size - (intOf t20).toNat)
    case atStart=>exact ⟨0,by omega,rfl,zh (by rw [Hw2.out];rfl),rfl⟩
    case round =>
     obtain ⟨k,hk,rfl,Hk,rfl⟩:=hrel;by_cases hlt:k < s.size
     ·have hb1:s[k].toNat<=255:=by have:=s[k].toNat_lt;omega
      have HL2:=zh (zbR (s[k].toNat:Int) wr);have HD2:=zh (zc0 (s[k].toNat:Int) wr);obtain ⟨p,q,hp,hq,Hpq⟩:∃ p q:Bool,zaV (s[k].toNat:Int)=p/\za9 (s[k].toNat:Int)=q/\Hid (zaf s[k]=(p || q)):=⟨_,_,rfl,rfl,zh rfl⟩;rw [hp] at HL2;rw [hq] at HD2;have Hst:Hid (final=((p || q) && (s.data.toList.drop (k+1)).all zaf)):=zh (by rw [Hk.out,za2 s hlt,List.all_cons,Hpq.out]);clear hp hq;cases p
      ·cases q
       ·go_wp2_with fail
        go_at_call 160;refine HL2.out.mono ?_;rintro e1 w2 ⟨rfl,rfl⟩;go_wp2_with fail
        go_at_call 161;refine HD2.out.mono ?_;rintro e1 w2 ⟨rfl,rfl⟩;go_wp2_with fail
        go_ret;exact ⟨by rw [Hst.out];rfl,rfl⟩
       ·go_wp2_with fail
        go_at_call 160;refine HL2.out.mono ?_;rintro e1 w2 ⟨rfl,rfl⟩;go_wp2_with fail
        go_at_call 161;refine HD2.out.mono ?_;rintro e1 w2 ⟨rfl,rfl⟩;go_wp2_with fail
        go_roundw
        case rel=>exact ⟨k+1,by omega,by go_num,zh (by rw [Hst.out];rfl),by first | rfl | trivial⟩
        case measure=>simp [intOf];omega
      ·go_wp2_with fail
       go_at_call 160;refine HL2.out.mono ?_;rintro e1 w2 ⟨rfl,rfl⟩;go_wp2_with fail
       go_roundw
       case rel=>exact ⟨k+1,by omega,by go_num,zh (by rw [Hst.out];rfl),by first | rfl | trivial⟩
       case measure=>simp [intOf];omega
     ·have Hf:Hid (final=true):=zh (by rw [Hk.out,zdf s (by omega)];rfl);go_wp2_with fail
      go_ret;exact ⟨by rw [Hf.out];rfl,rfl⟩
  ·have h24':(s.size:Int) > 24:=by omega
   have Hf:Hid (final=false):=zh (by rw [Hw.out,decide_eq_false h24];rfl);clear Hw h24;go_enter Tryz.func211,Tryz.ntmps211
   go_wp2_with fail
   go_ret;exact ⟨by rw [Hf.out];rfl,rfl⟩
theorem zdn (l:List UInt8):(bstr l).data.toList=l:=by unfold bstr;simp
theorem zmk {l:List Tok} {i:Nat} (hi:i < l.length):zaa l i=l[i]:=by
 unfold zaa;rw [List.getD_eq_getElem?_getD,yD hi];rfl
theorem zaF {w:World} {l:List Tok} {a:Option Addr} {m cap:Nat} (h:Toks w l (.slice a m cap)) {i:Nat} (hi:i < l.length) :
  ∃ b off,a=some ⟨b,off,none⟩/\w.cell? ⟨b,off+i * 5,none⟩=some (.int .u8 (zaa l i).kind)/\w.cell? ⟨b,off+i * 5+1,none⟩=some (.string (bstr (zaa l i).text))/\w.cell? ⟨b,off+i * 5+2,none⟩=some (.int .i64 (zaa l i).n)/\w.cell? ⟨b,off+i * 5+3,none⟩=some (.int .i64 (zaa l i).line)/\w.cell? ⟨b,off+i * 5+4,none⟩=some (.int .i64 (zaa l i).col):=by
 obtain ⟨b,off,rfl,hlt,hb⟩:=Sl.at (by omega) h (by omega)
 have hc:∀ j,j < 5->w.cell? ⟨b,off+(i * 5+j),none⟩=(Tok.cells (zaa l i))[j]?:=by
  intro j hj;rw [hb (i * 5+j) (by omega),zeW Tok.cells 5 (fun _=>rfl) l i hi j hj];rw [zmk hi]
 exact ⟨b,off,rfl,hc 0 (by omega),hc 1 (by omega),hc 2 (by omega),hc 3 (by omega),hc 4 (by omega)⟩

theorem zdP (l m:List UInt8):(bstr l).toList == (bstr m).toList ↔ l=m:=by
 rw [beq_iff_eq,ByteArray.toList_eq,ByteArray.toList_eq,zdn,zdn]
def Strs (w : World) (l : List (List UInt8)) (v : Value) : Prop := Sl w 1 l.length (l.map fun s => Value.string (bstr s)) v
theorem zc5 {s:List UInt8} {l:List (List UInt8)} {k:Nat} (h:k < l.length):zai s (l.drop k) k=if l[k]=s then k+1 else zai s (l.drop (k+1)) (k+1):=by
 rw [List.drop_eq_getElem_cons h,zai]
theorem zdq {s:List UInt8} {l:List (List UInt8)} {k:Nat} (h:l.length<=k):zai s (l.drop k) k=0:=by
 rw [List.drop_of_length_le h,zai]
theorem Strs.cell {w:World} {l:List (List UInt8)} {a:Option Addr} {m cap:Nat} (h:Strs w l (.slice a m cap)) (hn:0 < l.length) :
  ∃ b off,a=some ⟨b,off,none⟩/\∀ (k:Nat) (h:k < l.length),w.cell? ⟨b,off+k,none⟩=some (.string (bstr l[k])):=by
 obtain ⟨b,off,rfl,hlt,hb⟩:=Sl.at (by omega) h hn;refine ⟨b,off,rfl,fun k hk=>?_⟩;rw [hb k (by omega),List.getElem?_map,yD hk];rfl
theorem zdg (s:List UInt8):zap s<=10:=by
 have key:∀ (l:List (List UInt8)) (k:Nat),zai s l k<=l.length+k:=by
  intro l
  induction l with
  | nil=>intro k;exact Nat.zero_le _
  | cons x l ih =>
   intro k;rw [zai,yB];split
   ·omega
   ·have:=ih (k+1);omega
 exact key kindWords 0
theorem zkC (s:List UInt8):∀ (l:List (List UInt8)) (k:Nat),zai s l (k+1)=if zai s l k=0 then 0 else zai s l k+1:=by
 intro l
 induction l with
 | nil=>intro k;rfl
 | cons x l ih =>
  intro k;by_cases h:x=s
  ·simp [zai,h]
  ·simp only [zai,h,if_false];exact ih (k+1)
theorem zgy (l:List (List UInt8)) (s:List UInt8) (v:Value) (w:World) (hS:Strs w l v) (hl:l.length<=1000000) :
  Calls Tryz.prog 167 #[v,.string (bstr s)] w fun e w'=>e=.returned (.int .i64 ((zai s l 0:Int) - 1))/\w=w':=by
 obtain ⟨a,cap,rfl,hc1,hc2⟩:=Sl.form hS;have HS:=zh hS;obtain ⟨final,hfin⟩:∃ r,zai s l 0=r:=⟨_,rfl⟩;have Hf:Hid (final=zai s (l.drop 0) 0):=zh (by rw [List.drop_zero,hfin]);rw [hfin];clear hfin hS;go_enter Tryz.func167,Tryz.ntmps167
 go_wp2_with fail
 obtain ⟨wq,rfl⟩:∃ wq:World,wq=w:=⟨_,rfl⟩;go_loopw [4,5,8,9,10,11,12,13,14,15,16,17,18] (fun _ _ t8 _ _ _ _ _ _ _ _ _ _ wr=>∃ k:Nat,k<=l.length/\t8=.int .i64 k/\Hid (final=zai s (l.drop k) k)/\wr=wq) (fun _ _ t8 _ _ _ _ _ _ _ _ _ _ _=>l.length - (intOf t8).toNat)
 case atStart=>exact ⟨0,by omega,by first | rfl | go_num,zh Hf.out,rfl⟩
 case round =>
  obtain ⟨k,hk,rfl,Hk,rfl⟩:=hrel;by_cases hlt:k < l.length
  ·obtain ⟨b,off,rfl,hcell⟩:=Strs.cell HS.out (by omega);have hlt1:(k:Int) < l.length:=by omega
   have c0:=hcell k hlt;have Hst:=zh (zc5 (s:=s) (l:=l) (k:=k) hlt);obtain ⟨q,hq,hq2⟩:∃ q:Bool,((bstr s).toList == (bstr l[k]).toList)=q/\(q=true ↔ l[k]=s):=⟨_,rfl,by rw [zdP];exact eq_comm⟩
   generalize l[k]=kw at *
   have Hq:=zh hq2;clear hq2 hcell;cases q
   ·have Hk2:Hid (final=zai s (l.drop (k+1)) (k+1)):=zh (by rw [Hk.out,Hst.out,yN (fun e=>by have:=Hq.out.2 e;cases this)]);go_wp2_with fail
    go_roundw
    case rel=>exact ⟨k+1,by omega,by go_num,zh Hk2.out,by first | rfl | trivial⟩
    case measure=>simp [intOf];omega
   ·have Hk2:Hid (final=k+1):=zh (by rw [Hk.out,Hst.out,yP (Hq.out.1 rfl)]);go_wp2_with fail
    go_ret;exact ⟨by rw [Hk2.out];simp;try omega,rfl⟩
  ·have hlt1:¬ (k:Int) < l.length:=by omega
   have Hk2:Hid (final=0):=zh (by rw [Hk.out,zdq (by omega)]);go_wp2_with fail
   go_ret;exact ⟨by rw [Hk2.out];rfl,rfl⟩
theorem zhA (l:List (List UInt8)) (s:List UInt8) (v:Value) (w:World) (hS:Strs w l v) (hl:l.length<=1000000) :
  Calls Tryz.prog 184 #[v,.string (bstr s)] w fun e w'=>e=.returned (.bool (decide (zai s l 0≠0)))/\w=w':=by
 have H:=zh (zgy l s v w hS hl);obtain ⟨a,cap,rfl,hc1,hc2⟩:=Sl.form hS
 generalize zai s l 0=p at *
 clear hS;obtain ⟨q,hq,hq2⟩:∃ q,decide (1<=(p:Int))=q/\decide (p≠0)=q:=⟨_,rfl,by rw [Bool.eq_iff_iff,yQ,yQ];omega⟩;rw [hq2];clear hq2;go_enter Tryz.func184,Tryz.ntmps184
 go_wp2_with fail
 go_at_call 167;refine H.out.mono ?_;rintro e1 w2 ⟨rfl,rfl⟩;go_wp2_with fail
 go_ret;exact ⟨rfl,rfl⟩
def kindWordsP : List (List UInt8) := [] :: kindWords
theorem zgz (w:World):Calls Tryz.prog 112 #[] w fun e w'=>∃ v,e=.returned v/\Strs w' kindWordsP v/\Below w.heap.size w w':=by
 go_enter Tryz.func112,Tryz.ntmps112
 go_wp2;go_ret;refine ⟨_,rfl,?_,(yR _ _).alloc (zr _) _⟩;exact Sl.of_own ((OwnV.new w 9 (kindWordsP.map fun s=>Value.string (bstr s))).own (zr _) rfl rfl (by decide))
theorem zmI (s:List UInt8):max ((zai s kindWordsP 0:Int) - 1) 0=zap s:=by
 unfold kindWordsP;rw [zai];by_cases h:[]=s
 ·rw [yP h,<- h];decide
 ·rw [yN h,zkC];have:zap s=zai s kindWords 0:=rfl;split <;> omega
theorem za5 (s:List UInt8) (w:World):Calls Tryz.prog 128 #[.string (bstr s)] w fun e w'=>e=.returned (.int .u8 (zap s))/\Below w.heap.size w w':=by
 have HK:=zh (zgz w);have hkp:=zmI s;have hk10:=zdg s
 generalize zap s=final at *
 have HI:Hid (∀ (v:Value) (w:World),Strs w kindWordsP v->Calls Tryz.prog 167 #[v,.string (bstr s)] w _):=zh (fun v w h=>zgy kindWordsP s v w h (by decide))
 generalize (zai s kindWordsP 0:Int) - 1=ix at *
 by_cases hix:0<=ix
 ·obtain rfl:ix=(final:Int):=by omega
  go_enter Tryz.func128,Tryz.ntmps128
  go_wp2_with fail
  go_at_call 112;refine HK.out.mono ?_;rintro e1 w2 ⟨v,rfl,hS,hb⟩;have Hb:=zh hb;have HI2:=zh (HI.out v w2 hS);clear hb hS HI;go_wp2_with fail
  go_at_call 167;refine HI2.out.mono ?_;rintro e2 w3 ⟨rfl,rfl⟩;go_wp2_with fail
  go_ret;exact ⟨rfl,Hb.out⟩
 ·have hf0:final=0:=by omega
  subst hf0;go_enter Tryz.func128,Tryz.ntmps128
  go_wp2_with fail
  go_at_call 112;refine HK.out.mono ?_;rintro e1 w2 ⟨v,rfl,hS,hb⟩;have Hb:=zh hb;have HI2:=zh (HI.out v w2 hS);clear hb hS HI;go_wp2_with fail
  go_at_call 167;refine HI2.out.mono ?_;rintro e2 w3 ⟨rfl,rfl⟩;go_wp2_with fail
  go_ret;exact ⟨rfl,Hb.out⟩
theorem zdr (s:List UInt8) (w:World):Calls Tryz.prog 171 #[.string (bstr s)] w fun e w'=>e=.returned (.bool (zaP s))/\Below w.heap.size w w':=by
 have HW:Hid (∀ w:World,_):=zh (fun w:World=>zlg (bstr s) w);obtain ⟨p,hp,Hp⟩:∃ p:Bool,za4 s=p/\Hid (zaP s=(p && decide (zap s=0) && decide (zai s keyWords 0=0))):=⟨_,rfl,zh rfl⟩;rw [zdn,hp] at HW;clear hp;have HK:Hid (∀ w:World,_):=zh (fun w:World=>za5 s w);obtain ⟨q,hq,hq2⟩:∃ q:Bool,((zap s:Int) == 0)=q/\decide (zap s=0)=q:=⟨_,rfl,by rw [Bool.eq_iff_iff,yQ,beq_iff_eq];omega⟩;rw [hq2] at Hp;have hk10:=zdg s;have HC:Hid (∀ (v:Value) (w:World),Strs w keyWords v->Calls Tryz.prog 184 #[v,.string (bstr s)] w _):=zh (fun v w h=>zhA keyWords s v w h (by decide));obtain ⟨r,hr,hr2⟩:∃ r:Bool,decide (zai s keyWords 0≠0)=r/\decide (zai s keyWords 0=0) = !r:=⟨_,rfl,by rw [Bool.eq_iff_iff];simp⟩;rw [hr] at HC;rw [hr2] at Hp
 generalize zap s=kn at *
 generalize zaP s=final at Hp ⊢;have HB0:Hid (Below w.heap.size w (w.alloc (.cells (keyWords.map fun s=>Value.string (bstr s)).toArray 9))):=zh ((yR _ _).alloc (zr _) _);have HS0:Hid (Strs (w.alloc (.cells (keyWords.map fun s=>Value.string (bstr s)).toArray 9)) keyWords (.slice (some ⟨w.heap.size,0,none⟩) 12 12)):=zh (Sl.of_own ((OwnV.new w 9 (keyWords.map fun s=>Value.string (bstr s))).own (zr _) rfl rfl (by decide)));clear hq2 hr hr2;cases p
 ·go_enter Tryz.func171,Tryz.ntmps171
  go_wp2_with fail
  go_at_call 211;refine (HW.out _).mono ?_;rintro e1 w2 ⟨rfl,rfl⟩;go_wp2_with fail
  go_ret;exact ⟨by rw [Hp.out];rfl,HB0.out⟩
 ·cases q
  ·go_enter Tryz.func171,Tryz.ntmps171
   go_wp2_with fail
   go_at_call 211;refine (HW.out _).mono ?_;rintro e1 w2 ⟨rfl,rfl⟩;go_wp2_with fail
   go_at_call 128;refine (HK.out _).mono ?_;rintro e2 w3 ⟨rfl,hb3⟩;have HB3:=zh (HB0.out.trans (hb3.mono HB0.out.size));clear hb3;go_wp2_with fail
   go_ret;exact ⟨by rw [Hp.out];rfl,HB3.out⟩
  ·go_enter Tryz.func171,Tryz.ntmps171
   go_wp2_with fail
   go_at_call 211;refine (HW.out _).mono ?_;rintro e1 w2 ⟨rfl,rfl⟩;go_wp2_with fail
   go_at_call 128;refine (HK.out _).mono ?_;rintro e2 w3 ⟨rfl,hb3⟩;have HS3:=zh (Sl.below (by omega) HS0.out hb3 (zr _));have HB3:=zh (HB0.out.trans (hb3.mono HB0.out.size));clear hb3;go_wp2_with fail
   go_at_call 184;refine (HC.out _ _ HS3.out).mono ?_;rintro e3 w4 ⟨rfl,rfl⟩;go_wp2_with fail
   go_ret;exact ⟨by rw [Hp.out];rfl,HB3.out⟩
def Good (l : List Tok) : Prop := ∃ ts t, l = ts ++ [t] /\ t.kind = 4 /\ ∀ u ∈ ts, u.kind ≠ 4
theorem zgS {t:Tok} {r:LexR} {l:List Tok} (h:r.cons t=.ok l):∃ m,r=.ok m/\l=t :: m:=by
 cases r with
 | ok m=>exact ⟨m,rfl,by simpa [LexR.cons] using h.symm⟩
 | err a b c=>cases h
theorem Good.push {t:Tok} {l:List Tok} (h:Good l) (ht:t.kind≠4):Good (t :: l):=by
 obtain ⟨ts,u,rfl,h1,h2⟩:=h;refine ⟨t :: ts,u,rfl,h1,fun v hv=>?_⟩;rcases List.mem_cons.1 hv with rfl | hv
 ·exact ht
 ·exact h2 v hv
theorem zmJ {go:List UInt8->Int->Int->LexR} (hgo:∀ bs a b l,go bs a b=.ok l->Good l) {bs:List UInt8} {a b:Int} {l:List Tok} (h:zaK go bs a b=.ok l):Good l:=by
 cases bs with
 | nil =>
  simp only [zaK,LexR.ok.injEq] at h
  exact ⟨[],_,h.symm,rfl,fun u hu=>absurd hu (by simp)⟩
 | cons x r =>
  simp only [zaK] at h;split at h
  ·split at h
   ·cases h
   ·obtain ⟨m,hm,rfl⟩:=zgS h;exact (hgo _ _ _ _ hm).push (by show (1:Int)≠4;decide)
  ·split at h
   ·split at h
    ·cases h
    ·obtain ⟨m,hm,rfl⟩:=zgS h;exact (hgo _ _ _ _ hm).push (by show (2:Int)≠4;decide)
   ·split at h
    ·cases h
    ·obtain ⟨m,hm,rfl⟩:=zgS h;exact (hgo _ _ _ _ hm).push (by show (3:Int)≠4;decide)
theorem znu:∀ (f:Nat) (bs:List UInt8) (a b:Int) (l:List Tok),zbr f bs a b=.ok l->Good l:=by
 intro f
 induction f with
 | zero=>intro bs a b l h;cases h
 | succ f ih =>
  intro bs a b l h;rw [zbr] at h;exact zmJ (fun bs a b l h=>ih bs a b l h) h
theorem ziD {bs:List UInt8} {l:List Tok} (h:lexS bs=.ok l):Good l:=by
 unfold lexS at h;split at h
 ·cases h
 ·exact znu _ _ _ _ _ h
theorem Good.next {l:List Tok} (h:Good l) {i:Nat} (hi:i < l.length) (hk:(zaa l i).kind≠4):i+1 < l.length:=by
 obtain ⟨ts,t,rfl,h1,h2⟩:=h;rcases Nat.lt_or_ge (i+1) (ts++[t]).length with h | h
 ·exact h
 ·exfalso;have e:i=ts.length:=by simp at hi h;omega
  subst e;apply hk;unfold zaa;simp [h1]
theorem Good.is_next {l:List Tok} (h:Good l) {i:Nat} (hi:i < l.length) {s:List UInt8} (hs:isS l i s=true):i+1 < l.length:=by
 refine h.next hi (fun e=>?_);unfold isS at hs;rw [e] at hs;simp at hs
def zb4 (l : List Tok) (i : Nat) (w w' : World) (e : Ending) : PR Ex -> Prop
  | .ok x j => ∃ v, e = .returned (.tuple #[v, .int .i64 j, .int .i64 0]) /\ ExV w' (fun g => w.heap.size <= g) x v /\ i < j /\ j < l.length
  | .err a c => ∃ (op n : Int) (nm : ByteArray) (ad : Option Addr) (m cp : Nat), e = .returned (.tuple #[.agg #[.int .u8 op, .int .i64 n, .string nm, .slice ad m cp], .int .i64 a, .int .i64 c]) /\ (c = 120 ∨ c = 121) /\ a < l.length
def ExprC (l : List Tok) (E : Nat -> Nat -> Nat -> PR Ex) (i : Nat) : Prop :=
  ∀ (k o least : Nat) (v : Value) (w : World), i < k -> k < l.length -> o <= 300 -> least <= 6 -> Toks w l v ->
    Calls Tryz.prog 218 #[v, .int .i64 k, .int .i64 o, .int .i64 least] w fun e w' => zb4 l k w w' e (E k o least) /\ Below w.heap.size w w'
theorem ExprC.mono {l:List Tok} {E:Nat->Nat->Nat->PR Ex} {i j:Nat} (h:ExprC l E i) (hij:i<=j):ExprC l E j:=
 fun k o least v w h1 h2 h3 h4 h5=>h k o least v w (by omega) h2 h3 h4 h5
theorem zck {w:World} {B:Nat} {e:TypeId} {sz:Nat} {v:Value} {n:Nat} {cs:List Value} (h:w.ownsRow B e sz v n cs):∀ g,v.ownBlock=some g->B<=g:=fun g hg=>(h.lt g hg).1
theorem ExsC.one {w:World} {P:Nat->Prop} {x:Ex} {cs:List Value} (h:ExsC w P [x] cs):∃ (op n:Int) (name:List UInt8) (args:List Ex) (aa:Option Addr) (cp:Nat),x=.mk op n name args/\cs=[.int .u8 op,.int .i64 n,.string (bstr name),.slice aa args.length cp]:=by
 cases h with
 | cons g1 g2 g3 g4 =>
 cases g4;obtain ⟨aa,acap,rfl,-,-⟩:=Sl.form g1;exact ⟨_,_,_,_,aa,acap,rfl,rfl⟩
theorem StsC.one {w:World} {P:Nat->Prop} {x:St} {cs:List Value} (h:StsC w P [x] cs):∃ (op n:Int) (name:List UInt8) (es:List Ex) (body els:List St) (ae ab al:Option Addr) (pe pb pl:Nat),x=.mk op n name es body els/\cs=[.int .u8 op,.int .i64 n,.string (bstr name),.slice ae es.length pe,.slice ab body.length pb,.slice al els.length pl]:=by
 cases h with
 | cons g1 g2 g3 b1 b2 b3 l1 l2 l3 g4 =>
 cases g4;obtain ⟨ae,pe,rfl,-,-⟩:=Sl.form g1;obtain ⟨ab,pb,rfl,-,-⟩:=Sl.form b1;obtain ⟨al,pl,rfl,-,-⟩:=Sl.form l1;exact ⟨_,_,_,_,_,_,ae,ab,al,pe,pb,pl,rfl,rfl⟩
theorem zcx {w:World} {P:Nat->Prop} {op n:Int} {name:List UInt8}:ExV w P (.mk op n name []) (.agg #[.int .u8 op,.int .i64 n,.string (bstr name),.slice none 0 0]):=⟨_,rfl,.cons (Sl.nil w 4) (.inl rfl) .nil .nil⟩
theorem ziE {l:List Tok} {E:Nat->Nat->Nat->PR Ex} {o:Nat} {s:List UInt8}:∀ (m:Nat) (xs:List Ex) (i:Nat) {ys:List Ex} {j:Nat},zav l E o s m xs i=.ok ys j->ys.length=xs.length+m:=by
 intro m
 induction m with
 | zero=>intro xs i ys j h;rw [zav] at h;split at h <;> cases h;rfl
 | succ m ih =>
  intro xs i ys j h;rw [zav] at h;split at h
  ·rename_i hx
   cases hE:E i (o+1) 1 with
   | err a c=>rw [hE] at h;cases h
   | ok x j2 =>
    rw [hE] at h;have:=ih _ _ h;rw [hx];simp only [List.length_singleton] at this;simp only [yL];omega
  ·split at h
   ·cases h
   ·cases hE:E (i+1) (o+1) 1 with
    | err a c=>rw [hE] at h;cases h
    | ok x j2 =>
     rw [hE] at h;have:=ih _ _ h;rw [yA,List.length_singleton] at this;omega
theorem zdC {l:List Tok} {E:Nat->Nat->Nat->PR Ex} {i o:Nat} {s s':List UInt8} {m:Nat} {ys:List Ex} {j:Nat} (h:zad l E i o s s' m=.ok ys j):ys.length=m:=by
 unfold zad at h
 cases he:zay l i s o with
 | err a c=>rw [he] at h;cases h
 | ok x j2 =>
  rw [he] at h;have:=ziE m [] _ h;simpa using this
end Go.Proofs.YtdhikpkecmaplaaGreatDoor
